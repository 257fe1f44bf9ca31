import Derived.Test.YtlohiljbghionaaGreatDoorX07
/- A part of a proof (no law is stated here). Made by program out of texts by AI agents. -/
noncomputable section
open Bool renaming and_eq_true -> zc, and_self -> z8, or_true -> yh
open Nat renaming eq_of_beq_eq_true -> zd, le_refl -> ze, beq -> zf, mul_le_mul_right -> zh, ble_eq_true_of_le -> zi, ble -> zl, add_mul -> zp, blt -> zr, succ_mul -> zt, zero_mul -> zu, lt_succ_self -> zz, beq_refl -> zL, min_eq_left -> zR, sub_self -> zX, mul_one -> zY, le_trans -> yb, add_assoc -> yf, add_comm -> yg
open Go.Pe.OK renaming pure -> zg
open Option.some renaming injEq -> zj
open List renaming mem_singleton -> zk, replicate -> zn, length_eq_zero_iff -> zo, drop_eq_getElem_cons -> zw, replicate_succ -> zx, all_eq_true -> zK, length_replicate -> zN, getElem?_append_right -> zO, getElem?_append_left -> zP, length_nil -> zQ, drop_zero -> zT, getElem?_range -> zW, flatten_cons -> zZ, ext_getElem? -> z6, getElem?_map -> z7, getElem_cons_zero -> yc, take_of_length_le -> yd, length_map -> ye
open Option renaming map_eq_some_iff -> zm, map_some -> zq, getD_some -> zU
open Int renaming ofNat -> zy, eq_ofNat_of_zero_le -> ya
open Prod.mk renaming injEq -> zM
open Go.Pe.Le renaming refl -> zS
open List.cons renaming injEq -> zV
open Go.Det.V renaming int -> yi
open Go.Pe renaming B1 -> yj
namespace Go.Pe
open Go.Det
section
variable {B:Nat}{h0:H0}{F:Fz}{ρ:DM}{N:Nat}{C:Ctx}{st st':AG}{fr:Fr}{h:H}
theorem SR.live(a:SR B h0 F ρ st.nx st.ob h){id:Nat}(c:Hu (st.obj id)=true):∃b n,ρ id=some (b,n):=by
 obtain⟨o,d⟩:=HM c;obtain⟨b,n,_,h1,_⟩:=a.at d;exact⟨b,n,h1⟩
theorem Dp{i:Int}(h:0<=i):∃n:Nat,i=zy n/\i.toNat=n:=⟨i.toNat,(Int.toNat_of_nonneg h).symm,rfl⟩
theorem Dq{a b:Nat}(h:a<b):zr a b=true:=zi h
theorem aA(I:SR B h0 F ρ st.nx st.ob h){t:TypeId}{p q:PV}{x y:V}(g:PR F ρ st.nx p x)(S:PR F ρ st.nx q y){v:PV}(a:(QV C.T t p q st).To v st'):
  OK B h0 F ρ st h [] (Bp h<|CO C.T t x y) v st':=by
 unfold QV at a;split at a
 case h_3=>simp at a
 case h_2=>
  rename_i A e k i J;obtain rfl:=De S;split at a
  case h_2=>simp at a
  rename_i G r;split at a
  case h_4=>simp at a
  case h_1=>
   rename_i id off;simp only[PR]at g;split at a
   case h_3=>exact wh a (by simp)
   case h_1=>
    rename_i W te s l P;cases E:(zf off 0&&zf G.size s.sz)with
    |false=>rw[E]at a;simp at a
    |true=>
     rw[E]at a;rw[zc]at E;have K:=zd E.1;have R:=zd E.2;subst K;simp only[we,BA,zc,w5]at a;obtain⟨⟨f,c⟩,rfl,rfl⟩:=a;obtain⟨n,rfl,hn⟩:=Dp f;have d:n<A:=by simp at c;exact c
     obtain⟨b,m,_,w,_⟩:=I.at P;obtain rfl:=g.2 b m w;refine zg I (v':=.ptr b<|0+n*G.size) ?_ ?_
     ·show Bp h (CO C.T t (.ptr b 0)<|.int k<|zy n)=_;simp only[CO,J,r,Dq d,we,Bp]
     ·simp only[PR];refine⟨g.1,fun b' n' D=>?_⟩;rw[w]at D;cases D;rw[hn,R,Nat.zero_add];rfl
   case h_2=>
    rename_i o _ P;simp only[BA,zc,w5]at a;obtain⟨⟨f,c⟩,rfl,rfl⟩:=a;obtain⟨n,rfl,hn⟩:=Dp f;have d:n<A:=by simp at c;exact c
    obtain⟨b,m,_,w,_⟩:=I.at P;obtain rfl:=g.2 b m w;refine zg I (v':=.ptr b<|off+n*G.size) ?_ ?_
    ·show Bp h (CO C.T t (.ptr b off)<|.int k<|zy n)=_;simp only[CO,J,r,Dq d,we,Bp]
    ·simp only[PR];refine⟨g.1,fun b' n' D=>?_⟩;rw[w]at D;cases D;rw[hn];rfl
  case h_2=>
   rename_i id sz j off;cases L:Hu (st.obj id)with
   |false=>rw[L]at a;simp at a
   |true=>
    rw[L]at a;simp only[we,BA,zc,w5]at a;obtain⟨⟨f,c⟩,rfl,rfl⟩:=a;obtain⟨n,rfl,hn⟩:=Dp f;have d:n<A:=by simp at c;exact c
    obtain⟨b,m,w⟩:=I.live L;simp only[PR]at g;obtain rfl:=g.2 b m w;refine zg I (v':=.ptr b<|j*sz+off+n*G.size) ?_ ?_
    ·show Bp h (CO C.T t (.ptr b<|j*sz+off)<|.int k<|zy n)=_;simp only[CO,J,r,Dq d,we,Bp]
    ·simp only[PR];refine⟨g.1,fun b' n' D=>?_⟩;rw[w]at D;cases D;rw[hn,yf];rfl
  case h_3=>
   rename_i s y off;simp only[BA,zc,w5]at a;obtain⟨⟨f,c⟩,rfl,rfl⟩:=a;obtain⟨n,rfl,hn⟩:=Dp f;have d:n<A:=by simp at c;exact c
   simp only[PR]at g;obtain⟨b,o,cs,rfl,w,M,U⟩:=g;refine zg I (v':=.ptr b<|o+off+n*G.size) ?_ ?_
   ·show Bp h (CO C.T t (.ptr b<|o+off)<|.int k<|zy n)=_;simp only[CO,J,r,Dq d,we,Bp]
   ·simp only[PR];refine⟨b,o,cs,?_,w,M,U⟩;rw[hn,yf];rfl
 case h_1=>
 rename_i e k i J;obtain rfl:=De S;split at a
 case h_2=>simp at a
 rename_i G r;split at a
 case h_3=>simp at a
 case h_1=>
  rename_i s l;cases z:zf G.size s.sz with
  |false=>rw[z]at a;simp at a
  |true=>
   rw[z]at a;have z:=zd z;simp only[we,BA,zc,w5]at a;obtain⟨⟨f,c⟩,rfl,rfl⟩:=a;obtain⟨n,rfl,hn⟩:=Dp f;have d:n<l.length:=by simp at c;exact c
   simp only[PR,DC]at g;obtain⟨u,O,g⟩:=g;obtain rfl:x=u:=by simpa using O
   rcases g with⟨rfl,_⟩|⟨b,off,cap,o,Y,rfl,w,M,U,_,Z⟩
   ·simp at d
   ·refine zg I (v':=.ptr b<|off+n*G.size) ?_ ?_
    ·show Bp h (CO C.T t (.sl b off l.length cap o)<|.int k<|zy n)=_;simp only[CO,J,r,Dq d,we,Bp]
    ·simp only[PR];refine⟨b,off+n*s.sz,Y,by rw[z];rfl,M,?_,?_⟩
     ·have:(n+1)*s.sz<=l.length*s.sz:=zh _ d;rw[zt]at this;omega
     ·have:=Z n d;rw[hn,show l.getD n s.GB=l[n]from by simp[d]];exact this
 case h_2=>
  rename_i id sz off len cap;cases z:(zf G.size sz&&Hu (st.obj id))with
  |false=>rw[z]at a;simp at a
  |true=>
   rw[z]at a;simp only[zc]at z;obtain⟨z,L⟩:=z;have z:=zd z;simp only[we,BA,zc,w5]at a;obtain⟨⟨f,c⟩,rfl,rfl⟩:=a;obtain⟨n,rfl,hn⟩:=Dp f;have d:n<len:=by simp at c;exact c
   obtain⟨b,m,w⟩:=I.live L;simp only[PR]at g;rcases g.2 b m w with⟨_,_,o,_,rfl⟩|⟨e0,_⟩
   ·refine zg I (v':=.ptr b<|off*sz+n*G.size) ?_ ?_
    ·show Bp h (CO C.T t (.sl b (off*sz) len _ o)<|.int k<|zy n)=_;simp only[CO,J,r,Dq d,we,Bp]
    ·simp only[PR];refine⟨g.1,fun b' n' D=>?_⟩;rw[w]at D;cases D;rw[z,hn];show V.ptr b (off*sz+n*sz)=.ptr b ((n+off)*sz+0);rw[zp,yg<|n*sz];rfl
   ·omega
theorem fV(D:SR B h0 F ρ st.nx st.ob h){t:TypeId}{p q:PV}{x y:V}(o:PR F ρ st.nx p x)(I:PR F ρ st.nx q y){v:PV}(b:(Up C.T t p q st).To v st'):
  OK B h0 F ρ st h [] (Bp h<|GN C.T t x y) v st':=by
 unfold Up at b;split at b
 case h_3=>simp at b
 case h_2=>
  rename_i m e ps k i E;obtain rfl:=De I;split at b
  case h_2=>simp at b
  rename_i d z G f;simp only[Nz,zc,w5]at b;obtain⟨⟨g,a⟩,j,rfl⟩:=b;obtain⟨n,rfl,hn⟩:=Dp g;have c:n<m:=by simp at a;exact a
  simp only[PR]at o;obtain⟨cs,rfl,r⟩:=o;rw[K2,hn]at j;have K:=r.drop<|n*z.size;have l:GN C.T t (.agg cs) (.int k<|zy n)=Kd C.T e cs (n*z.size):=by simp only[GN,E,f,Dq c,we]
  rcases J9 K j with⟨w,_,_,A⟩|⟨w,u,M,L,A⟩
  ·exact zg D (by rw[l];simp only[Kd,G,f,w,we,Bp]) A
  ·have:cs[n*z.size]?=some u:=by
    have:=wi (·[0]?) L;simpa using this
   exact zg D (by rw[l];simp only[Kd,G,f,w,wg,this,Bp]) A
 case h_1=>
 rename_i s k i E;obtain rfl:=Fe o;obtain rfl:=De I;simp only[BA,zc,w5]at b;obtain⟨⟨g,a⟩,rfl,rfl⟩:=b;obtain⟨n,rfl,hn⟩:=Dp g;have c:n<List.length s:=by simp at a;exact a
 have J:(s:Z)[n]?=some (s:Z)[n]:=List.getElem?_eq_getElem c;refine zg D (v':=.int .u8 ((s:Z)[n].toNat:Int)) ?_ ?_
 ·show Bp h (GN C.T t (.str s)<|.int k<|zy n)=_;simp only[GN,E,J,Bp]
 ·rw[hn,show List.getD (s:Z) n 0=(s:Z)[n]from by simp[c]];exact C3 _ _
theorem X5(c:SR B h0 F ρ st.nx st.ob h){p:PV}{x:V}(b:PR F ρ st.nx p x){i:Nat}{v:PV}(a:(NY p i st).To v st'):OK B h0 F ρ st h [] (Bp h<|Gk x i) v st':=by
 unfold NY at a;split at a
 case h_2=>simp at a
 rename_i ps;split at a
 case h_2=>simp at a
 rename_i q d;simp only[AO]at a;obtain⟨rfl,rfl⟩:=a;simp only[PR]at b;obtain⟨cs,rfl,hps⟩:=b;obtain⟨u,h1,h2⟩:=hps.get d;exact zg c (by simp only[Gk,h1,Bp]) h2
def RQ(F:Fz)(ρ:DM)(N:Nat):Option PV->Option V->Prop
 |none,x=>x=none
 |some p,x=>∃v,x=some v/\PR F ρ N p v
theorem DD{o:Option PV}{x:Option V}{d:Nat}{c:Bool}{n:Nat}(b:RQ F ρ N o x)(a:pb o d=some (c,n))(e:c=true){y:Nat}(f:n<=y):Cn x y d=some n:=by
 unfold pb at a;split at a
 ·cases a;simp only[RQ]at b;subst b;rfl
 ·cases a;simp only[RQ]at b;obtain⟨v,rfl,g⟩:=b;obtain rfl:=De g;simp only[w5]at e;obtain⟨m,rfl,hm⟩:=Dp e;rw[hm]at f;show(bif zl m y then some m else none)=_;rw[zi f,hm];rfl
 ·cases a
theorem RQ.isNone{o:Option PV}{x:Option V}(a:RQ F ρ N o x):(o=none↔x=none):=by
 cases o with
 |none=>simp only[RQ]at a;simp[a]
 |some p=>simp only[RQ]at a;obtain⟨v,rfl,_⟩:=a;simp
theorem KU{T:BR}{t e:TypeId}{g:TI}{b off len cap o m d l:Nat}{lo c mx:Option V}(p:T.und t=some (.slice e))(a:T.inf e=some g)(i:Cn mx cap cap=some m)(j:Cn c m len=some d)
  (k:Cn lo d 0=some l) (f:c=none->mx=none):
  Dg T t (.sl b off len cap o) lo c mx=bif zf m l then(bif zf (Jc mx o) 0 then some (.sl b off (d-l) (m-l) 0)else some .esl)
   else bif zf (Jc mx o) 0||zf (Jc mx o) g.size then some (.sl b (off+l*g.size) (d-l) (m-l)<|Jc mx o)else none:=by
 cases c with
 |some x=>cases mx<;>simp only[Dg,p,a,i,j,k]
 |none=>
  cases f rfl;simp only[Dg,p,a,i,j,k]
theorem bO(I:SR B h0 F ρ st.nx st.ob h){t:TypeId}{p:PV}{x:V}{lo hi mx:Option PV}{a b c:Option V}(E:PR F ρ st.nx p x)(S:RQ F ρ st.nx lo a)(r:RQ F ρ st.nx hi b)(k:RQ F ρ st.nx mx c)
  {v:PV} (d:(QF C.T t p lo hi mx st).To v st'):OK B h0 F ρ st h [] (Bp h<|Dg C.T t x a b c) v st':=by
 unfold QF at d;split at d
 case h_3=>simp at d
 case h_1=>
  rename_i W;split at d
  case h_2=>simp at d
  rename_i s;obtain rfl:=Fe E;split at d
  case h_2=>simp at d
  rename_i c1 l c2 j f g;simp only[BA,zc,w5]at d;obtain⟨⟨⟨⟨k1,O⟩,Y⟩,L⟩,rfl,rfl⟩:=d;simp only[RQ]at k;subst k;have K:=DD S f k1 Y;have w:=DD r g O L;exact zg I (by simp only[Dg,W,K,w,Bp];rfl)<|Ru _
 case h_2=>
  rename_i e W;split at d
  case h_2=>simp at d
  rename_i ti y;split at d
  case h_4=>simp at d
  case h_1=>
   rename_i s xs;cases A:zf ti.size s.sz with
   |false=>rw[A]at d;simp at d
   |true=>
    rw[A]at d;have A:=zd A;simp only[we]at d;split at d
    case h_2=>simp at d
    rename_i c1 l c2 j f g;simp only[BA,zc,w5]at d;obtain⟨⟨⟨⟨k1,O⟩,Y⟩,L⟩,rfl,rfl⟩:=d;simp only[RQ]at k;subst k;have K:=DD S f k1 Y;simp only[PR,DC]at E;obtain⟨u,hu1,E⟩:=E;obtain rfl:x=u:=by simpa using hu1
    rcases E with⟨rfl,rfl|rfl|rfl⟩|⟨bb,off,cap,o,bs,rfl,P,h2,h3,h5,h4⟩
    ·have w:=DD r g O L;simp only[zQ]at w L;refine zg I (v':=.nils) (by simp only[Dg,W,show Cn none 0 0=some 0 from rfl,show aI b none=Cn b 0 0 from by cases b<;>rfl,K,w,y,Bp]) ?_;simp[PR,DC]
    ·have w:=DD r g O L;simp only[zQ]at w L;refine zg I (v':=.esl) (by simp only[Dg,W,show Cn none 0 0=some 0 from rfl,show aI b none=Cn b 0 0 from by cases b<;>rfl,K,w,y,Bp,N4,wg]) ?_;simp[PR,DC]
    ·have w:=DD r g O L;simp only[zQ]at w L;refine zg I (v':=.es0) (by simp only[Dg,W,show Cn none 0 0=some 0 from rfl,show aI b none=Cn b 0 0 from by cases b<;>rfl,K,w,y,Bp]) ?_;simp[PR,DC]
    ·have w:Cn b cap xs.length=some j:=DD r g O<|yb L P;have J:=KU (b:=bb) (off:=off) (len:=xs.length) (cap:=cap) (o:=o) (mx:=none) W y rfl w K (fun _=>rfl);have D:((xs.drop l).take<|Nat.sub j l).length=j-l:=by
      have:Nat.sub j l=j-l:=rfl;rw[this];simp;omega
     by_cases hcl:cap=l
     ·have R:j=l:=by omega
      have hemp:(xs.drop l).take (Nat.sub j l)=[]:=by
       apply List.eq_nil_of_length_eq_zero;rw[D];omega
      rw[hemp];by_cases Z:o=0
      ·refine zg I (v':=.sl bb off (j-l) (cap-l) 0) ?_ ?_
       ·have:Jc none o=0:=Z;rw[J,this,hcl,zL];rfl
       ·simp only[PR,DC];exact⟨_,rfl,.inr ⟨bb,off,cap-l,0,bs,by simp[R],by simp,h2,by simp;omega,.inl rfl,fun i hi=>by simp at hi⟩⟩
      ·refine zg I (v':=.esl) ?_ ?_
       ·have P:zf (Jc none o) 0=false:=by rw[Bf];simp[Jc,Z]
        rw[J,P,hcl,zL];rfl
       ·simp[PR,DC]
     ·refine zg I (v':=.sl bb (off+l*ti.size) (j-l) (cap-l) o) ?_ ?_
      ·have f:zf cap l=false:=by rw[Bf];simp[hcl]
       have Z:(zf (Jc none o) 0||zf (Jc none o) ti.size)=true:=by
        rcases h5 with rfl|rfl
        ·rfl
        ·rw[A];show(zf s.sz 0||zf s.sz s.sz)=true;rw[zL,yh]
       rw[J,f,Z];rfl
      ·simp only[PR,DC];refine⟨_,rfl,.inr ⟨bb,off+l*ti.size,cap-l,o,bs,by rw[D],by rw[D];omega,h2,?_,h5,fun i hi=>?_⟩⟩
       ·rw[D,A];have:(l+(j-l))*s.sz<=xs.length*s.sz:=zh _ (by omega);rw[zp]at this;omega
       ·rw[D]at hi;have hi2:l+i<xs.length:=by omega
        have:=h4 (l+i) hi2;rw[List.getElem_take,List.getElem_drop,A];rw[zp, <-yf]at this;exact this
  case h_2=>
   rename_i id sz off len cap;cases A:(zf ti.size sz&&Hu (st.obj id))with
   |false=>rw[A]at d;simp at d
   |true=>
    rw[A]at d;simp only[zc]at A;obtain⟨A,hl⟩:=A;have A:=zd A;simp only[we]at d;have hno:¬(hi=none/\mx≠none):=by
     rintro⟨rfl,hm⟩;cases mx with
     |none=>exact hm rfl
     |some _=>simp at d
    split at d
    case h_1=>simp at d
    split at d
    case h_2=>simp at d
    rename_i c1 l c2 j c3 m f g hb3;simp only[BA,zc,w5]at d;obtain⟨⟨⟨⟨⟨⟨⟨k1,O⟩,Y⟩,L⟩,k5⟩,k6⟩,k7⟩,rfl,rfl⟩:=d;have K:=DD S f k1 L;have e3:=DD k hb3 Y k6;have w:=DD r g O k5;have hno':b=none->c=none:=by
     intro hbn;cases hcc:c with
     |none=>rfl
     |some z=>
      exfalso;apply hno;exact⟨r.isNone.2 hbn,fun e=>by have:=k.isNone.1 e;rw[this]at hcc;cases hcc⟩
    obtain⟨b0,n0,P⟩:=I.live hl;simp only[PR]at E;rcases E.2 b0 n0 P with⟨g1,g2,o,g3,rfl⟩|⟨rfl,rfl,g2,g3⟩
    ·have J:=KU (b:=b0) (off:=off*sz) (len:=len) (cap:=cap.getD len) (o:=o) W y e3 w K hno';have hoz:Jc c o=0\/Jc c o=sz:=by
      unfold Jc;cases c with
      |none=>exact g3
      |some _=>exact .inl rfl
     by_cases M:m=l
     ·have R:j-l=0:=by omega
      by_cases Z:Jc c o=0
      ·refine zg I (v':=.sl b0 (off*sz) (j-l) (m-l) 0) ?_ ?_
       ·rw[J,Z,M,zL];rfl
       ·unfold PR;refine⟨E.1,fun b' n' G=>.inr ?_⟩;rw[P]at G;cases G;refine⟨R,?_,?_,.inr ⟨off*sz,by rw[R,M,zX],zh _<|Nat.le_add_right _ _⟩⟩
        ·show some (m-l)=some 0;rw[M,zX]
        ·show off+l<=n0;omega
      ·refine zg I (v':=.esl) ?_ ?_
       ·have hb0:zf (Jc c o) 0=false:=by rw[Bf];simp[Z]
        rw[J,hb0,M,zL];rfl
       ·unfold PR;refine⟨E.1,fun b' n' G=>.inr ?_⟩;rw[P]at G;cases G;refine⟨R,?_,?_,.inl rfl⟩
        ·show some (m-l)=some 0;rw[M,zX]
        ·show off+l<=n0;omega
     ·refine zg I (v':=.sl b0 (off*sz+l*ti.size) (j-l) (m-l)<|Jc c o) ?_ ?_
      ·have f:zf m l=false:=by rw[Bf];simp[M]
       have Z:(zf (Jc c o) 0||zf (Jc c o) ti.size)=true:=by
        rcases hoz with e|e
        ·rw[e];rfl
        ·rw[e,A,zL,yh]
       rw[J,f,Z];rfl
      ·unfold PR;refine⟨E.1,fun b' n' G=>.inl ?_⟩;rw[P]at G;cases G;refine⟨?_,?_,Jc c o,hoz,?_⟩
       ·show j-l<=m-l;omega
       ·show off+l+(m-l)<=n0;omega
       ·show V.sl b0 (off*sz+l*ti.size) (j-l) (m-l) (Jc c o)=.sl b0 ((off+l)*sz) (j-l) (m-l) (Jc c o);rw[A,zp]
    ·simp only[zU]at k6 k7 e3;obtain rfl:m=0:=by omega
     obtain rfl:j=0:=by omega
     obtain rfl:l=0:=by omega
     have hc:c=none:=by
      cases mx with
      |none=>exact k
      |some _=>simp[has]at k7
     subst hc;rcases g3 with rfl|⟨U,rfl,g4⟩
     ·refine zg I (v':=.esl) (by simp only[Dg,W,y,show Cn none 0 0=some 0 from rfl,show aI b none=Cn b 0 0 from by cases b<;>rfl,w,K,Bp,N4,wg]) ?_;unfold PR;exact⟨E.1,fun b' n' G=>.inr ⟨by rfl,by rfl,by rw[P]at G;cases G;exact g2,.inl rfl⟩⟩
     ·refine zg I (v':=.sl b0 U 0 0 0) ?_ ?_
      ·rw[KU (mx:=none) W y rfl w K (fun _=>rfl)];rfl
      ·unfold PR;refine⟨E.1,fun b' n' G=>.inr ⟨rfl,rfl,?_,.inr ⟨U,?_,?_⟩⟩⟩
       ·rw[P]at G;cases G;exact g2
       ·rw[P]at G;cases G;rfl
       ·show U<=(off+0)*sz;exact g4
  case h_3=>
   split at d
   case h_3=>simp at d
   case h_2=>
    rename_i c1 l c2 j q f g;split at d
    case h_2=>simp at d
    rename_i p' c3 m hb3;simp only[BA,zc,w5]at d;obtain⟨⟨⟨⟨⟨⟨k1,O⟩,k5⟩,Y⟩,L⟩,k6⟩,rfl,rfl⟩:=d;have K:=DD S f k1 Y;have w:=DD r g O (show j<=0 by omega);have e3:=DD k hb3 k5 k6;simp only[PR]at E;subst E;cases b with
    |none=>simp[RQ]at r
    |some b=>exact zg I (v':=.nils) (by simp only[Dg,W,e3,show aI (some b) c=Cn (some b) 0 0 from by cases c<;>rfl,w,K,y,Bp]) (by simp[PR])
   rename_i c1 l c2 j f g;simp only[BA,zc,w5]at d;obtain⟨⟨⟨⟨k1,O⟩,Y⟩,L⟩,rfl,rfl⟩:=d;simp only[RQ]at k;subst k;have K:=DD S f k1 Y;have w:=DD r g O L;simp only[PR]at E;subst E;exact zg I (v':=.nils) (by simp only[Dg,W,show Cn none 0 0=some 0 from rfl,show aI b none=Cn b 0 0 from by cases b<;>rfl,K,w,y,Bp]) (by simp[PR])
theorem gG(c:SR B h0 F ρ st.nx st.ob h){t:TypeId}{p q:PV}{x y:V}(a:PR F ρ st.nx p x)(d:PR F ρ st.nx q y){v:PV}(b:(Y5 C.T t p q st).To v st'):
  OK B h0 F ρ st h [] (Bp h<|CO C.T t x y) v st':=aA c a.lz d b
theorem iP(k:SR B h0 F ρ st.nx st.ob h){t:TypeId}{p:PV}{x:V}{lo g mx:Option PV}{a b c:Option V}(i:PR F ρ st.nx p x)(d:RQ F ρ st.nx lo a)(f:RQ F ρ st.nx g b)(e:RQ F ρ st.nx mx c)
  {v:PV} (j:(cS C.T t p lo g mx st).To v st'):OK B h0 F ρ st h [] (Bp h<|Dg C.T t x a b c) v st':=bO k i.lz d f e j
theorem MR.len{ks vs:Sh}{l:List (ks.T×vs.T)}{es:List (V×V×Nat)}(h:MR F ks vs l es):l.length=es.length:=by
 induction h with
 |nil=>rfl
 |cons _ _ _ a=>simp[a]
theorem qI(f:SR B h0 F ρ st.nx st.ob h){ts:Array TypeId}{ps:List PV}{xs:List V}(d:A9 F ρ st.nx ps xs){v:PV}(c:(SI C.T ts ps st).To v st'):OK B h0 F ρ st h [] (Bp h<|Fm C.T h ts xs) v st':=by
 unfold SI at c;split at c
 case h_2=>simp at c
 rename_i t p a;simp only[A9]at d;obtain⟨x,i,rfl,d,rfl⟩:=d;split at c
 case h_6=>simp at c
 case h_1=>
  rename_i s e;simp only[AO]at c;obtain⟨rfl,rfl⟩:=c;obtain rfl:=Fe d;exact zg f (by simp only[Fm,a,e,Bp];rfl)<|C3 _ _
 case h_2=>
  rename_i s l e;simp only[AO]at c;obtain⟨rfl,rfl⟩:=c;simp only[PR,DC]at d;obtain⟨u,hu1,d⟩:=d;obtain rfl:x=u:=by simpa using hu1
  rcases d with⟨rfl,rfl|rfl|rfl⟩|⟨b,off,cap,o,k,rfl,_⟩
  ·exact zg f (by simp only[Fm,a,e,Bp];rfl)<|C3 _ _
  ·exact zg f (by simp only[Fm,a,e,Bp];rfl)<|C3 _ _
  ·exact zg f (by simp only[Fm,a,e,Bp];rfl)<|C3 _ _
  ·exact zg f (by simp only[Fm,a,e,Bp];rfl)<|C3 _ _
 case h_3=>
  rename_i id sz off len cap e;cases g:Hu (st.obj id)with
  |false=>rw[g]at c;simp at c
  |true=>
   rw[g]at c;simp only[we,AO]at c;obtain⟨rfl,rfl⟩:=c;obtain⟨b,n,h1⟩:=f.live g;simp only[PR]at d;rcases d.2 b n h1 with⟨_,_,o,_,rfl⟩|⟨rfl,_,_,rfl|⟨_,rfl,_⟩⟩
   ·exact zg f (by simp only[Fm,a,e,Bp];rfl)<|C3 _ _
   ·exact zg f (by simp only[Fm,a,e,Bp];rfl)<|C3 _ _
   ·exact zg f (by simp only[Fm,a,e,Bp];rfl)<|C3 _ _
 case h_4=>
  rename_i e;simp only[AO]at c;obtain⟨rfl,rfl⟩:=c;simp only[PR]at d;subst d;exact zg f (by simp only[Fm,a,e,Bp];rfl)<|C3 _ _
 case h_5=>
  rename_i id e;split at c
  case h_2=>simp at c
  rename_i ks vs l j;simp only[AO]at c;obtain⟨rfl,rfl⟩:=c;obtain⟨b,n,y,h1,h2,⟨es,clk,rfl,h3⟩,_⟩:=f.at j;simp only[PR]at d;obtain rfl:=d.2 b n h1;have g:l.length=es.length:=h3.len;refine zg f (v':=i64 es.length) (by simp only[Fm,a,e,h2,Bp]) ?_;rw[<-g];exact C3 _ _
theorem vC(b:SR B h0 F ρ st.nx st.ob h){ts:Array TypeId}{ps:List PV}{xs:List V}(a:A9 F ρ st.nx ps xs){v:PV}(c:(jQ C.T ts ps st).To v st'):OK B h0 F ρ st h [] (Bp h<|Fm C.T h ts xs) v st':=qI b a.lz c
theorem uC(o:SR B h0 F ρ st.nx st.ob h){f:Int->Int->Int}{g:V->V->Option V}(m:∀k x y,g (.int k x) (.int k y)=some (.int k<|f x y)){ps:List PV}{xs:List V}(b:A9 F ρ st.nx ps xs){v:PV}
  (c:(MD f ps st).To v st'):OK B h0 F ρ st h [] (Bp h<|FB g xs) v st':=by
 have key:∀(ps:List PV) (xs:List V) (k:IntKind) (x z:Int),A9 F ρ st.nx ps xs->uW f k x ps=some z->dfold g (.int k x) xs=some (.int k z):=by
  intro ps;induction ps with
  |nil=>intro xs k x z b a;simp at b;subst b;simp only[uW,zj]at a;subst a;rfl
  |cons p ps s=>
   intro xs k x z b a;simp only[A9]at b;obtain⟨u,l,rfl,i,j⟩:=b;unfold uW at a;split at a
   case h_1=>rename_i e;cases e
   case h_2=>
    rename_i e;cases e;rename_i q y;cases d:(k==q)with
    |false=>rw[d]at a;cases a
    |true=>
     rw[d]at a;have d:=wj.1 d;subst d;obtain rfl:=De i;simp only[dfold,m];exact s l k _ z j a
   case h_3=>cases a
 unfold MD at c;split at c
 case h_2=>simp at c
 rename_i k x r;split at c
 case h_2=>simp at c
 rename_i z a;simp only[AO]at c;obtain⟨rfl,rfl⟩:=c;simp only[A9]at b;obtain⟨u,l,rfl,i,j⟩:=b;obtain rfl:=De i;exact zg o (v':=.int k z) (by simp only[FB,key r l k x z j a,Bp])<|C3 _ _
theorem OK.new(c:SR B h0 F ρ st.nx st.ob h){o:Obj}{x:O}{n:Nat}(d:o.frozen=false)(a:VR F (BB ρ st.nx<|some (h.nx,n)) (st.nx+1) n o x){v:PV}{v':V}
  (e:PR F (BB ρ st.nx<|some (h.nx,n)) (st.nx+1) v v'):OK B h0 F ρ st h [] (EK<|some (v',h.push x)) v (st.push o):=by
 refine⟨v',h.push x,F,_,.inl rfl,e,c.push d a,Le.new _,rfl,rfl,Nat.le_succ _,fun b f=>.inl ?_⟩;rw[H.Bz,wc<|by omega]
theorem J1{n:Nat}:PR F (BB ρ N<|some (h.nx,n)) (N+1) (.ptr N 0) (.ptr h.nx 0):=by
 unfold PR;exact⟨zz _,fun b m a=>by simp[BB]at a;rw[a.1]⟩
theorem qQ{F:Fz}:∀ {s:Sh} {v:V},rO s v=true->DC F s s.GB [v]
 | .bool,.bool b,h=>by
  have:b=false:=by simpa [rO]using h
  subst this;simp[DC,Sh.GB]
 | .int k,.int a n,h=>by
  unfold rO at h;rw[zc,w5,w5]at h;obtain⟨rfl,rfl⟩:=h;simp[DC,Sh.GB]
theorem jO{T:BR}{t:TypeId}{s:Sh}{n:Nat}(h:rF T t=some (s,n)):∃i,T.inf t=some i/\n=i.zero.length/\(∀v∈i.zero,rO s v=true)/\s.sz=1:=by
 unfold rF at h;split at h
 case h_2=>cases h
 rename_i i e c;split at h
 case h_2=>cases h
 rename_i d b;cases a:(zl 32 (Det.EC i.zero)&&Det.J2 (rO d) i.zero)with
 |false=>rw[a]at h;cases h
 |true=>
  rw[a]at h;cases h;rw[zc,EX]at a;refine⟨i,c,CQ ..,zK.1 a.2,?_⟩;unfold yA at b;split at b<;>first|(cases b;rfl)|cases b
theorem iC(e:SR B h0 F ρ st.nx st.ob h){t:TypeId}{v:PV}(c:(Qk t C.T st).To v st'):OK B h0 F ρ st h [] (EK<|F4 C.T h t) v st':=by
 unfold Qk Y7 at c;split at c
 case h_1=>
  rename_i s n l;simp only[AO]at c;obtain⟨rfl,rfl⟩:=c;obtain⟨i,g,rfl,hall,hs⟩:=jO l;have:F4 C.T h t=some (.ptr h.nx 0,h.push<|.cells i.zero t (0,0)):=by simp[F4,g,H9]
  rw[this];refine OK.new e (o:=.arr false t s<|zn i.zero.length s.GB) (n:=i.zero.length) rfl ⟨_,_,rfl,⟨by rw[zN,hs,zY],fun j k=>?_⟩,ze _,zN ..⟩ J1;have d:j<i.zero.length:=by simpa using k
  have:=hall i.zero[j]<|List.getElem_mem d;rw[List.getElem_replicate,hs,zY,zw d];exact qQ this
 split at c
 case h_2=>exact wh c (by simp)
 rename_i cs a;rw[Option.bind_eq_some_iff]at a;obtain⟨i,g,a⟩:=a;cases b:J2 V.ok i.zero with
 |false=>rw[b]at a;cases a
 |true=>
 rw[b]at a;cases a;rw[EX]at b;simp only[AO]at c;obtain⟨rfl,rfl⟩:=c;have:F4 C.T h t=some (.ptr h.nx 0,h.push<|.cells i.zero t (0,0)):=by simp[F4,g,H9]
 rw[this];cases nA C.T t with
 |true=>exact OK.new e (o:=.tbox t<|i.zero.map Ue) (n:=0) rfl ⟨_,_,rfl,D0 _,ze _,fun u f=>zK.1 b u f⟩ J1
 |false=>exact OK.new e (o:=.box<|i.zero.map Ue) (n:=0) rfl ⟨_,_,_,rfl,D0 _,ze _,fun u f=>zK.1 b u f⟩ J1
theorem tH(b:SR B h0 F ρ st.nx st.ob h){t:TypeId}{p:PV}{x:V}(c:PR F ρ st.nx p x){cs:List PV}(a:rQ st p=some cs)(e:cs.all (Jh st)=true):OK B h0 F ρ st h [] (EK<|some<|X1 h t x) (.ptr st.nx 0) (st.push<|.box cs):=
 OK.new b (o:=.box cs) (n:=0) rfl ⟨_,_,_,rfl,(Mr b c a).mono<|Le.new _,ze _,fun u d=>V.KN<|zK.1 (Jw b e<|Mr b c a) u d⟩ J1
theorem Ix(q:SR B h0 F ρ st.nx st.ob h){place:Nat->Option (Nat×Nat)}:∀ {l:List (Nat×PV)} {l':List (Nat×V)},pE F ρ st.nx l l'->∀ {cs:List PV} {xs:List V},A9 F ρ st.nx cs xs->∀ {out:List PV},PD st place cs l=some out->
  ∃g,Ie place xs l'=some g/\A9 F ρ st.nx out g:=by
 intro l l' o;induction o with
 |nil=>intro cs xs b out a;cases a;exact⟨xs,rfl,b⟩
 |@cons i p v l l' k _ m=>
  intro cs xs b out a;unfold PD at a;unfold Ie;split at a
  case h_1=>cases a
  rename_i off size f;split at a
  case h_2=>cases a
  rename_i vs d;cases c:(zf (Det.EC vs) size&&zl (Nat.add off size) (Det.EC cs))with
  |false=>rw[c]at a;cases a
  |true=>
   rw[c]at a;have j:=Mr q k d;rw[CQ,CQ,j.len,b.len]at c;have e:(zf v.cells.length size&&zl (off+size) xs.length)=true:=c;rw[f];simp only[e,we];have:=j.Ch off b;rw[Il v.cells]at this;exact m this a
theorem gP(b:SR B h0 F ρ st.nx st.ob h){t:TypeId}{l:List (Nat×PV)}{l':List (Nat×V)}(m:pE F ρ st.nx l l'){v:PV}(k:(ov st<|Uw C.T st t l).To v st'):OK B h0 F ρ st h [] (Bp h<|Jj C.T t l') v st':=by
 simp only[JM]at k;obtain⟨a,rfl⟩:=k;unfold Uw at a;split at a
 case h_3=>cases a
 case h_1=>
  rename_i i fs g d;split at a
  case h_2=>cases a
  rename_i pl c;rw[zm]at a;obtain⟨out,f,rfl⟩:=a;obtain⟨ys,g1,g2⟩:=Ix b m (D0 i.zero) f;exact zg b (v':=.agg ys) (by simp only[Jj,g,d,c,g1,zq,Bp]) (by unfold PR;exact⟨_,rfl,g2⟩)
 case h_2=>
  rename_i i p e g d;split at a
  case h_2=>cases a
  rename_i j o;rw[zm]at a;obtain⟨out,f,rfl⟩:=a;obtain⟨ys,g1,g2⟩:=Ix b m (D0 i.zero) f;exact zg b (v':=.agg ys) (by simp only[Jj,g,d,o,g1,zq,Bp]) (by unfold PR;exact⟨_,rfl,g2⟩)
theorem Jq(z:List V):∀n,A9 F ρ N (JC (z.map Ue) n)<|(zn n z).flatten
 |0=>by simp[JC]
 |n+1=>by
  simp only[JC,zx,zZ];exact(D0 z).append<|Jq z n
theorem GU(z:List V):∀n,Es z (n*z.length)=(zn n z).flatten:=by
 intro n;apply z6;intro i;unfold Es;by_cases d:z.length=0
 ·have:z=[]:=zo.1 d;subst this;have:(zn n ([]:List V)).flatten=[]:=by induction n with|zero=>rfl|succ n e=>simp[zx]
  rw[this];simp
 ·have c:0<z.length:=Nat.pos_of_ne_zero d;induction n generalizing i with
  |zero=>simp
  |succ n e=>
   rw[zx,zZ];by_cases b:i<z.length
   ·rw[zP b,z7,zW<|by rw[zt];omega];simp only[zq,Nat.mod_eq_of_lt b];simp[List.getD_eq_getElem?_getD,b]
   ·rw[zO (by omega), <-e (i-z.length)];rw[z7,z7];by_cases a:i<(n+1)*z.length
    ·rw[zW a,zW<|by rw[zt]at a;omega];simp only[zq];rw[Nat.mod_eq_sub_mod<|by omega]
    ·rw[List.getElem?_eq_none (by simp;omega),List.getElem?_eq_none<|by simp;rw[zt]at a;omega]
theorem Nj{sz n:Nat}{o:Nat}(c:o=0\/o=sz):PR F (BB ρ N<|some (h.nx,n)) (N+1) (.sl N sz 0 n none) (.sl h.nx 0 n n o):=by
 unfold PR;refine⟨zz _,fun b m a=>.inl ?_⟩;simp[BB]at a;obtain⟨rfl,rfl⟩:=a;exact⟨ze _,by show 0+n<=n;omega,o,c,by rw[zu];rfl⟩
theorem Ln{place:Nat->Option (Nat×Nat)}:∀ {l:List (Nat×V)} {xs a:List V},Ie place xs l=some a->a.length=xs.length
 |[],xs,a,h=>by cases h;rfl
 |(i,v)::l,xs,a,h=>by
  unfold Ie at h;split at h
  ·cases h
  ·rename_i off size _;cases b:(zf v.cells.length size&&zl (off+size) xs.length)with
   |false=>rw[b]at h;cases h
   |true=>
    rw[b]at h;rw[Ln h,Fu]
end
section
variable {B:Nat}{h0:H0}{F:Fz}{ρ:DM}{N:Nat}{C:Ctx}{st st':AG}{fr:Fr}{h h':H}
theorem DN.nil{s:Sh}:DN F s [] []:=⟨by simp,fun i a=>by simp at a⟩
theorem DN.cons{s:Sh}{x:s.T}{l:List s.T}{a b:List V}(c:DC F s x a)(d:DN F s l b):DN F s (x::l) (a++b):=by
 refine⟨by rw[List.length_append,c.len,d.1,List.length_cons,zt];omega,fun i f=>?_⟩;cases i with
 |zero=>
  simp only[zu,zT,yc];rw[<-c.len,List.take_left];exact c
 |succ i=>
  have e:(a++b).drop ((i+1)*s.sz)=b.drop (i*s.sz):=by
   rw[zt,yg,Fk, <-c.len,List.drop_left]
  rw[e];exact d.2 i (by simpa using f)
theorem DN.Zm{s:Sh}{x:s.T}{l:List s.T}{cs:List V}(h:DN F s (x::l) cs):∃a b,cs=a++b/\DC F s x a/\DN F s l b:=by
 have h0:=h.2 0 (by simp);simp only[zu,zT,yc]at h0;refine⟨cs.take s.sz,cs.drop s.sz,(List.take_append_drop _ _).symm,h0,?_,fun i c=>?_⟩
 ·rw[List.length_drop,h.1,List.length_cons,zt];omega
 ·have:=h.2 (i+1) (by simpa using c);rw[<-Fk,yg, <-zt];exact this
theorem DN.append{s:Sh}:∀ {l m:List s.T} {a b:List V},DN F s l a->DN F s m b->DN F s (l++m) (a++b)
 |[],m,a,b,h,h'=>by
  have:a=[]:=zo.1 (by rw[h.1];simp);subst this;simpa using h'
 |x::l,m,a,b,h,h'=>by
  obtain⟨c,d,rfl,e,f⟩:=h.Zm;rw[List.append_assoc,List.cons_append];exact DN.cons e<|f.append h'
theorem DN.replicate{s:Sh}{z:s.T}{c:List V}(a:DC F s z c):∀n,DN F s (zn n z)<|(zn n c).flatten
 |0=>DN.nil
 |n+1=>by
  rw[zx,zx,zZ];exact DN.cons a<|DN.replicate a n
theorem DN.Ra{s:Sh}:∀ {l:List s.T} {a:List V},DN F s l a->a.all V.one=true
 |[],a,h=>by
  have:a=[]:=zo.1 (by rw[h.1];simp);subst this;rfl
 |x::l,a,h=>by
  obtain⟨c,d,rfl,b,e⟩:=h.Zm;rw[List.all_append,e.Ra,Bool.and_true];exact zK.2 b.Ra
theorem DN.part{s:Sh}{l:List s.T}{cs:List V}(h:DN F s l cs){off len:Nat}(d:off+len<=l.length):DN F s ((l.drop off).take len) ((cs.drop<|off*s.sz).take<|len*s.sz):=by
 have b:(off+len)*s.sz<=l.length*s.sz:=zh _ d;rw[zp]at b;have g:=h.1;refine⟨by simp;rw[zR (by omega),zR<|by omega],fun i f=>?_⟩;have a:i<len:=by simp at f;omega
 have c:(i+1)*s.sz<=len*s.sz:=zh _ a;rw[zt]at c;rw[List.getElem_take,List.getElem_drop];have:=h.2 (off+i) (by omega);have e:(((cs.drop<|off*s.sz).take<|len*s.sz).drop<|i*s.sz).take s.sz=(cs.drop<|(off+i)*s.sz).take s.sz:=by
  rw[List.drop_take,List.take_take,List.drop_drop,zp,zR<|by omega]
 rw[e];exact this
theorem pQ(L:SR B h0 F ρ st.nx st.ob h){t:TypeId}{p q:PV}{x y:V}(K:PR F ρ st.nx p x)(G:PR F ρ st.nx q y){v:PV}(a:(bP C.T t p q st).To v st'):OK B h0 F ρ st h [] (EK<|MO C.T h t x y) v st':=by
 unfold bP at a;split at a
 case h_2=>simp at a
 rename_i e k l O c M;obtain rfl:=De K;obtain rfl:=De G;split at a
 case h_2=>simp at a
 rename_i i s P R;cases d:(zr 0 i.zero.length&&zf i.zero.length i.size&&zf i.size s.sz)with
 |false=>rw[d]at a;simp at a
 |true=>
  rw[d]at a;simp only[zc]at d;obtain⟨⟨I,m⟩,E⟩:=d;simp only[we]at a;split at a
  case h_2=>simp at a
  rename_i z r;simp only[BA,zc,w5]at a;obtain⟨⟨⟨⟨D,A⟩,j⟩,J⟩,rfl,rfl⟩:=a;have f:l=c:=A;subst f;obtain⟨n,rfl,hn⟩:=Dp D;rw[hn]at j ⊢;have w:=zd m;have S:=zd E;have u:MO C.T h t (.int k<|zy n) (.int O<|zy n)=some (.sl h.nx 0 n n 0,h.push<|.cells (Es i.zero<|n*i.size) e (0,0)):=by
   have a1:zl n n=true:=zi<|ze _;have a2:zr n 9223372036854775808=true:=Dq (by have:(zy n:Int)<9223372036854775808:=J;simp at this;omega);have a3:zl (i.bytes*n) 281474976710656=true:=zi j;simp only[MO,M,P,a1,a2,a3,I,m,z8,we,H9]
  rw[u];have g:=CF (D0 (F:=F) (ρ:=ρ) (N:=st.nx) i.zero) r;have b:DN F s (zn n z) (Es i.zero<|n*i.size):=by
   rw[<-w,GU];exact DN.replicate g n
  exact OK.new L (o:=.arr false e s<|zn n z) (n:=n) rfl ⟨_,_,rfl,b,ze _,by simp⟩ (Nj<|.inl rfl)
theorem U0(P:SR B h0 F ρ st.nx st.ob h){s:Sh}{p:PV}{x:V}(f:PR F ρ st.nx p x){c:Bool}{l:List s.T}(a:Mt st s p=some (c,l))(G:c=true):
  Nt x=some l.length/\(s.sz=1\/NM x=true)/\∃cs,src h s.sz x l.length=some cs/\DN F s l cs:=by
 unfold Mt at a;split at a
 case h_1=>
  cases a;simp only[PR]at f;subst f;exact⟨rfl,.inr rfl,[],rfl,DN.nil⟩
 case h_2=>
  rename_i d l';rw[zm]at a;obtain⟨r,q,v⟩:=a;obtain⟨e,he⟩:=Cp q;have A:d=s:=by cases e;rfl
  subst A;have:r=l':=by have:=he;cases this;rfl
  subst this;cases v;simp only[PR,DC]at f;obtain⟨u,I,f⟩:=f;obtain rfl:x=u:=by simpa using I
  rcases f with⟨rfl,rfl|rfl|rfl⟩|⟨b,off,cap,o,D,rfl,L,E,m,W,M⟩
  ·exact⟨rfl,.inr rfl,[],rfl,DN.nil⟩
  ·exact⟨rfl,.inr rfl,[],rfl,DN.nil⟩
  ·exact⟨rfl,.inr rfl,[],rfl,DN.nil⟩
  ·obtain⟨te,fz,S⟩:=P.frz b D E;suffices hD:DN F d l ((D.drop off).take<|l.length*d.sz)from⟨rfl,.inr rfl,_,rd_some S m hD.ok,hD⟩
   refine⟨?_,fun i R=>?_⟩
   ·simp;rw[zR<|by omega]
   ·have K:(i+1)*d.sz<=l.length*d.sz:=zh _ R;rw[zt]at K;have e:(((D.drop off).take<|l.length*d.sz).drop<|i*d.sz).take d.sz=(D.drop<|off+i*d.sz).take d.sz:=by
     rw[List.drop_take,List.take_take,List.drop_drop,zR<|by omega]
    rw[e];exact M i R
 case h_3=>
  rename_i id sz off len cap;split at a
  case h_2=>cases a
  rename_i U te d l' Y;cases g:zf sz d.sz with
  |false=>rw[g]at a;cases a
  |true=>
   rw[g]at a;have g:=zd g;simp only[we,zm]at a;obtain⟨r,q,v⟩:=a;obtain⟨e,he⟩:=Cp q;have A:d=s:=by cases e;rfl
   subst A;have:r=l':=by have:=he;cases this;rfl
   subst this;cases v;simp only[w5]at G;obtain⟨b,n,y,L,E,⟨cs,fz,rfl,m,M,W⟩,_⟩:=P.at Y;simp only[PR]at f;have w:((r.drop off).take len).length=len:=by simp;omega
   have k:(off+len)*d.sz<=r.length*d.sz:=zh _ G;rw[zp]at k;rw[w];rcases f.2 b n L with⟨_,_,o,_,rfl⟩|⟨rfl,_,hof,rfl|⟨O,rfl,z⟩⟩
   ·refine⟨rfl,.inr rfl,_,rd_some E ?_ ?_,?_⟩
    ·rw[g,m.1];exact k
    ·rw[g];exact(m.part G).ok
    ·rw[g];exact m.part G
   ·refine⟨rfl,.inr rfl,[],rfl,?_⟩;simpa using DN.nil
   ·refine⟨rfl,.inr rfl,_,rd_some E ?_ ?_,?_⟩
    ·rw[g]at z;rw[m.1];simp at k ⊢;omega
    ·simp
    ·simp;exact DN.nil
 case h_5=>cases a
 case h_4=>
  rename_i t;rw[zm]at a;obtain⟨r,q,v⟩:=a;obtain⟨e,he⟩:=Cp q;have A:s=.int .u8:=by cases e;rfl
  subst A;have:r=List.map (fun b:UInt8=>(b.toNat:Int)) t:=by have:=he;cases this;rfl
  subst this;cases v;obtain rfl:=Fe f;refine⟨by simp[Nt],.inl rfl,_,rfl,?_⟩;rw[ye,List.take_length];refine⟨by simp[Sh.sz],fun j hj=>?_⟩;have J:j<t.length:=by simpa using hj
  have Z:((t.map fun b=>yi .u8 (b.toNat:Int)).drop<|j*1).take 1=[yi .u8 ((t[j]).toNat:Int)]:=by
   rw[zY,zw<|by simpa using J];simp
  show DC _ (.int .u8) _<|((t.map fun b=>yi .u8 (b.toNat:Int)).drop<|j*1).take 1;rw[Z];simp[DC]
theorem W3(d:SR B h0 F ρ st.nx st.ob h){s:Sh}{p:PV}{x:V}(b:PR F ρ st.nx p x){c:Bool}{l:List s.T}(e:N1 st s p=some (c,l))(a:c=true):
  Nt x=some l.length/\(s.sz=1\/NM x=true)/\∃cs,src h s.sz x l.length=some cs/\DN F s l cs:=U0 d b.lz e a
theorem SR.congr(a:SR B h0 F ρ N st.ob h)(d:∀c,h'.get c=h.get c)(g:h'.nx=h.nx):SR B h0 F ρ N st.ob h':=
 ⟨fun id o q=>by obtain⟨b,n,x,f,j,p⟩:=a.obj id o q;exact⟨b,n,x,f,(d b).trans j,p⟩,a.inj,fun b cs e=>by obtain⟨t,fz,f⟩:=a.frz b cs e;exact⟨t,fz,(d b).trans f⟩,a.own,a.dead,
  fun b e k=>(d b).trans<|a.old b e k,fun b o e=>by rw[g];exact a.lt b o<|(d b).symm.trans e,by rw[g];exact a.le,a.fo,a.gl,fun c m=>by obtain⟨i,l,r⟩:=a.pn c m;exact⟨(d c).trans i,l,r⟩⟩
theorem SR.Y2{ob:Ob}(g:SR B h0 F ρ N ob h){o:Obj}{x:O}{b n:Nat}(E:h.get b=some x)(l:∀id o m,AH ob id=some o->ρ id≠some (b,m))(hF:F b=none)(K:h0.Yf B b)(Y:b∉h0.pin)(I:o.frozen=false)
  (G:VR F (BB ρ N<|some (b,n)) (N+1) n o x):SR B h0 F (BB ρ N<|some (b,n)) (N+1) ((N,o)::ob) h:=by
 have U:Le F ρ N F (BB ρ N<|some (b,n)) (N+1):=Le.new _;have d:∀j,AH ((N,o)::ob) j=if j=N then some o else AH ob j:=by
  intro j;simp only[AH,Bf];by_cases e:N=j
  ·subst e;simp
  ·rw[wc<|fun h=>e h.symm];simp[e]
 refine⟨fun j oj a=>?_,fun i j oi oj c m v D a q r=>?_,g.frz,fun id c m p=>?_,fun j a=>?_,g.old,g.lt,g.le,g.fo,g.gl,fun c z=>?_⟩
 ·rw[d]at a;by_cases e:j=N
  ·subst e;simp only[wk,zj]at a;subst a;exact⟨b,n,x,by simp[BB],E,G,fun _=>hF,fun e=>by rw[I]at e;cases e⟩
  ·rw[wc e]at a;obtain⟨c,m,y,q,r,W,S⟩:=g.obj j oj a;exact⟨c,m,y,by simp[BB,e,q],r,W.mono U,S⟩
 ·rw[d]at D a;have key:∀k ok m,(if k=N then some o else AH ob k)=some ok->BB ρ N (some (b,n)) k=some (c,m)->(k=N/\c=b)\/(k≠N/\AH ob k=some ok/\ρ k=some (c,m)/\c≠b):=by
   intro k ok m t f;by_cases e:k=N
   ·subst e;simp[BB]at f;exact .inl ⟨rfl,f.1.symm⟩
   ·rw[wc e]at t;simp only[BB,e,vf]at f;exact .inr ⟨e,t,f,fun T=>l k ok m t<|T▸f⟩
  rcases key i oi m D q with⟨w,s⟩|⟨w,s,P,V⟩<;>rcases key j oj v a r with⟨A,u⟩|⟨A,u,R,M⟩
  ·rw[w,A]
  ·exact wh s M
  ·exact wh u V
  ·exact g.inj i j oi oj c m v s u P R
 ·unfold BB at p;split at p
  ·rename_i e;cases p;subst e;exact⟨zz _,K⟩
  ·have:=g.own id c m p;exact⟨by omega,this.2⟩
 ·rw[d]at a;by_cases e:j=N
  ·rw[wd e]at a;cases a
  ·rw[wc e]at a;simp[BB,e,g.dead j a]
 ·obtain⟨J,L,Z⟩:=g.pn c z;refine⟨J,L,fun id m e=>?_⟩;unfold BB at e;split at e
  ·cases e;exact Y z
  ·exact Z id m e
theorem OB{off:Nat}{cs:List V}(h:off<=cs.length):Ch off [] cs=cs:=by
 apply z6;intro j;rw[Gf<|by simpa using h];rw[wc<|by simp]
theorem R0{off:Nat}{vs cs:List V}(h:off+vs.length<=cs.length):Ch off vs cs=cs.take off++(vs++cs.drop (off+vs.length)):=by
 apply z6;intro j;rw[Gf h];by_cases a:j<off
 ·rw[wc (by omega),zP (by simp;omega),List.getElem?_take_of_lt a]
 ·rw[zO<|by simp;omega];have b:(cs.take off).length=off:=by simp;omega
  rw[b];by_cases c:j<off+vs.length
  ·rw[wd ⟨by omega,c⟩,zP<|by omega]
  ·rw[wc (by omega),zO (by omega),List.getElem?_drop];congr 1;omega
theorem DN.Zf{s:Sh}{l new:List s.T}{cs g:List V}{a:Nat}(h:DN F s l cs)(d:DN F s new g)(j:a+new.length<=l.length):
  DN F s (l.take a++(new++l.drop (a+new.length))) (Ch (a*s.sz) g cs):=by
 have c:=h.1;have f:=d.1;have b:(a+new.length)*s.sz<=l.length*s.sz:=zh _ j;rw[R0<|by rw[f, <-zp,c];exact b];have i:=h.part (off:=0) (len:=a) (by omega);have e:=h.part (off:=a+new.length) (len:=l.length-(a+new.length)) (by omega);rw[zu,zT,zT]at i;rw[yd (by simp),yd<|by rw[List.length_drop,c, <-Nat.sub_mul];exact ze _]at e;rw[f, <-zp];exact i.append<|d.append e
def EU:List PV->List Nat
 | .sl id _ _ _ _::_=>[id]
 |_=>[]
theorem XG{s f:Sh}{x:f.T}{c:Bool}{l:List s.T}(d:N1 st s (.dat f x)=some (c,l)):c=true:=by
 unfold N1 at d;cases f with
 |list a=>
  have d:(Dr (.list a) (.list s) x).map (fun r=>(true,r))=some (c,l):=d;rw[zm]at d;obtain⟨r,_,e⟩:=d;cases e;rfl
 |nlist a=>
  have d:(Dr (.list a) (.list s) x).map (fun r=>(true,r))=some (c,l):=d;rw[zm]at d;obtain⟨r,_,e⟩:=d;cases e;rfl
 |str=>
  have d:(Dr (.list<|.int .u8) (.list s)<|List.map (fun b:UInt8=>(b.toNat:Int)) x).map (fun r=>(true,r))=some (c,l):=d;rw[zm]at d;obtain⟨r,_,e⟩:=d;cases e;rfl
 |_=>cases d
theorem bJ(K:SR B h0 F ρ st.nx st.ob h){ts:Array TypeId}{ps:List PV}{xs:List V}(W:A9 F ρ st.nx ps xs){v:PV}(d:(Qp C.T ts ps st).To v st'):OK B h0 F ρ st h (EU ps) (EK<|FD C.T h ts xs) v st':=by
 unfold Qp at d;split at d
 case h_2=>simp at d
 rename_i t tx p q hts htx;simp only[A9]at W;obtain⟨x,_,rfl,W,y,_,rfl,hy,rfl⟩:=W;split at d
 case h_2=>simp at d
 rename_i e ex hu hux;have hss:Rt ex=true:=by
  cases hq:Rt ex with
  |true=>rfl
  |false=>rw[hq]at d;simp at d
 rw[hss]at d;simp only[we]at d;split at d
 case h_2=>simp at d
 rename_i i s hi hs;cases hc:(zr 0 i.bytes&&zr 0 i.size&&zf i.zero.length i.size&&zf i.size s.sz)with
 |false=>rw[hc]at d;simp at d
 |true=>
  rw[hc]at d;simp only[zc]at hc;obtain⟨⟨⟨c1,c2⟩,c3⟩,c4⟩:=hc;have e4:=zd c4;simp only[we]at d;split at d
  case h_2=>simp at d
  rename_i c new hel;have head:c=true->∃cs,src h i.size y new.length=some cs/\DN F s new cs/\FD C.T h ts [x,y]=(match x with
      | .nils=>bif zf new.length 0 then some (.nils,h)
       else bif zl ((3*new.length+2000)*i.bytes) 562949953421312 then some (.sl h.nx 0 new.length new.length i.size,H9 h e cs)else none
      | .es0=>bif zf new.length 0 then some (.es0,h)
       else bif zl ((3*new.length+2000)*i.bytes) 562949953421312 then some (.sl h.nx 0 new.length new.length i.size,H9 h e cs)else none
      | .esl=>bif zf new.length 0 then some (.esl,h)else none
      | .sl b off len cap o=>
       bif zl (len+new.length) cap then(wr h b (off+len*i.size) cs).map fun h'=>(.sl b off (len+new.length) cap o,h')
       else bif zl ((3*(len+new.length)+2000)*i.bytes) 562949953421312 then
        match src h i.size x len with
        |some old=>
         bif zf o 0 then some (.sl h.nx 0 (len+new.length) (len+new.length) i.size,H9 h e<|old++cs)
         else
          match h.get b with
          |some (.cells _ te fz)=>
           bif zf off 0&&zf o i.size&&zf te e&&zl fz.2 fz.1&&cs.all V.one then some (.sl h.nx 0 (len+new.length) (len+new.length) i.size,(h.kill b).push<|.cells (old++cs) e (0,0))
           else none
          |_=>none
        |none=>none
       else none
      |_=>none):=by
   intro hc;obtain⟨g1,g2,cs,g3,g4⟩:=W3 K hy hel hc;rw[<-e4]at g3;refine⟨cs,g3,g4,?_⟩;have hcond:(zr 0 i.bytes&&zr 0 i.size&&zf i.zero.length i.size&&(zf i.size 1||NM y))=true:=by
    rw[c1,c2,c3];rcases g2 with g2|g2
    ·rw[e4,g2];rfl
    ·rw[g2,yh];rfl
   have hint:isInt ex=false:=by cases ex<;>first|rfl|cases hss
   simp only[FD,hts,htx,hu,hux,g1,hi,hint,hcond,we,g3];cases x<;>rfl
  split at d
  case h_3=>simp at d
  case h_1=>
   simp only[PR]at W;subst W;have Z:c=true->0<new.length->(3*new.length+2000)*i.bytes<=cY->OK B h0 F ρ st h (EU [PV.nil,q]) (EK<|FD C.T h ts [.nils,y]) (.sl st.nx s.sz 0 new.length none) (st.push<|.arr false e s new):=by
    intro D O L;obtain⟨cs,g1,g2,g3⟩:=head D;have b1:zf new.length 0=false:=by rw[Bf];simp;intro e;rw[e]at O;simp at O
    have b2:zl ((3*new.length+2000)*i.bytes) 562949953421312=true:=zi L;rw[g3];simp only[b1,b2,wg,we];exact OK.new K (o:=.arr false e s new) (n:=new.length) rfl ⟨_,_,rfl,g2,ze _,rfl⟩ (Nj<|.inr e4)
   have same:c=true->new.length=0->OK B h0 F ρ st h (EU [PV.nil,q]) (EK<|FD C.T h ts [.nils,y]) .nil st:=by
    intro D O;obtain⟨cs,g1,g2,g3⟩:=head D;have b1:zf new.length 0=true:=by rw[O];rfl
    rw[g3];simp only[b1,we];exact⟨.nils,h,F,ρ,.inl rfl,by simp[PR],K,zS,rfl,rfl,ze _,fun _ _=>.inl rfl⟩
   split at d
   case h_1=>
    simp only[AO]at d;obtain⟨rfl,rfl⟩:=d;simp only[N1,Mt,lz,zj,zM]at hel;obtain⟨rfl,rfl⟩:=hel;exact same rfl rfl
   case h_2=>
    have hc':c=true:=by
     exact XG hel
    by_cases S:0<new.length
    ·rw[w4 S]at d;cases d with
     |tt d=>
      simp only[BA,zc,w5]at d;obtain⟨⟨D,L⟩,rfl,rfl⟩:=d;exact Z D S L
    ·rw[w8 S]at d;cases d with
     |ff d=>
      simp only[AO]at d;obtain⟨rfl,rfl⟩:=d;exact same hc' (by omega)
   case h_3=>
    by_cases S:0<new.length
    ·rw[w4 S]at d;cases d with
     |tt d=>
      simp only[BA,zc,w5]at d;obtain⟨⟨D,L⟩,rfl,rfl⟩:=d;exact Z D S L
    ·rw[w8 S]at d;cases d with
     |ff d=>
      simp only[BA]at d;obtain⟨D,rfl,rfl⟩:=d;exact same D (by omega)
   case h_4=>
    simp only[BA,zc,w5]at d;obtain⟨⟨⟨D,O⟩,L⟩,rfl,rfl⟩:=d;exact Z D O L
  case h_2=>
   rename_i id sz off len cap;split at d
   case h_2=>simp at d
   rename_i e' f l ho;split at d
   case h_2=>simp at d
   rename_i l' hl';obtain⟨ecast,hcast⟩:=Cp hl';have es:f=s:=by cases ecast;rfl
   subst es;have:l'=l:=by have:=hcast;cases this;rfl
   subst this;cases R:(zf e e'&&zf sz f.sz)with
   |false=>rw[R]at d;simp at d
   |true=>
    rw[R]at d;simp only[zc]at R;have ee:=zd R.1;have esz:=zd R.2;subst ee;subst esz;simp only[we]at d;split at d
    case h_2=>
     rename_i k;simp only[BA,zc,w5]at d;obtain⟨⟨⟨D,O⟩,L⟩,rfl,rfl⟩:=d;obtain⟨cs,g1,g2,g3⟩:=head D;obtain⟨b,n,z,h1,h2,⟨bs,fz,rfl,h3,h4,h5⟩,h6,_⟩:=K.at ho;simp only[PR]at W;rw[g3];have M:cs.all V.one=true:=g2.Ra;have hcl:cs.length=new.length*f.sz:=g2.1;have E:=h3.1;have hle:(off+len+new.length)*f.sz<=l'.length*f.sz:=zh _ (by omega);have hexp:(off+len+new.length)*f.sz=off*f.sz+len*f.sz+new.length*f.sz:=by rw[zp,zp]
     have hsp:=DN.Zf h3 g2 (a:=off+len) (by omega);have G:(l'.take (off+len)++(new++l'.drop (off+len+new.length))).length=l'.length:=by simp;omega
     rcases W.2 b n h1 with⟨_,g6,o,g5,rfl⟩|⟨e0,ek,g6,g7⟩
     ·simp only[zU]at g6;have hw:wr h b (off*f.sz+len*i.size) cs=some (h.put b<|.cells (Ch ((off+len)*f.sz) cs bs) e fz):=by
       rw[LN h2 (by rw[e4,hcl,E];omega) h4 M,e4, <-zp]
      have b1:zl (len+new.length) k=true:=zi O;refine⟨.sl b (off*f.sz) (len+new.length) k o,h.put b<|.cells (Ch ((off+len)*f.sz) cs bs) e fz,F,ρ,.inl ?_,?_,K.set ho h1 h2 rfl rfl (o':=.arr false e f _) ⟨_,fz,rfl,hsp,h4,G.trans h5⟩,zS,rfl,rfl,ze _,fun c _=>?_⟩
      ·simp only[zU,b1,we,hw,zq,EK]
      ·simp only[PR];refine⟨W.1,fun b' n' Y=>.inl ?_⟩;rw[h1]at Y;cases Y;exact⟨by simpa using O,by simpa using g6,o,g5,rfl⟩
      ·rw[H.Bc];by_cases e:c=b
       ·exact .inr ⟨id,by simp[EU],n,e▸h1⟩
       ·rw[wc e];exact .inl rfl
     ·cases ek;subst e0;have hn0:new.length=0:=by omega
      have I:new=[]:=zo.1 hn0;subst I;have hcs:cs=[]:=zo.1 (by rw[hcl];simp);subst hcs;have hlp:Ch ((off+0)*f.sz) [] bs=bs:=OB (by rw[E];have:=zh f.sz (show off+0<=l'.length by omega);exact this);have A:∀c,(h.put b<|.cells (Ch ((off+0)*f.sz) [] bs) e fz).get c=h.get c:=by
       intro c;rw[hlp,H.Bc];by_cases e:c=b
       ·rw[wd e,e,h2]
       ·rw[wc e]
      have hset:=K.set ho h1 h2 rfl rfl (o':=.arr false e f _) (x':=.cells (Ch ((off+0)*f.sz) [] bs) e fz) ⟨_,fz,rfl,hsp,h4,G.trans h5⟩;have hset':SR B h0 F ρ st.nx (Dl st.ob id<|.arr false e f<|l'.take (off+0)++([]++l'.drop (off+0+0))) h:=
       SR.congr (st:=⟨st.n,st.fr,Dl st.ob id _,st.nx⟩) hset (fun c=>(A c).symm) rfl
      have hpr:∀w,(w=.esl\/∃r,w=.sl b r 0 0 0/\r<=off*f.sz)->PR F ρ st.nx (.sl id f.sz off (Nat.add 0 0)<|some 0) w:=by
       intro w hw;simp only[PR];refine⟨W.1,fun b' n' Y=>.inr ?_⟩;rw[h1]at Y;cases Y;exact⟨by simp,by simp,g6,hw⟩
      rcases g7 with rfl|⟨r,rfl,hoff'⟩
      ·exact⟨.esl,h,F,ρ,.inl rfl,hpr _<|.inl rfl,hset',zS,rfl,rfl,ze _,fun _ _=>.inl rfl⟩
      ·have hob:r<=bs.length:=by
        have h7:off*f.sz<=l'.length*f.sz:=zh _ (by omega);omega
       have hw:wr h b (r+0*i.size) []=some (h.put b<|.cells (Ch (r+0*i.size) [] bs) e fz):=LN h2 (by simpa using hob) h4 rfl;have P:∀c,(h.put b<|.cells (Ch (r+0*i.size) [] bs) e fz).get c=h.get c:=by
        intro c;rw[OB (by simpa using hob),H.Bc];by_cases e:c=b
        ·rw[wd e,e,h2]
        ·rw[wc e]
       refine⟨.sl b r 0 0 0,h.put b<|.cells (Ch (r+0*i.size) [] bs) e fz,F,ρ,.inl ?_,hpr _<|.inr ⟨r,rfl,hoff'⟩,SR.congr (st:=⟨st.n,st.fr,Dl st.ob id _,st.nx⟩) hset' P rfl,zS,rfl,rfl,ze _,fun c _=>.inl<|P c⟩;simp only[zQ,Nat.add_zero,show zl 0 0=true from rfl,we,hw,zq,EK]
    simp only[BA,zc,w5]at d;obtain⟨⟨⟨⟨D,O⟩,L⟩,k4⟩,rfl,rfl⟩:=d;subst O;obtain⟨cs,g1,g2,g3⟩:=head D;obtain⟨b,n,z,h1,h2,⟨bs,fz,rfl,h3,h4,h5⟩,h6,_⟩:=K.at ho;have hFb:=h6 rfl;simp only[PR]at W;have hB:=(K.own id b n h1).2;have hPb:b∉h0.pin:=fun hp=>(K.pn b hp).2.2 id n h1
    have hidN:=(K.own id b n h1).1;obtain⟨_,_,o,g5,rfl⟩:len<=len/\0+len<=n/\∃o,(o=0\/o=f.sz)/\x=.sl b (0*f.sz) len len o:=by
     rcases W.2 b n h1 with g|⟨_,e,_⟩
     ·exact g
     ·cases e
    have E:bs.length=len*i.size:=by rw[h3.1,L,e4]
    have hfree:∀j oj m,AH (Fv st.ob id) j=some oj->BB ρ id none j≠some (b,m):=by
     intro j oj m hj hjr;rw[DI]at hj;split at hj
     ·cases hj
     ·rename_i hne;simp only[BB,hne,vf]at hjr;exact hne<|K.inj j id oj _ b m n hj ho hjr h1
    have U:=K.del id;have hle1:Le F ρ st.nx F (BB ρ id none) st.nx:=Le.MF id;have hnew:DN F f (l'++new) (bs++cs):=h3.append g2;have G:(l'++new).length=len+new.length:=by rw[List.length_append, <-L]
    have M:cs.all V.one=true:=g2.Ra;rw[g3];simp only;by_cases S:new.length=0
    ·
     have I:new=[]:=zo.1 S;have hcs:cs=[]:=zo.1 (by rw[g2.1,S,zu]);subst hcs;have b1:zl (len+new.length) len=true:=zi (by omega);have hw:wr h b (0*f.sz+len*i.size) []=some (h.put b<|.cells (Ch (0*f.sz+len*i.size) [] bs) e fz):=LN h2 (by rw[E];simp) h4 rfl;have A:∀c,(h.put b<|.cells (Ch (0*f.sz+len*i.size) [] bs) e fz).get c=h.get c:=by
      intro c;rw[OB (by rw[E];simp),H.Bc];by_cases e:c=b
      ·rw[wd e,e,h2]
      ·rw[wc e]
     refine⟨.sl b (0*f.sz) (len+new.length) len o,h.put b<|.cells (Ch (0*f.sz+len*i.size) [] bs) e fz,F,BB (BB ρ id none) st.nx<|some (b,n),.inl ?_,?_,?_,hle1.trans<|Le.new _,rfl,rfl,ze _,fun c _=>.inl<|A c⟩
     ·simp only[b1,we,hw,zq,EK]
     ·unfold PR;refine⟨zz _,fun b' n' hb=>.inl ?_⟩;simp[BB]at hb;obtain⟨rfl,rfl⟩:=hb;refine⟨ze _,?_,o,g5,?_⟩
      ·show 0+(len+new.length)<=n;omega
      ·show V.sl b (0*f.sz) (len+new.length) len o=.sl b (0*f.sz) (len+new.length) (len+new.length) o;rw[S];rfl
     ·refine SR.Y2 (ob:=Fv st.ob id) ?_ (x:=.cells bs e fz) ((A b).trans h2) hfree hFb hB hPb rfl ⟨bs,fz,rfl,?_,h4,?_⟩
      ·exact SR.congr (st:=⟨st.n,st.fr,Fv st.ob id,st.nx⟩) U A rfl
      ·rw[I,List.append_nil];exact h3
      ·rw[I,List.append_nil];exact h5
    ·
     have b1:zl (len+new.length) len=false:=by
      cases hb:zl (len+new.length) len with
      |false=>rfl
      |true=>have:=Nat.le_of_ble_eq_true hb;omega
     have b2:zl ((3*(len+new.length)+2000)*i.bytes) 562949953421312=true:=zi k4;have hsrc:src h i.size (.sl b (0*f.sz) len len o) len=some bs:=by
      show rd h b (0*f.sz) (len*i.size)=_;rw[rd_some h2 (by rw[E,zu];omega)<|fun u hu=>h3.ok u<|List.mem_of_mem_drop<|List.mem_of_mem_take hu];rw[zu,zT, <-E,List.take_length]
     simp only[b1,b2,wg,we,hsrc];have fin:∀ {J:H},SR B h0 F (BB ρ id none) st.nx (Fv st.ob id) J->J.nx=h.nx->(∀c,c≠b->J.get c=h.get c)->
       OK B h0 F ρ st h [id] (EK<|some (.sl h.nx 0 (len+new.length) (len+new.length) i.size,J.push<|.cells (bs++cs) e (0,0))) (.sl st.nx f.sz 0 (Nat.add len new.length) none) ((st.N6 id).push<|.arr false e f<|l'++new):=by
      intro J hr1 hnx hg;have hp:=hr1.push (o:=.arr false e f<|l'++new) (x:=.cells (bs++cs) e (0,0)) (n:=len+new.length) rfl ⟨_,_,rfl,hnew,ze _,G⟩;refine⟨_,_,F,_,.inl rfl,?_,hp,hle1.trans<|Le.new _,rfl,rfl,by show h.nx<=J.nx+1;omega,fun c hc=>?_⟩
      ·rw[<-hnx];exact Nj<|.inr e4
      ·rw[H.Bz,wc<|by omega];by_cases e:c=b
       ·exact .inr ⟨id,zk.2 rfl,n,e▸h1⟩
       ·exact .inl<|hg c e
     rcases g5 with rfl|rfl
     ·simp only[zL,we];exact fin U rfl (fun _ _=>rfl)
     ·have b3:zf f.sz 0=false:=by
       rw[<-e4];cases hb:zf i.size 0 with
       |false=>rfl
       |true=>have:=zd hb;rw[this]at c2;cases c2
      have b4:(zf (0*f.sz) 0&&zf f.sz i.size&&zf e e&&zl fz.2 fz.1&&cs.all V.one)=true:=by
       rw[zu,e4,M,zi h4];simp
      simp only[b3,wg,h2,b4,we];exact fin (U.kill hfree hFb hB hPb) rfl (fun c hc=>by rw[H.B0,wc hc])
theorem Ez:∀ {s:Sh} {x:s.T} {v:V},DV F s x v->PR F ρ N (B1 s x) v
 | .pair a b,x,v,h=>by obtain⟨cs,rfl,c⟩:=h.1 rfl;unfold B1 PR;exact⟨cs,rfl,CM c⟩
 | .unit,x,v,h=>by obtain⟨cs,rfl,c⟩:=h.1 rfl;simp only[DC]at c;subst c;unfold B1 PR;exact⟨[],rfl,by simp⟩
 | .int _,x,v,h=>by have:=h.2 rfl;unfold B1 PR;exact this
 | .bool,x,v,h=>by have:=h.2 rfl;unfold B1 PR;exact this
 | .str,x,v,h=>by have:=h.2 rfl;unfold B1 PR;exact this
 | .list _,x,v,h=>by have:=h.2 rfl;unfold B1 PR;exact this
 | .nlist _,x,v,h=>by have:=h.2 rfl;unfold B1 PR;exact this
 | .fnv,x,v,h=>by
  have:=h.2 rfl;simp only[DC,zV,vc]at this;subst this;unfold B1;cases (x:Option Fn)<;>simp[PR]
 | .ptr s,x,v,h=>by
  have:=h.2 rfl;simp only[DC]at this;obtain⟨b,o,f,c,e,g,d⟩:=this;unfold B1 PR;exact⟨b,o,f,List.singleton_inj.1 c,e,g,d⟩
theorem fZ{s:Sh}{p:PV}{x:s.T}{v:V}(c:PR F ρ N p v)(b:wK s p=some x):DV F s x v:=by
 unfold wK at b;cases a:(Kk p==s.O5)with
 |false=>rw[a]at b;cases b
 |true=>
  rw[a]at b;simp only[we]at b;have a:Kk p=s.O5:=by simpa using a
  refine⟨fun e=>?_,fun e=>?_⟩
  ·rw[e]at a;cases p<;>simp only[Kk]at a<;>try (cases a;done)
   rename_i l;simp only[PR]at c;obtain⟨cs,rfl,d⟩:=c;exact⟨cs,rfl,CF d b⟩
  ·rw[e]at a;have:p.cells=[p]:=by cases p<;>first|rfl|(simp[Kk]at a)
   rw[this]at b;exact CF (by simpa using c) b
theorem Zg{T:BR}{t:TypeId}{s:Sh}(h:eO T t=some s):(∃k,s=.int k/\T.und t=some (.int k))\/(s=.str/\T.und t=some .string)\/(s=.bool/\T.und t=some .bool):=by
 unfold eO at h;split at h
 ·rename_i k a;cases h;exact .inl ⟨k,rfl,a⟩
 ·rename_i a;cases h;exact .inr<|.inl ⟨rfl,a⟩
 ·rename_i a;cases h;exact .inr<|.inr ⟨rfl,a⟩
 ·cases h
theorem T2{T:BR}{t:TypeId}{s:Sh}(a:eO T t=some s){p:PV}{x:s.T}{v:V}(c:PR F ρ N p v)(b:lN s p=some x):DV F s x v:=by
 have:=Fy c b;rcases Zg a with⟨k,rfl,_⟩|⟨rfl,_⟩|⟨rfl,_⟩<;>exact⟨fun e=>(by cases e),fun _=>this⟩
theorem Q6{T:BR}{t:TypeId}{s:Sh}(f:eO T t=some s){x:s.T}{v:V}(g:DV F s x v):∃d,T.und t=some d/\HD T t d v=true/\(∀es,Ju T t v es=Kj T t v es 0)/\∀y u,DV F s y u->dD T t v u=some (T7 s x y):=by
 rcases Zg f with⟨k,rfl,a⟩|⟨rfl,a⟩|⟨rfl,a⟩<;>
 ·have b:=g.2 rfl;simp only[DC,zV,vc]at b;subst b;refine⟨_,a,rfl,fun _=>rfl,fun y u e=>?_⟩;have c:=e.2 rfl;simp only[DC,zV,vc]at c;subst c;simp[dD,a,T7]
theorem N0{T:BR}{t:TypeId}{ks vs:Sh}(J:eO T t=some ks){k:ks.T}{q:V}(y:DV F ks k q):∀ {l:List (ks.T×vs.T)} {es:List (V×V×Nat)},MR F ks vs l es->∀i,∃r,Kj T t q es i=some r/\
  (match r with
   |none=>DR ks vs k l=none/\Rf ks vs k l=l/\∀x f c,DV F vs x f->MR F ks vs (Hq ks vs k x l) (es++[(q,f,c)])
   |some (j,u)=>(∃v,DR ks vs k l=some v/\DV F vs v u)/\i<=j/\MR F ks vs (Rf ks vs k l) (es.eraseIdx<|j-i)/\∀x f,DV F vs x f->MR F ks vs (Hq ks vs k x l) (U1 es (j-i) q f)):=by
 intro l es M;induction M with
 |nil=>intro i;exact⟨none,rfl,rfl,rfl,fun x f c m=>.cons y m .nil⟩
 |@cons a b l K I n es o p E L=>
  intro i;obtain⟨d,_,_,_,z⟩:=Q6 J y;have z:=z a K o;unfold Kj;rw[z];cases g:T7 ks k a with
  |true=>
   refine⟨some (i,I),rfl,⟨b,by simp[DR,g],p⟩,ze _,?_,fun x f m=>?_⟩
   ·simp only[zX,List.eraseIdx_cons_zero,Rf,g,we];exact E
   ·simp only[zX,Hq,g,we,U1,List.modify_zero_cons];exact .cons y m E
  |false=>
   obtain⟨r,G,D⟩:=L<|i+1;refine⟨r,G,?_⟩;cases r with
   |none=>
    obtain⟨w,s,A⟩:=D;refine⟨by simp only[DR,g,wg];exact w,by simp only[Rf,g,wg,s],fun x f c m=>?_⟩;simp only[Hq,g,wg,List.cons_append];exact .cons o p<|A x f c m
   |some O=>
    obtain⟨j,u⟩:=O;obtain⟨⟨v,w,s⟩,A,k4,k5⟩:=D;have e:j-i=(j-(i+1))+1:=by omega
    refine⟨⟨v,by simp only[DR,g,wg];exact w,s⟩,by omega,?_,fun x f m=>?_⟩
    ·rw[e];simp only[List.eraseIdx_cons_succ,Rf,g,wg];exact .cons o p k4
    ·rw[e];simp only[Hq,g,wg,U1,List.modify_succ_cons];exact .cons o p<|k5 x f m
theorem fU(d:SR B h0 F ρ st.nx st.ob h){t:TypeId}{v:PV}(a:(Uq C.T t st).To v st'):OK B h0 F ρ st h [] (EK<|HS h none) v st':=by
 unfold Uq at a;split at a
 case h_2=>simp at a
 split at a
 case h_2=>simp at a
 rename_i ks vs e f;simp only[AO]at a;obtain⟨rfl,rfl⟩:=a;refine OK.new d (o:=.map ks vs []) (x:=.map [] 0) (n:=0) rfl ⟨[],0,rfl,.nil⟩ ?_;unfold PR;exact⟨zz _,fun b m c=>by simp[BB]at c;rw[c.1]⟩
theorem WX(d:SR B h0 F ρ st.nx st.ob h){ks vs:Sh}{m:PV}{l:List (ks.T×vs.T)}{x:V}(c:PR F ρ st.nx m x)(a:Zj st ks vs m=some l):∃es,entries h x=some es/\MR F ks vs l es:=by
 unfold Zj at a;split at a
 ·cases a;simp only[PR]at c;subst c;exact⟨[],rfl,.nil⟩
 ·rename_i id;split at a
  case h_2=>cases a
  rename_i g f l' i;obtain⟨e,j⟩:=Cp a;simp only[Sh.list.injEq,Sh.pair.injEq]at e;obtain⟨rfl,rfl⟩:=e;obtain rfl:l'=l:=j;obtain⟨b,n,o,h1,h2,⟨es,clk,rfl,h4⟩,_⟩:=d.at i;simp only[PR]at c;obtain rfl:=c.2 b n h1;exact⟨es,by simp[entries,h2],h4⟩
 ·cases a
theorem Zs{ks vs:Sh}{ok:Bool}{z:vs.T}{x:ks.T}:∀ {l:List (ks.T×vs.T)} {v:PV},(sD ks vs ok z x st l).To v st'->st=st'/\((DR ks vs x l=none/\v=bif ok then .tup [B1 vs z,.bl false]else B1 vs z)\/∃w,DR ks vs x l=some w/\v=bif ok then .tup [B1 vs w,.bl true]else B1 vs w)
 |[],v,d=>by
  unfold sD at d;simp only[AO]at d;exact⟨d.2,.inl ⟨rfl,d.1.symm⟩⟩
 |(a,b)::l,v,d=>by
  unfold sD at d;generalize f:T7 ks x a=c at d;cases d with
  |tt d=>
   simp only[AO]at d;exact⟨d.2,.inr ⟨b,by simp[DR,f],d.1.symm⟩⟩
  |ff d=>
   obtain⟨g,i⟩:=Zs d;have e:DR ks vs x ((a,b)::l)=DR ks vs x l:=by simp[DR,f]
   rw[e];exact⟨g,i⟩
theorem aH(g:SR B h0 F ρ st.nx st.ob h){t:TypeId}{p q:PV}{x y:V}(L:PR F ρ st.nx p x)(Y:PR F ρ st.nx q y){ok:Bool}{v:PV}(a:(Qv C.T t p q ok st).To v st'):OK B h0 F ρ st h [] (Bp h<|Ek C.T h t x y ok) v st':=by
 unfold Qv at a;split at a
 case h_2=>simp at a
 rename_i kt e hu;split at a
 case h_2=>simp at a
 rename_i ks vs i m O K;split at a
 case h_2=>simp at a
 rename_i k l z S W M;cases b:(tI i.zv==vs.O5)with
 |false=>rw[b]at a;simp at a
 |true=>
  rw[b]at a;simp only[we]at a;have o:=T2 m Y S;obtain⟨es,U,R⟩:=WX g L W;obtain⟨kd,g1,g2,g3,_⟩:=Q6 m o;obtain⟨r,r1,r2⟩:=N0 m o R 0;have f:DV F vs z i.zv:=by
   have A:DC F vs z i.zv.cells:=CF (D0 (F:=F) (ρ:=ρ) (N:=st.nx) i.zero) M;have b:tI i.zv=vs.O5:=by simpa using b
   refine⟨fun e=>?_,fun e=>?_⟩
   ·rw[e]at b;cases c:i.zv<;>rw[c]at b<;>simp only[tI]at b<;>try (cases b;done)
    rw[c]at A;exact⟨_,rfl,A⟩
   ·rw[e]at b;have:i.zv.cells=[i.zv]:=by cases c:i.zv<;>rw[c]at b<;>first|rfl|(simp[tI]at b)
    rw[<-this];exact A
  unfold Ek;simp only[hu,g1,U,g2,we,g3,r1];cases J:vs.kG with
  |true=>
   rw[J]at a;simp only[we]at a;have E:=Zs a;obtain⟨P,I⟩:=E;subst P;rcases I with⟨Z,c⟩|⟨w,D,c⟩
   ·cases r with
    |none=>
     simp only[K];cases ok with
     |true=>exact zg g rfl (by rw[c];simp only[we,PR];exact⟨_,rfl,_,_,rfl,Ez f,_,_,rfl,by simp[PR],rfl⟩)
     |false=>exact zg g rfl (by rw[c];exact Ez f)
    |some G=>
     obtain⟨⟨v',d,_⟩,_⟩:=r2;rw[Z]at d;cases d
   ·cases r with
    |none=>rw[r2.1]at D;cases D
    |some G=>
     obtain⟨⟨v',d,s⟩,_⟩:=r2;rw[D]at d;cases d;cases ok with
     |true=>exact zg g rfl (by rw[c];simp only[we,PR];exact⟨_,rfl,_,_,rfl,Ez s,_,_,rfl,by simp[PR],rfl⟩)
     |false=>exact zg g rfl (by rw[c];exact Ez s)
  |false=>
  rw[J]at a;simp only[wg,AO]at a;obtain⟨rfl,rfl⟩:=a;cases r with
  |none=>
   obtain⟨d,_⟩:=r2;simp only[K,d,Option.getD_none,Option.isSome_none];cases ok with
   |true=>exact zg g rfl (by simp only[we,PR];exact⟨_,rfl,_,_,rfl,Ez f,_,_,rfl,Dt _,rfl⟩)
   |false=>exact zg g rfl (Ez f)
  |some G=>
   obtain⟨j,u⟩:=G;obtain⟨⟨v,d,s⟩,_⟩:=r2;simp only[d,zU,Option.isSome_some];cases ok with
   |true=>exact zg g rfl (by simp only[we,PR];exact⟨_,rfl,_,_,rfl,Ez s,_,_,rfl,Dt _,rfl⟩)
   |false=>exact zg g rfl (Ez s)
theorem ZJ(E:SR B h0 F ρ st.nx st.ob h){t:TypeId}{p q r:PV}{x y z:V}(L:PR F ρ st.nx p x)(K:PR F ρ st.nx q y)(G:PR F ρ st.nx r z){v:PV}(f:(Qx C.T t p q r st).To v st'):
  ∃id,p=.mp id/\OK B h0 F ρ st h [id] (dM<|G6 C.T h t x y z) v st':=by
 unfold Qx at f;split at f
 case h_2=>simp at f
 rename_i U e id S;split at f
 case h_2=>simp at f
 rename_i ks d vs l i u;split at f
 case h_2=>simp at f
 rename_i k I w P R M;obtain⟨D,J⟩:=Cp R;simp only[Sh.list.injEq,Sh.pair.injEq,vc]at D;subst D;obtain rfl:l=I:=J;simp only[AO]at f;obtain⟨rfl,rfl⟩:=f;have m:=T2 i K P;have j:=fZ G M;obtain⟨b,n,o,h1,h2,⟨es,clk,rfl,h4⟩,_⟩:=E.at u;have s:=L;simp only[PR]at s;obtain rfl:=s.2 b n h1;obtain⟨kd,g1,g2,g3,_⟩:=Q6 i m;obtain⟨r',r1,r2⟩:=N0 i m h4 0;refine⟨id,rfl,?_⟩;have fin:∀g a,MR F d vs (Hq d vs k w l) g->OK B h0 F ρ st h [id] (dM<|some<|h.put b<|.map g a) (.tup []) (st.setObj id<|.map d vs<|Hq d vs k w l):=by
  intro g a O;refine⟨.tup [],_,F,ρ,.inr ⟨rfl,rfl⟩,by simp[PR],E.set u h1 h2 rfl rfl ⟨g,a,rfl,O⟩,zS,rfl,rfl,ze _,fun c _=>?_⟩;by_cases A:c=b
  ·exact .inr ⟨id,zk.2 rfl,n,A▸h1⟩
  ·exact .inl (by rw[H.Bc,wc A])
 unfold G6;simp only[S,g1,h2,g2,we,g3,r1];cases r' with
 |none=>exact fin _ _<|r2.2.2 w z clk j
 |some W=>exact fin _ _<|r2.2.2.2 w z j
theorem ZQ(u:SR B h0 F ρ st.nx st.ob h){ts:Array TypeId}{ps:List PV}{xs:List V}(m:A9 F ρ st.nx ps xs){v:PV}(a:(Rp C.T ts ps st).To v st'):
  ∃id E,ps=.mp id::E/\OK B h0 F ρ st h [id] (EK<|Kb C.T h ts xs) v st':=by
 unfold Rp at a;split at a
 case h_2=>simp at a
 rename_i t id q j;split at a
 case h_2=>simp at a
 rename_i J e I;split at a
 case h_2=>simp at a
 rename_i ks f vs l g r;split at a
 case h_2=>simp at a
 rename_i k w A G;obtain⟨p,D⟩:=Cp G;simp only[Sh.list.injEq,Sh.pair.injEq,vc]at p;subst p;obtain rfl:l=w:=D;simp only[AO]at a;obtain⟨rfl,rfl⟩:=a;simp only[A9]at m;obtain⟨x,xs',rfl,hx1,y,xs'',rfl,hy,rfl⟩:=m;have i:=T2 g hy A;obtain⟨b,n,o,h1,h2,⟨es,clk,rfl,h4⟩,_⟩:=u.at r;obtain rfl:=hx1.2 b n h1;obtain⟨kd,g1,g2,g3,_⟩:=Q6 g i;obtain⟨r',r1,r2⟩:=N0 g i h4 0;refine⟨id,_,rfl,?_⟩;have fin:∀d,MR F f vs (Rf f vs k l) d->OK B h0 F ρ st h [id] (EK<|some (.tup [],h.put b<|.map d clk)) (.tup []) (st.setObj id<|.map f vs<|Rf f vs k l):=by
  intro d z;refine⟨.tup [],_,F,ρ,.inl rfl,by simp[PR],u.set r h1 h2 rfl rfl ⟨d,clk,rfl,z⟩,zS,rfl,rfl,ze _,fun c _=>?_⟩;by_cases s:c=b
  ·exact .inr ⟨id,zk.2 rfl,n,s▸h1⟩
  ·exact .inl (by rw[H.Bc,wc s])
 unfold Kb;simp only[j,I,g1,h2,g2,we,g3,r1];cases r' with
 |none=>exact fin es (by rw[r2.2.1];exact h4)
 |some K=>
  have:=r2.2.2.1;simp only[Nat.sub_zero]at this;exact fin _ this
theorem SR.same(i:SR B h0 F ρ st.nx st.ob h){id b n:Nat}{o o':Obj}{x:O}(k:st.obj id=some o)(l:ρ id=some (b,n))(f:h.get b=some x)(j:o.frozen=false)(d:o'.frozen=false)
  (g:VR F ρ st.nx n o' x):SR B h0 F ρ st.nx (Dl st.ob id o') h:=by
 have a:∀c,h.get c=(h.put b x).get c:=by
  intro c;rw[H.Bc];by_cases e:c=b
  ·rw[wd e,e,f]
  ·rw[wc e]
 exact SR.congr (st:=⟨st.n,st.fr,Dl st.ob id o',st.nx⟩) (i.set k l f j d g) a rfl
theorem eQ(w:SR B h0 F ρ st.nx st.ob h){ts:Array TypeId}{ps:List PV}{xs:List V}(j:A9 F ρ st.nx ps xs){v:PV}(d:(Vc C.T ts ps st).To v st'):OK B h0 F ρ st h (EU ps) (EK<|E5 C.T h ts xs) v st':=by
 unfold Vc at d;split at d
 case h_2=>simp at d
 rename_i t p g;simp only[A9]at j;obtain⟨x,_,rfl,j,rfl⟩:=j;split at d
 case h_2=>simp at d
 rename_i e m;split at d
 case h_3=>simp at d
 case h_1=>
  simp only[AO]at d;obtain⟨rfl,rfl⟩:=d;simp only[PR]at j;subst j;exact⟨.tup [],h,F,ρ,.inl (by simp[E5,g,m,EK]),by simp[PR],w,zS,rfl,rfl,ze _,fun _ _=>.inl rfl⟩
 rename_i id sz off len cap;split at d
 case h_2=>simp at d
 rename_i i r s l U A;cases u:(zf sz s.sz&&zr 0 i.zero.length&&zf i.zero.length s.sz&&Det.J2 V.one i.zero)with
 |false=>rw[u]at d;simp at d
 |true=>
  rw[u]at d;simp only[zc,EX]at u;obtain⟨⟨⟨E,R⟩,K⟩,Y⟩:=u;have E:=zd E;have K:=zd K;subst E;simp only[we]at d;split at d
  case h_2=>simp at d
  rename_i z O;simp only[BA,w5]at d;obtain⟨J,rfl,rfl⟩:=d;obtain⟨b,n,y,h1,h2,⟨bs,fz,rfl,h3,h4,h5⟩,h6,_⟩:=w.at A;have D:DC F s z i.zero:=CF (D0 (F:=F) (ρ:=ρ) (N:=st.nx) i.zero) O;have f:=DN.replicate D len;have q:=DN.Zf h3 f (a:=off) (by simpa using J);rw[zN]at q;have k:(l.take off++(zn len z++l.drop (off+len))).length=l.length:=by simp;omega
  have skip:E5 C.T h ts [x]=some (.tup [],h)->len=0->OK B h0 F ρ st h (EU [.sl id s.sz off len cap]) (EK<|E5 C.T h ts [x]) (.tup []) (st.setObj id<|.arr false r s<|l.take off++(zn len z++l.drop (off+len))):=by
   intro P h0;subst h0;have el:l.take off++(zn 0 z++l.drop (off+0))=l:=by simp
   refine⟨.tup [],h,F,ρ,.inl (by rw[P];rfl),by simp[PR],w.same A h1 h2 rfl rfl (o':=.arr false r s _) ⟨bs,fz,rfl,?_,h4,?_⟩,zS,rfl,rfl,ze _,fun _ _=>.inl rfl⟩
   ·rw[el];exact h3
   ·rw[el];exact h5
  simp only[PR]at j;rcases j.2 b n h1 with⟨_,S,o,W,rfl⟩|⟨G,Z,S,rfl|⟨I,rfl,_⟩⟩
  ·by_cases h0:len=0
   ·exact skip (by simp[E5,g,m,h0]) h0
   ·have L:wr h b (off*s.sz) (Es i.zero<|len*i.zero.length)=some (h.put b<|.cells (Ch (off*s.sz) ((zn len i.zero).flatten) bs) r fz):=by
     rw[GU];refine LN h2 ?_ h4 ?_
     ·rw[f.1,zN, <-zp,h3.1];exact zh _ J
     ·exact f.Ra
    have M:zf len 0=false:=by rw[Bf];simp[h0]
    refine⟨.tup [],h.put b<|.cells (Ch (off*s.sz) ((zn len i.zero).flatten) bs) r fz,F,ρ,.inl ?_,by simp[PR],w.set A h1 h2 rfl rfl (o':=.arr false r s _) ⟨_,fz,rfl,q,h4,k.trans h5⟩,zS,rfl,rfl,ze _,fun c _=>?_⟩
    ·simp only[E5,g,m,M,wg,U,R,we,L,zq,EK]
    ·rw[H.Bc];by_cases e:c=b
     ·exact .inr ⟨id,by simp[EU],n,e▸h1⟩
     ·rw[wc e];exact .inl rfl
  ·exact skip (by simp[E5,g,m]) G
  ·exact skip (by simp[E5,g,m]) G
theorem lK(c:SR B h0 F ρ st.nx st.ob h){t:TypeId}{p:PV}{x:V}(b:PR F ρ st.nx p x){v:PV}(a:(UA C.T t p st).To v st'):OK B h0 F ρ st h [] (EK<|G0 C.T h t x) v st':=by
 unfold UA at a;split at a
 case h_2=>simp at a
 rename_i s d;simp only[AO]at a;obtain⟨rfl,rfl⟩:=a;obtain rfl:=Fe b;have e:G0 C.T h t (.str s)=some (.ptr h.nx 0,h.push<|.siter s 0):=by simp[G0,Qw,d]
 rw[e];exact OK.new c (o:=.siter s 0) (n:=0) rfl rfl J1
theorem qE(j:SR B h0 F ρ st.nx st.ob h){p:PV}{x:V}(k:PR F ρ st.nx p x){i:Bool}{v:PV}(a:(aU p i st).To v st'):i=true/\∃id off,p=.ptr id off/\OK B h0 F ρ st h [id] (EK<|LR h x i) v st':=by
 unfold aU at a;split at a
 case h_2=>simp at a
 rename_i id;split at a
 case h_2=>simp at a
 rename_i s pos m;obtain⟨b,n,y,f,g,l,q,_⟩:=j.at m;simp only[VR]at l;subst l;simp only[PR]at k;obtain rfl:=k.2 b n f;refine⟨rfl,id,0,rfl,?_⟩;by_cases d:pos<s.length
 ·rw[w4 d]at a;cases a with
  |tt a=>
   simp only[AO]at a;obtain⟨rfl,rfl⟩:=a;have o:LR h (.ptr b 0) true=some (.tup [.bool true,i64 pos,.int .i32<|rune s pos],h.put b<|.siter s<|pos+Ja s pos):=by
    simp only[LR,g,Gz,w4 d,we];rfl
   refine⟨_,_,F,ρ,.inl (by rw[o];rfl),?_,j.set m f g rfl rfl (o':=.siter s _) rfl,zS,rfl,rfl,ze _,fun c _=>?_⟩
   ·simp[PR,DC,i64]
   ·rw[H.Bc];by_cases e:c=b
    ·exact .inr ⟨id,zk.2 rfl,n,e▸f⟩
    ·rw[wc e];exact .inl rfl
 ·rw[w8 d]at a;cases a with
  |ff a=>
   simp only[AO]at a;obtain⟨rfl,rfl⟩:=a;refine⟨.tup [.bool false],h,F,ρ,.inl ?_,by simp[PR],j,zS,rfl,rfl,ze _,fun _ _=>.inl rfl⟩;simp only[LR,g,Gz,w8 d,wg,EK]
end
section
variable {B:Nat}{h0:H0}{F:Fz}{ρ:DM}{N:Nat}{C:Ctx}{st st':AG}{h:H}
def rC:List PV->List Nat
 | .eptr id _ _ _::_=>[id]
 |_=>[]
theorem fM(i:SR B h0 F ρ st.nx st.ob h){ps:List PV}{xs:List V}(c:A9 F ρ st.nx ps xs){v:PV}(a:(TY ps st).To v st'):OK B h0 F ρ st h [] (Bp h<|OJ xs) v st':=by
 unfold TY at a;split at a
 case h_2=>simp at a
 rename_i id sz off len;cases d:Hu (st.obj id)with
 |false=>rw[d]at a;simp at a
 |true=>
  rw[d]at a;simp only[we,BA,w5]at a;obtain⟨j,rfl,rfl⟩:=a;obtain⟨o,ho⟩:=Ug d;obtain⟨b,n,z,g1,_⟩:=i.at ho;simp only[A9]at c;obtain⟨x,_,rfl,c,rfl⟩:=c;simp only[PR]at c;obtain⟨_,_,o',_,rfl⟩:len<=len/\off+len<=n/\∃o,(o=0\/o=sz)/\x=.sl b (off*sz) len len o:=by
   rcases c.2 b n g1 with g|⟨_,e,_⟩
   ·exact g
   ·cases e
  refine zg i (v':=.ptr b<|off*sz) ?_ ?_
  ·have:zr 0 len=true:=by rw[Nat.blt_eq];exact j
   simp only[OJ,this,we];rfl
  ·simp only[PR];refine⟨c.1,fun b' n' f=>?_⟩;rw[g1]at f;cases f;rfl
theorem dG{k:IntKind}:∀ {l:List Int} {cs:List V},DN F (.int k) l cs->cs=l.map (yi k):=by
 intro l cs a;have c:cs.length=l.length:=by rw[a.1];simp[Sh.sz]
 apply List.ext_getElem
 ·rw[ye];exact c
 ·intro i b f;have d:i<l.length:=by omega
  have:=a.2 i d;have e:(cs.drop<|i*Sh.sz (.int k)).take (Sh.sz<|.int k)=[cs[i]]:=by
   rw[show Sh.sz (.int k)=1 from rfl,zY,zw b];rfl
  rw[e]at this;simpa [DC]using this
theorem Nd:∀ {l:List Int},P3 l=true->FL (l.map<|yi .u8)=some (UL l)
 |[],_=>rfl
 |x::l,h=>by
  unfold P3 at h;rw[List.all_cons,zc,zc,w5,w5]at h;have b:=Nd (l:=l) h.2;obtain⟨n,rfl⟩:=ya h.1.1;have c:zr n 256=true:=by rw[Nat.blt_eq];omega
  have a:RB (.int .u8 (n:Int))=some (UInt8.ofNat n):=by
   show(bif zr n 256 then some (UInt8.ofNat n)else none)=_;rw[c];rfl
  rw[List.map_cons];unfold FL;rw[a,b];rfl
theorem TR{l:List Int}(h:P3 l=true)(n:Nat):P3 (l.take n)=true:=by
 unfold P3 at*;rw[zK]at*;exact fun x a=>h x<|List.mem_of_mem_take a
theorem nH(p:SR B h0 F ρ st.nx st.ob h){ts:Array TypeId}{ps:List PV}{xs:List V}(f:A9 F ρ st.nx ps xs){v:PV}(a:(bQ C.T ts.toList ps st).To v st'):OK B h0 F ρ st h (rC ps) (EK<|PZ C.T h ts.toList xs) v st':=by
 unfold bQ at a;split at a
 case h_2=>simp at a
 rename_i pt it id sz i n I;split at a
 case h_2=>simp at a
 rename_i e t s l hu L;split at a
 case h_2=>simp at a
 rename_i W u hi w;cases J:(zf W.size 1&&zf e t)with
 |false=>rw[J]at a;simp at a
 |true=>
  rw[J]at a;simp only[we,BA,zc,w5]at a;obtain⟨⟨⟨⟨⟨Y,G⟩,K⟩,O⟩,P⟩,rfl,rfl⟩:=a;subst Y;obtain⟨es,he⟩:=Cp w;have Z:s=.int .u8:=by cases es;rfl
  subst Z;have:u=l:=by have:=he;cases this;rfl
  subst this;obtain⟨m,rfl⟩:=ya<|Int.le_of_lt G;simp only[Int.toNat_natCast]at K O;obtain⟨b,n',z,h1,h2,⟨cs,fz,rfl,h3,h4,h5⟩,h6,_⟩:=p.at L;have D:=h6 rfl;simp only[A9]at f;obtain⟨x,_,rfl,f,y,_,rfl,hy,rfl⟩:=f;obtain rfl:=De hy;simp only[PR]at f;obtain rfl:=f.2 b n' h1;have U:=(p.own id b n' h1).2;have A:b∉h0.pin:=fun S=>(p.pn b S).2.2 id n' h1
  have d:∀j oj m,AH (Fv st.ob id) j=some oj->BB ρ id none j≠some (b,m):=by
   intro j oj m r g;rw[DI]at r;split at r
   ·cases r
   ·rename_i o;simp only[BB,o,vf]at g;exact o<|p.inj j id oj _ b m n' r L g h1
  have q:=p.del id;have k:=dG h3;have E:cs.take m=(u.take m).map (yi .u8):=by rw[k,List.map_take]
  have hb:=Nd<|TR P m;have R:PZ C.T h ts.toList [.ptr b<|0*sz+0,.int .i64 (m:Int)]=some (.str<|UL<|u.take m,h.kill b):=by
   rw[zu];unfold PZ;rw[I];show(match C.T.und pt,h.get b with
    |some (.pointer e),some (.cells cs t fz)=>(match C.T.inf e,FL (cs.take m)with
     |some i,some l=>bif zf i.size 1&&zf e t&&zr 0 m&&zl m cs.length&&zl m 9223372036854775807&&zl fz.2 fz.1 then some (V.str l,h.kill b)else none
     |_,_=>none)
    |_,_=>none)=_
   rw[hu,h2];show(match C.T.inf e,FL (cs.take m)with
    |some i,some l=>bif zf i.size 1&&zf e t&&zr 0 m&&zl m cs.length&&zl m 9223372036854775807&&zl fz.2 fz.1 then some (V.str l,h.kill b)else none
    |_,_=>none)=_
   rw[hi,E,hb];have G:(0:Int)<(m:Int):=G;have c1:zr 0 m=true:=by rw[Nat.blt_eq];omega
   have c2:zl m cs.length=true:=zi (by rw[k,ye];exact K);have c3:zl m 9223372036854775807=true:=zi O;have c4:zl fz.2 fz.1=true:=zi h4;simp only[J,c1,c2,c3,c4,z8,we]
  rw[R];refine⟨_,_,F,BB ρ id none,.inl rfl,Ru _,q.kill d D U A,Le.MF id,rfl,rfl,ze _,fun c _=>?_⟩;rw[H.B0];by_cases M:c=b
  ·exact .inr ⟨id,zk.2 rfl,n',M▸h1⟩
  ·rw[wc M];exact .inl rfl
end
section
variable {B:Nat}{h0:H0}{C:Ctx}{F F1 F':Fz}{ρ:DM}{N:Nat}{st st':AG}{fr:Fr}{h h':H}
def PC(F:Fz)(p:PV)(v:V):Prop:=∀ρ N,PR F ρ N p v
def LH(F:Fz)(ps:List PV)(vs:List V):Prop:=∀ρ N,A9 F ρ N ps vs
theorem Le.XT(a:∀b cs,F b=some cs->F1 b=some cs):Le F ρ N F1 ρ N:=⟨a,fun _ _=>.inl rfl,ze _⟩
theorem PC.mono(c:∀b cs,F b=some cs->F1 b=some cs){p:PV}{v:V}(a:PC F p v):PC F1 p v:=fun ρ N=>(a ρ N).mono<|Le.XT c
theorem LH.cons{p:PV}{ps:List PV}{v:V}{vs:List V}(a:PC F p v)(b:LH F ps vs):LH F (p::ps) (v::vs):=fun ρ N=>(AU ..).2 ⟨a ρ N,b ρ N⟩
theorem LH.dc{s:Sh}{ps:List PV}{vs:List V}{x:s.T}(b:LH F ps vs)(a:CP s ps=some x):DC F s x vs:=CF (b (fun _=>none) 0) a
theorem PC.B1:∀ {s:Sh} {x:s.T} {cs:List V},DC F s x cs->(s.O5=true->PC F (B1 s x) (.agg cs))/\(s.O5=false->∀v,cs=[v]->PC F (B1 s x) v)
 | .pair a b,x,cs,h=>⟨fun _ ρ N=>by unfold yj PR;exact⟨cs,rfl,CM h⟩,fun e=>by cases e⟩
 | .unit,x,cs,h=>⟨fun _ ρ N=>by simp only[DC]at h;subst h;unfold yj PR;exact⟨[],rfl,by simp⟩,fun e=>by cases e⟩
 | .int _,x,cs,h=>⟨fun e=>(by cases e),fun _ v c ρ N=>by subst c;unfold yj PR;exact h⟩
 | .bool,x,cs,h=>⟨fun e=>(by cases e),fun _ v c ρ N=>by subst c;unfold yj PR;exact h⟩
 | .str,x,cs,h=>⟨fun e=>(by cases e),fun _ v c ρ N=>by subst c;unfold yj PR;exact h⟩
 | .list _,x,cs,h=>⟨fun e=>(by cases e),fun _ v c ρ N=>by subst c;unfold yj PR;exact h⟩
 | .nlist _,x,cs,h=>⟨fun e=>(by cases e),fun _ v c ρ N=>by subst c;unfold yj PR;exact h⟩
 | .fnv,x,cs,h=>⟨fun e=>(by cases e),fun _ v c ρ N=>by
   subst c;simp only[DC,zV,vc]at h;subst h;unfold yj;cases (x:Option Fn)<;>simp[PR]⟩
 | .ptr s,x,cs,h=>⟨fun e=>(by cases e),fun _ v c ρ N=>by
   subst c;simp only[DC]at h;obtain⟨b,o,i,d,g,j,f⟩:=h;unfold yj PR;exact⟨b,o,i,List.singleton_inj.1 d,g,j,f⟩⟩
theorem SR.vD{ob c:Ob}(a:SR B h0 F ρ N ob h)(d:∀j,AH c j=AH ob j):SR B h0 F ρ N c h:=
 ⟨fun id o i=>a.obj id o<|d id▸i,fun id id' o o' b n n' f g=>a.inj id id' o o' b n n' (d id▸f)<|d id'▸g,a.frz,a.own,fun id e=>a.dead id<|d id▸e,a.old,a.lt,a.le,a.fo,a.gl,a.pn⟩
theorem nR{s:Sh}{l:List s.T}{cs:List V}{b:Nat}(m:F b=some cs)(e:DN F s l cs){off len:Nat}(d:off+len<=l.length){cap o:Nat}(c:len<=cap)(g:o=0\/o=s.sz):
  DC F (.list s) ((l.drop off).take len) [.sl b (off*s.sz) len cap o]:=by
 have a:((l.drop off).take len).length=len:=by simp;omega
 simp only[DC];refine⟨_,rfl,.inr ⟨b,off*s.sz,cap,o,cs,by rw[a],by rw[a];exact c,m,?_,g,fun i k=>?_⟩⟩
 ·rw[a,e.1, <-zp];exact zh _ d
 ·rw[a]at k;have f:=e.2 (off+i) (by omega);have j:((l.drop off).take len)[i]=l[off+i]'(by omega):=by simp
  rw[j, <-zp];exact f
theorem Kg(st:AG)(p:PV):(Bt st p).nx=st.nx/\(Bt st p).fr=st.fr/\(Bt st p).n=st.n:=by
 unfold Bt;split
 ·split<;>exact⟨rfl,rfl,rfl⟩
 ·exact⟨rfl,rfl,rfl⟩
theorem C8:∀(ps:List PV) (st:AG),(Bg ps st).nx=st.nx/\(Bg ps st).fr=st.fr/\(Bg ps st).n=st.n
 |[],_=>⟨rfl,rfl,rfl⟩
 |p::ps,st=>by
  obtain⟨a,c,b⟩:=C8 ps<|Bt st p;obtain⟨g1,g2,g3⟩:=Kg st p;exact⟨a.trans g1,c.trans g2,b.trans g3⟩
theorem HH:∀(ps a:List PV) (st:AG),Bg (ps++a) st=Bg a (Bg ps st)
 |[],_,_=>rfl
 |p::ps,a,st=>HH ps a<|Bt st p
def DF:Option Obj->Option Obj->Prop
 |some (.arr _ e s l),o=>∃fz,o=some (.arr fz e s l)
 |a,b=>b=a
theorem DF.refl(o:Option Obj):DF o o:=by
 cases o with
 |none=>rfl
 |some o=>cases o<;>first|rfl|exact⟨_,rfl⟩
theorem Lw(st:AG)(p:PV)(j:Nat):DF (st.obj j) ((Bt st p).obj j):=by
 unfold Bt;split
 case h_2=>exact DF.refl _
 split
 case h_2=>exact DF.refl _
 rename_i id _ _ _ _ _ fz e s l a;show DF (AH st.ob j)<|AH (Dl st.ob id<|.arr true e s l) j;rw[Gs _ _ _ _<|by show(st.obj id).isSome=true;rw[a];rfl];split
 ·rename_i b;subst b;show DF (st.obj j) _;rw[a];exact⟨_,rfl⟩
 ·exact DF.refl _
theorem ZY{st st':AG}(h:∀id,DF (st.obj id)<|st'.obj id)(p:PV):BM st' p=BM st p:=by
 unfold BM;cases p<;>try rfl
 rename_i id sz off len cap;have:=h id;cases a:st.obj id with
 |none=>rw[a]at this;simp only[a,show st'.obj id=none from this]
 |some o=>
  rw[a]at this;cases o with
  |arr fz e s l=>
   obtain⟨fz',b⟩:=this;simp only[a,b]
  |box _=>simp only[a,show st'.obj id=_ from this]
  |tbox _ _=>simp only[a,show st'.obj id=_ from this]
  |map _ _ _=>simp only[a,show st'.obj id=_ from this]
  |siter _ _=>simp only[a,show st'.obj id=_ from this]
  |lp _ _ _ _ _ _ _ _=>simp only[a,show st'.obj id=_ from this]
theorem Lr{st st':AG}(h:∀id,DF (st.obj id)<|st'.obj id):∀ps:List PV,Dv st' ps=Dv st ps
 |[]=>rfl
 |p::ps=>by unfold Dv;rw[ZY h p,Lr h ps]
theorem DF.trans{a b c:Option Obj}(d:DF a b)(f:DF b c):DF a c:=by
 cases a with
 |none=>have:b=none:=d;subst this;exact f
 |some o=>
  cases o with
  |arr fz e s l=>obtain⟨fz',rfl⟩:=d;exact f
  |box _=>have:b=_:=d;subst this;exact f
  |tbox _ _=>have:b=_:=d;subst this;exact f
  |map _ _ _=>have:b=_:=d;subst this;exact f
  |siter _ _=>have:b=_:=d;subst this;exact f
  |lp _ _ _ _ _ _ _ _=>have:b=_:=d;subst this;exact f
theorem LB:∀(ps:List PV) (st:AG) (id:Nat),DF (st.obj id)<|(Bg ps st).obj id
 |[],_,_=>DF.refl _
 |p::ps,st,id=>(Lw st p id).trans<|LB ps (Bt st p) id
theorem S9{st st':AG}(h:∀id,DF (st.obj id)<|st'.obj id)(s:Sh)(p:PV):E7 st' s p=E7 st s p:=by
 unfold E7;rw[Lr h]
theorem Lb{st st':AG}(h:∀id,DF (st.obj id)<|st'.obj id):∀(l:List Sh) (ps:List PV),D6 st' l ps=D6 st l ps
 |[],[]=>rfl
 |[],_::_=>rfl
 |[a],[p]=>S9 h a p
 |[a],[]=>rfl
 |[a],_::_::_=>rfl
 |a::b::l,[]=>rfl
 |a::b::l,p::ps=>by unfold D6;rw[S9 h a p,Lb h (b::l) ps]
theorem LC(r:SR B h0 F ρ st.nx st.ob h){p:PV}{v:V}(A:PR F ρ st.nx p v):
  ∃F1,SR B h0 F1 ρ (Bt st p).nx (Bt st p).ob h/\(∀b cs,F b=some cs->F1 b=some cs)/\∀x,BM st p=some (true,x)->PC F1 x v:=by
 have same:∀ {q:PV},(∀x,BM st q=some (true,x)->PC F x v)->Bt st q=st->∃F1,SR B h0 F1 ρ (Bt st q).nx (Bt st q).ob h/\(∀b cs,F b=some cs->F1 b=some cs)/\∀x,BM st q=some (true,x)->PC F1 x v:=
  fun I T=>⟨F,by rw[T];exact r,fun _ _ h=>h,I⟩
 cases p with
 |sl id sz off len cap=>
  cases d:st.obj id with
  |none=>exact same (fun x a=>by simp[BM,d]at a) (by simp[Bt,d])
  |some o=>
   cases o with
   |box _=>exact same (fun x a=>by simp[BM,d]at a) (by simp[Bt,d])
   |tbox _ _=>exact same (fun x a=>by simp[BM,d]at a) (by simp[Bt,d])
   |map _ _ _=>exact same (fun x a=>by simp[BM,d]at a) (by simp[Bt,d])
   |siter _ _=>exact same (fun x a=>by simp[BM,d]at a) (by simp[Bt,d])
   |lp _ _ _ _ _ _ _ _=>exact same (fun x a=>by simp[BM,d]at a) (by simp[Bt,d])
   |arr fz e s l=>
    obtain⟨b,n,x,I,T,⟨cs,fz',rfl,h4,h5,h6⟩,h7,h8⟩:=r.at d;have O:Bt st (.sl id sz off len cap)=st.setObj id (.arr true e s l):=by simp[Bt,d]
    have t:∀j,AH (Dl st.ob id<|.arr true e s l) j=if j=id then some (.arr true e s l)else AH st.ob j:=fun j=>Gs _ _ _ _ (by show(st.obj id).isSome=true;rw[d];rfl)
    have fin:∀ {G:Fz},G b=some cs->(∀b cs,F b=some cs->G b=some cs)->∀x,BM st (.sl id sz off len cap)=some (true,x)->PC G x v:=by
     intro G hG hFG x a ρ' N';simp only[BM,d]at a;cases u:zf sz s.sz with
     |false=>rw[u]at a;simp at a
     |true=>
      rw[u]at a;simp only[we,zj,zM,w5]at a;obtain⟨E,rfl⟩:=a;have u:=zd u;subst u;unfold PR;simp only[PR]at A;rcases A.2 b n I with⟨M,U,o,Z,rfl⟩|⟨rfl,rfl,Z,rfl|⟨P,rfl,k4⟩⟩
      ·exact nR hG (h4.mono hFG) E M Z
      ·simp[DC]
      ·simp only[List.take_zero,DC];refine⟨_,rfl,.inr ⟨b,P,0,0,cs,rfl,ze _,hG,?_,.inl rfl,fun i Y=>by simp at Y⟩⟩;simp only[zQ,zu,Nat.add_zero];rw[h4.1];exact yb k4 (zh _ (by rw[h6];exact Z))
    cases K:fz with
    |true=>
     subst K;obtain⟨cs',t',fz2,M,U⟩:=h8 rfl;cases M;refine⟨F,?_,fun _ _ h=>h,fin U<|fun _ _ h=>h⟩;rw[O];refine SR.vD r fun j=>?_
     show AH (Dl st.ob id _) j=_;rw[t];split
     ·rename_i R;subst R;exact d.symm
     ·rfl
    |false=>
     subst K;have W:F b=none:=h7 rfl;have f:∀c cs',F c=some cs'->(fun c=>if c=b then some cs else F c) c=some cs':=by
      intro c cs' z;have:c≠b:=fun e=>by rw[e,W]at z;cases z
      simp[this,z]
     refine⟨fun c=>if c=b then some cs else F c,?_,f,fin (by simp) f⟩;rw[O];have E:Le F ρ st.nx (fun c=>if c=b then some cs else F c) ρ st.nx:=Le.XT f;have D:∀k ok,AH (Dl st.ob id<|.arr true e s l) k=some ok->∃o2,AH st.ob k=some o2:=by
      intro k ok hk;rw[t]at hk;by_cases ek:k=id
      ·exact⟨_,ek▸d⟩
      ·rw[wc ek]at hk;exact⟨ok,hk⟩
     refine⟨fun j oj g=>?_,fun i j oi oj c m m' Y g S g2=>?_,fun c cs' z=>?_,r.own,fun j g=>?_,r.old,r.lt,r.le,fun c cs' z=>?_,r.gl,r.pn⟩
     ·have g:AH (Dl st.ob id<|.arr true e s l) j=some oj:=g;rw[t]at g;by_cases R:j=id
      ·subst R;simp only[wk,zj]at g;subst g;refine⟨b,n,_,I,T,⟨cs,fz',rfl,h4.mono f,h5,h6⟩,fun e=>(by cases e),fun _=>⟨cs,_,_,rfl,by simp⟩⟩
      ·rw[wc R]at g;obtain⟨c,m,y,S,g2,g3,g4,g5⟩:=r.obj j oj g;have L:c≠b:=fun J=>R<|r.inj j id oj _ c m n g d S<|J▸I
       exact⟨c,m,y,S,g2,g3.mono E,fun e=>by simp[L,g4 e],fun e=>by obtain⟨a1,a2,a3,a4,a5⟩:=g5 e;exact⟨a1,a2,a3,a4,by simp[L,a5]⟩⟩
     ·obtain⟨_,M⟩:=D i oi Y;obtain⟨_,U⟩:=D j oj g;exact r.inj i j _ _ c m m' M U S g2
     ·split at z
      ·rename_i J;cases z;subst J;exact⟨_,_,T⟩
      ·exact r.frz c cs' z
     ·have g:AH (Dl st.ob id<|.arr true e s l) j=none:=g;rw[t]at g;split at g
      ·cases g
      ·exact r.dead j g
     ·split at z
      ·rename_i J;subst J;exact .inr (r.own id c n I).2
      ·exact r.fo c cs' z
 |dat s x=>exact same (fun y w ρ' N'=>by simp only[BM,zj,zM,true_and]at w;subst w;unfold PR at A ⊢;exact A) rfl
 |bl b=>exact same (fun y w ρ' N'=>by simp only[BM,zj,zM,true_and]at w;subst w;unfold PR at A ⊢;exact A) rfl
 |nil=>exact same (fun y w ρ' N'=>by simp only[BM,zj,zM,true_and]at w;subst w;unfold PR at A ⊢;exact A) rfl
 |D7 s x off=>exact same (fun y w ρ' N'=>by simp only[BM,zj,zM,true_and]at w;subst w;unfold PR at A ⊢;exact A) rfl
 |any|ub|yl _|nilp|nilm|nilf|nili|agg _|tup _|ptr _ _|eptr _ _ _ _|mp _|fn _ _ _=>exact same (fun x a=>by simp[BM]at a) rfl
theorem HE:∀ {ps:List PV} {vs:List V} {st:AG} {F:Fz},SR B h0 F ρ st.nx st.ob h->A9 F ρ st.nx ps vs->
  ∃F1,SR B h0 F1 ρ (Bg ps st).nx (Bg ps st).ob h/\(∀b cs,F b=some cs->F1 b=some cs)/\∀xs,Dv st ps=some (true,xs)->LH F1 xs vs
 |[],vs,st,F,i,e=>⟨F,i,fun _ _ h=>h,fun xs a=>by
  cases a;have t:vs=[]:=by simpa using e
  subst t;intro ρ' N';simp⟩
 |p::ps,vs,st,F,i,e=>by
  simp only[A9]at e;obtain⟨v,vs,rfl,k,l⟩:=e;obtain⟨F1,g1,g2,g3⟩:=LC i k;have f:A9 F1 ρ (Bt st p).nx ps vs:=by rw[(Kg st p).1];exact l.mono<|Le.XT g2
  obtain⟨m,r,j,o⟩:=HE g1 f;refine⟨m,r,fun b cs u=>j b cs<|g2 b cs u,fun xs a=>?_⟩;unfold Dv at a;split at a
  case h_2=>cases a
  rename_i c x d g q s;simp only[zj,zM,zc]at a;obtain⟨⟨rfl,rfl⟩,rfl⟩:=a;exact LH.cons ((g3 x q).mono j) (o g (by rw[Lr<|Lw st p];exact s))
theorem Yt(q:SR B h0 F ρ st.nx st.ob h){t:TypeId}{n:Nat}{l:List (Nat×PV)}{l':List (Nat×V)}(I:pE F ρ st.nx l l'){v:PV}(a:(Q1 C.T t n l st).To v st'):OK B h0 F ρ st h [] (EK<|En C.T h t n l') v st':=by
 unfold Q1 at a;split at a
 case h_2=>simp at a
 rename_i e K;split at a
 case h_2=>simp at a
 rename_i i s M Z;cases p:(zl (Nat.mul n i.size) 16777216&&zr 0 i.zero.length&&zf i.zero.length i.size&&zf i.size s.sz)with
 |false=>rw[p]at a;simp at a
 |true=>
  rw[p]at a;simp only[zc]at p;obtain⟨⟨⟨O,L⟩,m⟩,G⟩:=p;simp only[we]at a;split at a
  case h_2=>simp at a
  rename_i cs k;split at a
  case h_2=>
   split at a
   case h_2=>simp at a
   rename_i c cs' R;split at a
   case h_2=>simp at a
   rename_i el d;simp only[BA]at a;obtain⟨rfl,rfl,rfl⟩:=a;have z:=zd m;have E:=zd G;have u:A9 F ρ st.nx (JC (i.zero.map Ue) n) (Es i.zero<|n*i.size):=by
    rw[<-z,GU];exact Jq _ _
   obtain⟨g,j,y⟩:=Ix q I u k;have b:g.length=n*s.sz:=by
    rw[<-E];rw[Ln j];simp[Es]
   obtain⟨F1,U,P,S⟩:=HE q y;obtain⟨D,A⟩:=Io (S cs' R ρ st.nx) d b;have w:En C.T h t n l'=some (.sl h.nx 0 n n 0,h.push<|.cells g e (0,0)):=by
    have f:zl (n*i.size) 16777216=true:=O;simp only[En,K,M,f,L,m,z8,we,j,H9]
   rw[w];obtain⟨J,W,Y⟩:=C8 cs st;have r:=OK.new (F:=F1) (ρ:=ρ) (st:=Bg cs st) U (o:=.arr false e s el) (x:=.cells g e (0,0)) (n:=n) (v:=.sl (Bg cs st).nx s.sz 0 n none) (v':=.sl h.nx 0 n n 0) rfl ⟨_,_,rfl,A.mono<|fun _ _ h=>h,ze _,D⟩ (Nj<|.inl rfl);obtain⟨v',h',F',ρ',q1,q2,q3,q4,q5,q6,q7,q8⟩:=r;rw[J]at q2;exact⟨v',h',F',ρ',q1,q2,q3,(by rw[J]at q4;exact(Le.XT P).trans q4),q5.trans W,q6.trans Y,q7,q8⟩
  rename_i el d;simp only[AO]at a;obtain⟨rfl,rfl⟩:=a;have z:=zd m;have E:=zd G;have u:A9 F ρ st.nx (JC (i.zero.map Ue) n) (Es i.zero<|n*i.size):=by
   rw[<-z,GU];exact Jq _ _
  obtain⟨g,j,y⟩:=Ix q I u k;have b:g.length=n*s.sz:=by
   rw[<-E];rw[Ln j];simp[Es]
  obtain⟨D,A⟩:=Io y d b;have w:En C.T h t n l'=some (.sl h.nx 0 n n 0,h.push<|.cells g e (0,0)):=by
   have f:zl (n*i.size) 16777216=true:=O;simp only[En,K,M,f,L,m,z8,we,j,H9]
  rw[w];exact OK.new q (o:=.arr false e s el) (n:=n) rfl ⟨_,_,rfl,A.mono<|fun _ _ h=>h,ze _,D⟩ (Nj<|.inl rfl)
end
section
variable {B:Nat}{h0:H0}{F:Fz}{ρ:DM}{N:Nat}{C:Ctx}{st st':AG}{fr:Fr}{h h':H}
theorem DJ{x:Operand}{k:PV->PO}{v:PV}:(v1 st x k).To v st'↔∃p,Pf st x=some p/\(k p).To v st':=by
 unfold v1;cases Pf st x with
 |none=>simp
 |some p=>simp
theorem cO(c:FP F ρ N st fr){x:Option Operand}{k:Option PV->PO}{v:PV}(a:(o1 st x k).To v st'):∃p y,TF C fr x=some y/\RQ F ρ N p y/\(k p).To v st':=by
 unfold o1 at a;cases x with
 |none=>exact⟨none,none,rfl,rfl,a⟩
 |some x=>
  obtain⟨p,b,d⟩:=DJ.1 a;obtain⟨y,g1,g2⟩:=B2 (C:=C) c b;exact⟨some p,some y,by simp[TF,g1],⟨y,rfl,g2⟩,d⟩
theorem XV(d:SR B h0 F ρ st.nx st.ob h){b:Builtin}{ts:Array TypeId}{ps:List PV}{xs:List V}(c:A9 F ρ st.nx ps xs){v:PV}(a:(HC C.T b ts ps st).To v st'):
  OK B h0 F ρ st h (match b with| .append| .clear=>EU ps| .unsafeString=>rC ps|_=>[]) (DZ C h b ts xs) v st':=by
 unfold HC at a;split at a
 case h_8=>simp at a
 case h_7=>exact nH d c a
 case h_6=>exact fM d c a
 case h_5=>exact eQ d c a
 case h_1=>exact vC d c a
 case h_2=>exact bJ d c a
 case h_3=>exact uC (g:=YL) d (fun k x y=>by simp[YL,imax]) c a
 case h_4=>exact uC (g:=Z0) d (fun k x y=>by simp[Z0,Ec]) c a
theorem kK(I:Rel B h0 F ρ st fr h){o:Oper}{v:PV}(e:(pop o.op C.T st).To v st'):
  ∃P,OK B h0 F ρ st h P (FH C fr h o) v st'/\∀sp J,Gj sp st o.op=some J->∀i∈P,i∈J:=by
 have nil:∀ {d:Option OR} {op:Op},OK B h0 F ρ st h [] d v st'->∃P,OK B h0 F ρ st h P d v st'/\∀sp J,Gj sp st op=some J->∀i∈P,i∈J:=fun h=>⟨[],h,fun _ _ _ i O=>by cases O⟩
 have A:∀ {x p},Pf st x=some p->∃y,ev C fr x=some y/\PR F ρ st.nx p y:=fun hp=>B2 I.fp hp
 unfold pop at e;rw[CG];unfold FY;cases W:o.op<;>rw[W]at e<;>simp only[I0,KT]at e<;>simp only
 case move x|assign x=>
  simp only[Ut,JM]at e;obtain⟨G,rfl⟩:=e;obtain⟨y,E,D⟩:=A G;refine nil ?_;rw[E];exact zg I.sr rfl D
 case pick c a b=>
  simp only[eA,DJ]at e;obtain⟨p,G,q,L,r,h3,e⟩:=e;obtain⟨x,E,D⟩:=A G;obtain⟨y,g3,g4⟩:=A L;obtain⟨z,g5,g6⟩:=A h3;obtain⟨t,rfl,S⟩:=qC I.sr D g4 g6 e;refine nil ?_;rw[E];simp only;cases t
  ·simpa [g5]using S
  ·simpa [g3]using S
 case alloc t=>exact nil<|iC I.sr e
 case box t x=>
  simp only[mW,DJ]at e;obtain⟨p,G,e⟩:=e;obtain⟨y,E,D⟩:=A G;split at e
  case h_2=>simp at e
  rename_i cs Z;cases Y:Det.J2 (Jh st) cs with
  |false=>rw[Y]at e;simp at e
  |true=>
  rw[Y]at e;simp only[we,AO]at e;obtain⟨rfl,rfl⟩:=e;refine nil ?_;rw[E];exact tH I.sr D Z (by rw[<-EX];exact Y)
 case build t ps=>
  simp only[WS]at e;split at e
  case h_2=>simp at e
  rename_i l R;obtain⟨l',E,D⟩:=NR (C:=C) I.fp R;refine nil ?_;rw[E];exact gP I.sr D e
 case buildSlice t n ps=>
  simp only[SZ]at e;split at e
  case h_2=>simp at e
  rename_i l R;obtain⟨l',E,D⟩:=NR (C:=C) I.fp R;refine nil ?_;rw[E];exact Yt I.sr D e
 case load t x=>
  simp only[Zt,DJ]at e;obtain⟨p,G,e⟩:=e;obtain⟨y,E,D⟩:=A G;refine nil ?_;rw[E];exact cW I.sr D e
 case store t x y=>
  simp only[V4,DJ]at e;obtain⟨p,G,q,L,e⟩:=e;obtain⟨a,E,D⟩:=A G;obtain⟨b,g3,g4⟩:=A L;obtain⟨id,hid,S⟩:=fW I.sr D g4 e;refine⟨[id],by rw[E,g3];exact S,fun sp J g=>?_⟩;simp only[Gj,G]at g;rcases hid with⟨off,rfl⟩|⟨sz,j,off,rfl⟩<;>(simp only[zj]at g;subst g;intro i O;exact O)
 case nilCheck x=>
  simp only[Of,DJ]at e;obtain⟨p,G,e⟩:=e;obtain⟨y,E,D⟩:=A G;rw[E];split at e
  case h_4=>simp at e
  case h_1=>
   rename_i id off;cases R:Hu (st.obj id)with
   |false=>rw[R]at e;simp at e
   |true=>
    rw[R]at e;simp only[we,AO]at e;obtain⟨rfl,rfl⟩:=e;obtain⟨b,n,k1⟩:=I.sr.live R;have K:=D;simp only[PR]at K;obtain rfl:=K.2 b n k1;exact nil<|zg I.sr rfl D
  case h_2=>
   rename_i id sz j off;cases R:Hu (st.obj id)with
   |false=>rw[R]at e;simp at e
   |true=>
    rw[R]at e;simp only[we,AO]at e;obtain⟨rfl,rfl⟩:=e;obtain⟨b,n,k1⟩:=I.sr.live R;have K:=D;simp only[PR]at K;obtain rfl:=K.2 b n k1;exact nil<|zg I.sr rfl D
  case h_3=>
   simp only[AO]at e;obtain⟨rfl,rfl⟩:=e;have K:=D;simp only[PR]at K;obtain⟨b,o',cs,rfl,_⟩:=K;exact nil<|zg I.sr rfl D
 case binOp op t x y t2=>
  simp only[lT,DJ]at e;obtain⟨p,G,q,L,e⟩:=e;obtain⟨a,E,D⟩:=A G;obtain⟨b,g3,g4⟩:=A L;refine nil ?_;rw[E,g3];split at e
  case h_2=>exact uU I.sr D g4 e
  rename_i r U;simp only[AO]at e;obtain⟨rfl,rfl⟩:=e;unfold mN at U;split at U
  case h_3=>cases U
  all_goals
   rename_i m hu;cases hc:(Vo x||Vo y)with
   |false=>rw[hc]at U;cases U
   |true=>
    rw[hc]at U;cases U;simp only[PR]at D g4;subst D g4;exact zg I.sr (by simp only[LI,hJ,hu,hc,we,Bp])<|Ib _
 case unOp op t x=>
  simp only[tF,DJ]at e;obtain⟨p,G,e⟩:=e;obtain⟨y,E,D⟩:=A G;refine nil ?_;rw[E];exact wZ I.sr D e
 case convert s d x=>
  simp only[bG,DJ]at e;obtain⟨p,G,e⟩:=e;obtain⟨y,E,D⟩:=A G;refine nil ?_;rw[E];exact oK I.sr D e
 case makeFunc f a b=>
  simp only[YS]at e;split at e
  case h_2=>simp at e
  rename_i x y hx hy;simp only[AO]at e;obtain⟨rfl,rfl⟩:=e;obtain⟨u,E,D⟩:=EB (C:=C) I.fp hx;obtain⟨w,g3,g4⟩:=EB (C:=C) I.fp hy;refine nil ?_;rw[E,g3];exact zg I.sr rfl (by unfold PR;exact⟨_,_,rfl,D,g4⟩)
 case makeMap t r=>
  simp only[Wj]at e;split at e
  case h_2=>simp at e
  refine nil ?_;exact fU I.sr e
 case lookup t x i ok=>
  simp only[S7,DJ]at e;obtain⟨p,G,q,L,e⟩:=e;obtain⟨a,E,D⟩:=A G;obtain⟨b,g3,g4⟩:=A L;refine nil ?_;rw[E,g3];exact aH I.sr D g4 e
 case mapUpdate t m k x|insert t m k x=>
  simp only[M9,DJ]at e;obtain⟨p,G,q,L,r,h3,e⟩:=e;obtain⟨a,E,D⟩:=A G;obtain⟨b,g3,g4⟩:=A L;obtain⟨c,g5,g6⟩:=A h3;obtain⟨id,rfl,S⟩:=ZJ I.sr D g4 g6 e;refine⟨[id],by rw[E,g3,g5];exact S,fun sp J g=>?_⟩;simp only[Gj,G,zj]at g;subst g;intro i O;exact O
 case makeSlice t l c=>
  simp only[cH,DJ]at e;obtain⟨p,G,q,L,e⟩:=e;obtain⟨a,E,D⟩:=A G;obtain⟨b,g3,g4⟩:=A L;refine nil ?_;rw[E,g3];exact pQ I.sr D g4 e
 case slice t x lo O mx=>
  simp only[VI,DJ]at e;obtain⟨p,G,e⟩:=e;obtain⟨a,E,D⟩:=A G;obtain⟨l,l',k1,k2,e⟩:=cO (C:=C) I.fp e;obtain⟨m,m',k3,k4,e⟩:=cO (C:=C) I.fp e;obtain⟨n,n',k5,k6,e⟩:=cO (C:=C) I.fp e;refine nil ?_;rw[E,k1,k3,k5];exact iP I.sr D k2 k4 k6 e
 case fieldAddr t x f=>
  simp only[VX,DJ]at e;obtain⟨p,G,e⟩:=e;obtain⟨y,E,D⟩:=A G;refine nil ?_;rw[E];exact kY I.sr D e
 case field t x f=>
  simp only[WA,DJ]at e;obtain⟨p,G,e⟩:=e;obtain⟨y,E,D⟩:=A G;refine nil ?_;rw[E];exact lR I.sr D e
 case indexAddr t x i=>
  simp only[VV,DJ]at e;obtain⟨p,G,q,L,e⟩:=e;obtain⟨a,E,D⟩:=A G;obtain⟨b,g3,g4⟩:=A L;refine nil ?_;rw[E,g3];exact gG I.sr D g4 e
 case index t x i=>
  simp only[Wk,DJ]at e;obtain⟨p,G,q,L,e⟩:=e;obtain⟨a,E,D⟩:=A G;obtain⟨b,g3,g4⟩:=A L;refine nil ?_;rw[E,g3];exact fV I.sr D g4 e
 case extract x i=>
  simp only[PX,DJ]at e;obtain⟨p,G,e⟩:=e;obtain⟨y,E,D⟩:=A G;refine nil ?_;rw[E];exact X5 I.sr D e
 case range t x=>
  simp only[Ws,DJ]at e;obtain⟨p,G,e⟩:=e;obtain⟨y,E,D⟩:=A G;refine nil ?_;rw[E];exact lK I.sr D e
 case next x i=>
  simp only[aL,DJ]at e;obtain⟨p,G,e⟩:=e;obtain⟨y,E,D⟩:=A G;obtain⟨rfl,id,off,rfl,S⟩:=qE I.sr D e;refine⟨[id],by rw[E];exact S,fun sp J g=>?_⟩;simp only[Gj]at g;cases g
 case call c=>
  simp only[Qq]at e;split at e
  case h_1=>simp at e
  rename_i args M;obtain⟨args',E,D⟩:=EB (C:=C) I.fp M;split at e
  case h_2=>simp at e
  case h_1=>
   rename_i b V;split at e
   case h_1=>
    obtain⟨id,qs,rfl,S⟩:=ZQ I.sr D e;refine⟨[id],by rw[V,E];exact S,fun sp J g=>?_⟩;simp only[Gj,V,M,zj]at g;subst g;intro i O;exact O
   case h_2=>
   have:=XV I.sr D e;refine⟨_,by rw[V,E];exact this,fun sp J g=>?_⟩;simp only[Gj,V,M]at g;cases b<;>simp only at g ⊢<;>try (first|(intro i O;cases O;done)|(cases g;done))
   case append=>
    cases args with
    |nil=>simp[EU]
    |cons p ps=>cases p<;>simp only[zj]at g<;>subst g<;>(intro i O;exact O)
   case unsafeString=>
    cases args with
    |nil=>simp[rC]
    |cons p ps=>cases p<;>first|(cases g;done)|(cases g;intro i O;exact O)
end
section
variable {B:Nat}{h0:H0}{F:Fz}{ρ:DM}{N:Nat}{X:AW}{st st':AG}{fr:Fr}{h h':H}{Q:PV->Ob->Prop}{n:Nat}
@[simp] theorem CR(st:AG)(t:Nat)(p:PV)(s:Nat):(st.set t p).get s=if s=t then p else st.get s:=by
 unfold AG.get AG.set;simp only[PM.CR];split<;>rfl
theorem Rel.set(a:Rel B h0 F ρ st fr h){t:Nat}{p:PV}{x:V}(b:PR F ρ st.nx p x):Rel B h0 F ρ (st.set t p) ⟨fr.n,fr.m.set t<|some x⟩ h:=by
 refine⟨⟨a.fp.n,fun s=>?_⟩,a.sr⟩;rw[CR];unfold Fr.get;simp only[PM.CR];split
 ·exact b
 ·exact a.fp.slot s
theorem Rel.note(a:Rel B h0 F ρ st fr h){t:Nat}{p:PV}(b:PR F ρ st.nx p (fr.get t)):Rel B h0 F ρ (st.set t p) fr h:=by
 refine⟨⟨a.fp.n,fun s=>?_⟩,a.sr⟩;rw[CR];split
 ·rename_i e;subst e;exact b
 ·exact a.fp.slot s
theorem Rel.put(b:Rel B h0 F ρ st fr h){d:Option Nat}{p:PV}{x:V}(e:PR F ρ st.nx p x)(a:st.put d p=some st'):∃fr',fr.put d x=some fr'/\Rel B h0 F ρ st' fr' h/\st'.nx=st.nx/\st'.ob=st.ob:=by
 unfold AG.put at a;unfold Fr.put;cases d with
 |none=>cases a;exact⟨fr,rfl,b,rfl,rfl⟩
 |some t=>
  simp only at a ⊢;have f:st.n=fr.n:=b.fp.n;rw[f]at a;cases c:zr t fr.n with
  |false=>rw[c]at a;cases a
  |true=>
   rw[c]at a;simp only[we,zj]at a;subst a;exact⟨_,rfl,b.set e,rfl,rfl⟩
structure C4(B:Nat)(h0:H0)(F:Fz)(ρ:DM)(N:Nat)(h:H)(st':AG)(fr':Fr)(h':H)(F':Fz)(ρ':DM):Prop where
 rel:Rel B h0 F' ρ' st' fr' h'
 le:Le F ρ N F' ρ' st'.nx
 nx:h.nx<=h'.nx
theorem C4.refl(a:Rel B h0 F ρ st fr h):C4 B h0 F ρ st.nx h st fr h F ρ:=⟨a,zS,ze _⟩
theorem C4.trans{F' g:Fz}{ρ' c:DM}{e:AG}{fr' d:Fr}{f:H}(a:C4 B h0 F ρ N h st' fr' h' F' ρ')(b:C4 B h0 F' ρ' st'.nx h' e d f g c):C4 B h0 F ρ N h e d f g c:=
 ⟨b.rel,a.le.trans b.le,yb a.nx b.nx⟩
def sJ(X:AW)(ρ:DM)(h:H)(args':List V):pZ->Cl->Prop
 | .fn g,c=>c=.fn g args'/\X.C.prim g=none/\∃i,X.C.fn g=some i
 | .rnd id,c=>∃b n ls,ρ id=some (b,n)/\h.get b=some (.loop ls)/\args'.length=ls.ps.size/\c=.rnd b ls (FG ls.ps.toList args' ls.fr)
inductive LX (X:AW) (ρ:DM) (h:H) (args':List V):pZ->List (V×H)->Prop where
 |Be {g:pZ} {c:Cl} {l:List (V×H)} {M:Nat}:sJ X ρ h args' g c->(∀m,M<=m->Det.Be X.C m c h=some l)->LX X ρ h args' g l
 |prim {g:FuncId} {q:List V->H->Option (V×H)} {x:V×H}:X.C.prim g=some q->q args' h=some x->LX X ρ h args' (.fn g) [x]
def EN(B:Nat)(h0:H0)(X:AW)(nd:Bool)(call:Fa):Prop:=
 ∀ {Q:PV->Ob->Prop} {n:Nat} {g:pZ} {args:List PV} {st:AG} {k:PV->AG->Tr},Ev X Q n (call g args st k)->∀ {F:Fz} {ρ:DM} {fr:Fr} {h:H} {args':List V},Rel B h0 F ρ st fr h->A9 F ρ st.nx args args'->
  ∃l,LX X ρ h args' g l/\(nd=false->∃x,l=[x])/\
   ∀x∈l,∃n',n'<=n/\∃r st',Ev X Q n' (k r st')/\∃F' ρ',PR F' ρ' st'.nx r x.1/\C4 B h0 F ρ st.nx h st' fr x.2 F' ρ'/\(∀a,g=.fn a->∀sp,X.sp a=some sp->∀b,b<h.nx->x.2.get b=h.get b)
theorem Ev.Eo{c:Bool}{a b:Tr}(f:Ev X Q n (.ite c a b)):(c=true/\Ev X Q n a)\/(c=false/\Ev X Q n b):=by
 cases f with
 |ite d e=>
  cases c with
  |true=>exact .inl ⟨rfl,d rfl⟩
  |false=>exact .inr ⟨rfl,e rfl⟩
theorem Ev.SW{a b:Tr}(e:Ev X Q n (.both a b)):Ev X Q n a/\Ev X Q n b:=by
 cases e with
 |both c d=>exact⟨c,d⟩
theorem Ev.AB:¬Ev X Q n .fail:=fun h=>by cases h
theorem Ev.V8{v:PV}{ob:Ob}(a:Ev X Q n (.leaf v ob)):Q v ob:=by
 cases a with
 |leaf h=>exact h
theorem LV(p:Rel B h0 F ρ st fr h){ops:Array Oper}{o:Oper}{yes no:AG->Tr}(a:Ev X Q n (guarded ops o st yes no)):
  ∃g,Rel B h0 F ρ g fr h/\g.nx=st.nx/\g.ob=st.ob/\((A1 fr ops o=true/\Ev X Q n (yes g))\/(A1 fr ops o=false/\Ev X Q n (no g))):=by
 unfold guarded at a;unfold A1;cases u:o.guard with
 |none=>rw[u]at a;exact⟨st,p,rfl,rfl,.inl ⟨rfl,a⟩⟩
 |some w=>
  obtain⟨j,f⟩:=w;rw[u]at a;simp only at a ⊢;cases v:(ops[j]?).bind (·.dst)with
  |none=>rw[v]at a;exact wh a Ev.AB
  |some t=>
   rw[v]at a;simp only at a ⊢;rw[show st.n=fr.n from p.fp.n]at a;cases s:zr t fr.n with
   |false=>rw[s]at a;exact wh a Ev.AB
   |true=>
    rw[s]at a;simp only[we]at a ⊢;have i:=p.fp.slot t;split at a
    case h_1=>
     rename_i b e;rw[e]at i;rw[Nh i];refine⟨st,p,rfl,rfl,?_⟩;cases k:(b==f)with
     |true=>rw[k]at a;exact .inl ⟨k,a⟩
     |false=>rw[k]at a;exact .inr ⟨k,a⟩
    case h_2=>
     rename_i b e;rw[e]at i;have m:=GY i;have note:∀c:Bool,b=c->Rel B h0 F ρ (st.set t<|.bl c) fr h:=by
      rintro c rfl;exact p.note (by rw[m];exact Ib _)
     rw[m];cases f with
     |true=>
      simp only[we]at a;rcases a.Eo with⟨d,a⟩|⟨d,a⟩
      ·exact⟨_,note true d,rfl,rfl,.inl ⟨by rw[show b=true from d];rfl,a⟩⟩
      ·exact⟨_,note false d,rfl,rfl,.inr ⟨by rw[show b=false from d];rfl,a⟩⟩
     |false=>
      simp only[wg]at a;rcases a.Eo with⟨d,a⟩|⟨d,a⟩
      ·exact⟨_,note true d,rfl,rfl,.inr ⟨by rw[show b=true from d];rfl,a⟩⟩
      ·exact⟨_,note false d,rfl,rfl,.inl ⟨by rw[show b=false from d];rfl,a⟩⟩
    case h_5=>exact wh a Ev.AB
    case h_4=>
     rename_i e;rw[e]at i;simp only[PR]at i;obtain⟨b,m⟩:=i;have note:∀c:Bool,b=c->Rel B h0 F ρ (st.set t<|.bl c) fr h:=by
      rintro c rfl;exact p.note (by rw[m];exact Ib _)
     obtain⟨q,r⟩:=a.SW;rw[m];cases b with
     |true=>
      cases f with
      |true=>exact⟨_,note true rfl,rfl,rfl,.inl ⟨rfl,q⟩⟩
      |false=>exact⟨_,note true rfl,rfl,rfl,.inr ⟨rfl,q⟩⟩
     |false=>
      cases f with
      |true=>exact⟨_,note false rfl,rfl,rfl,.inr ⟨rfl,r⟩⟩
      |false=>exact⟨_,note false rfl,rfl,rfl,.inl ⟨rfl,r⟩⟩
    case h_3=>
     rename_i l e;rw[e]at i;simp only[PR]at i;obtain⟨cs,m,_⟩:=i;rw[m];exact⟨st,p,rfl,rfl,.inr ⟨rfl,a⟩⟩
theorem Ir{d:Option Nat}{k:AG->Tr}:∀ {l:PO},Ev X Q n (OP d k l)->∃u s g,l.To u s/\s.put d u=some g/\Ev X Q n (k g)
 | .bad,e=>wh e Ev.AB
 | .val u s,e=>by
  simp only[OP]at e;split at e
  ·rename_i s1 m;exact⟨u,s,s1,.val,m,e⟩
  ·exact wh e Ev.AB
 | .ite c a b,e=>by
  simp only[OP]at e;rcases e.Eo with⟨rfl,f⟩|⟨rfl,f⟩
  ·obtain⟨u,s,s1,i,j⟩:=Ir f;exact⟨u,s,s1,.tt i,j⟩
  ·obtain⟨u,s,s1,i,j⟩:=Ir f;exact⟨u,s,s1,.ff i,j⟩
inductive iX (X:AW) (fr:Fr) (h:H) (o:Oper):List (V×H)->Prop where
 |val {x:V} {h':H}:FH X.C fr h o=some (.val x h')->iX X fr h o [(x,h')]
 |skip {h':H}:FH X.C fr h o=some (.skip h')->iX X fr h o [(.tup [],h')]
 |alts {l:List (V×H)}:FH X.C fr h o=some (.alts l)->iX X fr h o l
 |call {g:FuncId} {args:List V} {l:List (V×H)} {M:Nat}:FH X.C fr h o=some (.enter g args)->(∀m,M<=m->Be X.C m (.fn g args) h=some l)->iX X fr h o l
 |round {b:Nat} {ls:LS} {f:Fr} {l:List (V×H)} {M:Nat}:FH X.C fr h o=some (.round b ls f)->(∀m,M<=m->Be X.C m (.rnd b ls f) h=some l)->iX X fr h o l
theorem GO{nd:Bool}{call:Fa}(I:EN B h0 X nd call)(J:Rel B h0 F ρ st fr h){o:Oper}{k:AG->Tr}(R:Ev X Q n (Hd X.C.T call o st k)):
  ∃l,iX X fr h o l/\((nd=false->(∃x,l=[x])/\∀l',FH X.C fr h o≠some (.alts l'))/\((∀id a,Jz st o.op≠ .yes (.rnd id) a)->∀b ls f,FH X.C fr h o≠some (.round b ls f)))/\∀x∈l,∃n',n'<=n/\∃v,Ev X Q n' (k v)/\∃F' ρ' fr',fr.put o.dst x.1=some fr'/\C4 B h0 F ρ st.nx h v fr' x.2 F' ρ'/\
   ∀E,Gj X.sp st o.op=some E->∀b,b<h.nx->x.2.get b=h.get b\/∃id∈E,∃m,ρ id=some (b,m):=by
 unfold Hd at R;split at R
 case h_2=>exact wh R Ev.AB
 case h_1=>
  rename_i g args G;unfold Jz at G;split at G
  case h_2=>cases G
  rename_i c z;split at G
  case h_2=>cases G
  rename_i f p;split at G
  case h_3=>cases G
  case h_2=>
   rename_i id ps S K;cases G;obtain⟨fv,f1,Y⟩:=B2 (C:=X.C) J.fp S;obtain⟨av,a1,a2⟩:=EB (C:=X.C) J.fp K;simp only[PR]at Y;obtain⟨l,hcd,hnd,hall⟩:=I R J a2;obtain⟨hcd1,hM⟩:=hcd;obtain⟨b,m,ls,c1,c2,c3,rfl⟩:=hcd1;obtain rfl:=Y.2 b m c1;have d:FH X.C fr h o=some (.round b ls<|FG ls.ps.toList av ls.fr):=by
    rw[CG];unfold FY;have U:zf av.length ls.ps.size=true:=by rw[c3];exact zL _
    simp only[z,p,a1,f1,Kz,c2,U,we]
   refine⟨l,.round d hM,⟨fun e=>⟨hnd e,fun l'=>by rw[d];intro h;cases h⟩,fun hno=>?_⟩,fun x O=>?_⟩
   ·exact wh (by unfold Jz;simp only[z,p,S,K])<|hno id args
   obtain⟨n',hn,r,st',y,F',ρ',hp,P,V⟩:=hall x O;split at y
   case h_2=>exact wh y Ev.AB
   rename_i v D;obtain⟨fr',w,W,Z,g4⟩:=P.rel.put hp D;refine⟨n',hn,v,y,F',ρ',fr',w,⟨W,by rw[Z];exact P.le,P.nx⟩,fun E j b U=>?_⟩;simp only[z,Gj,p,S]at j;cases j
  rename_i g' first cap ps S K
  cases G;obtain⟨fv,f1,Y⟩:=B2 (C:=X.C) J.fp S;obtain⟨av,a1,a2⟩:=EB (C:=X.C) J.fp K;simp only[PR]at Y;obtain⟨fa,fb,rfl,f3,f4⟩:=Y;have L:A9 F ρ st.nx (first++ps++cap) (fa++av++fb):=(f3.append a2).append f4;obtain⟨l,hcd,hnd,hall⟩:=I R J L;have A:iX X fr h o l/\(∀l',FH X.C fr h o≠some (.alts l'))/\∀b ls f,FH X.C fr h o≠some (.round b ls f):=by
   cases hcd with
   |Be G hM=>
    obtain⟨rfl,M,i,hfn⟩:=G;have d:FH X.C fr h o=some (.enter g'<|fa++av++fb):=by
     rw[CG];unfold FY;simp only[z,p,a1,f1,Kz,M,hfn]
    exact⟨.call d hM,fun l'=>(by rw[d];intro h;cases h),fun b ls f=>(by rw[d];intro h;cases h)⟩
   |prim hq O=>
    rename_i q x;have d:FH X.C fr h o=some (.val x.1 x.2):=by
     rw[CG];unfold FY;simp only[z,p,a1,f1,Kz,hq,O,EK]
    exact⟨.val d,fun l'=>(by rw[d];intro h;cases h),fun b ls f=>(by rw[d];intro h;cases h)⟩
  refine⟨l,A.1,⟨fun e=>⟨hnd e,A.2.1⟩,fun _=>A.2.2⟩,fun x O=>?_⟩;obtain⟨n',hn,r,st',y,F',ρ',hp,P,V⟩:=hall x O;split at y
  case h_2=>exact wh y Ev.AB
  rename_i v D;obtain⟨fr',w,W,Z,g4⟩:=P.rel.put hp D;refine⟨n',hn,v,y,F',ρ',fr',w,⟨W,by rw[Z];exact P.le,P.nx⟩,fun E j b U=>?_⟩;simp only[z,Gj,p,S]at j;cases hs:X.sp g' with
  |none=>rw[hs]at j;cases j
  |some sp=>exact .inl<|V g' rfl sp hs b U
 case h_3=>
  obtain⟨u,s,v,h1,h2,h3⟩:=Ir R;obtain⟨tch,⟨v',h',F',ρ',w,W,Z,g4,g5,g6,g7,g8⟩,htch⟩:=kK (C:=X.C) J h1;have hrs:Rel B h0 F' ρ' s fr h':=⟨⟨by rw[g6];exact J.fp.n,fun t=>by
   have:s.get t=st.get t:=by unfold AG.get;rw[g5]
   rw[this];exact(J.fp.slot t).mono g4⟩,Z⟩
  obtain⟨fr',k1,k2,k3,k4⟩:=hrs.put W h2;refine⟨[(v',h')],?_,⟨fun _=>⟨⟨_,rfl⟩,fun l'=>by rcases w with w|⟨w,_⟩<;>rw[w]<;>intro h<;>cases h⟩,fun _ b ls f=>by rcases w with w|⟨w,_⟩<;>rw[w]<;>intro h<;>cases h⟩,fun x O=>?_⟩
  ·rcases w with w|⟨w,rfl⟩
   ·exact .val w
   ·exact .skip w
  ·cases zk.1 O;refine⟨n,ze _,v,h3,F',ρ',fr',k1,⟨k2,by rw[k3];exact g4,g7⟩,fun E j b U=>?_⟩;rcases g8 b U with e|⟨id,hi,m,e⟩
   ·exact .inl e
   ·exact .inr ⟨id,htch _ _ j id hi,m,e⟩
theorem rG{α a:Type}{f:α->Option (List a)}{x:α}:bl [x] f=f x:=by
 unfold bl;cases f x<;>rfl
theorem JS{α o:Type}{f:Nat->Nat->α->Option (List o)}{P:o->Prop}{nd:Bool}{l:List α}(c:nd=false->∃x,l=[x])(h:∀a∈l,∃r M,(∀m,M<=m->∀q,M<=q->f m q a=some r)/\(nd=false->∃x,r=[x])/\∀y∈r,P y):
  ∃r M,(∀m,M<=m->∀q,M<=q->bl l (f m q)=some r)/\(nd=false->∃x,r=[x])/\∀y∈r,P y:=by
 cases nd with
 |false=>
  obtain⟨x,rfl⟩:=c rfl;obtain⟨r,M,g,i,h3⟩:=h x<|zk.2 rfl;exact⟨r,M,fun m j q k=>by rw[rG];exact g m j q k,i,h3⟩
 |true=>
  clear c;suffices hs:∃r M,(∀m,M<=m->∀q,M<=q->bl l (f m q)=some r)/\∀y∈r,P y by
   obtain⟨r,M,g,i⟩:=hs;exact⟨r,M,g,fun e=>(by cases e),i⟩
  induction l with
  |nil=>exact⟨[],0,fun _ _ _ _=>rfl,fun y d=>by cases d⟩
  |cons a l s=>
   obtain⟨r,M,g,_,i⟩:=h a List.mem_cons_self;obtain⟨r2,M2,h3,h4⟩:=s<|fun x p=>h x<|List.mem_cons_of_mem _ p;cases l with
   |nil=>exact⟨r,M,fun m j q k=>(by simp only[bl,g m j q k]),i⟩
   |cons b l=>
    refine⟨r++r2,max M M2,fun m j q k=>?_,fun y d=>?_⟩
    ·unfold bl;rw[g m (by omega) q<|by omega];simp only;rw[h3 m (by omega) q<|by omega]
    ·rcases List.mem_append.1 d with d|d
     ·exact i y d
     ·exact h4 y d
theorem N3{d:Option Nat}{P:Fr×H->Prop}:∀ {l:List (V×H)},(∀x∈l,∃fr',fr.put d x.1=some fr'/\P (fr',x.2))->∃r,GQ fr d l=some r/\(∀y∈r,P y)/\((∃x,l=[x])->∃y,r=[y])
 |[],_=>⟨[],rfl,fun y a=>(by cases a),fun⟨x,h⟩=>by cases h⟩
 |x::l,h=>by
  obtain⟨fr',b,c⟩:=h x List.mem_cons_self;obtain⟨r,h3,h4,_⟩:=N3 (l:=l)<|fun y a=>h y<|List.mem_cons_of_mem _ a;refine⟨(fr',x.2)::r,?_,fun y a=>?_,fun⟨z,e⟩=>?_⟩
  ·obtain⟨v,f⟩:=x;unfold GQ;rw[b];simp only;rw[h3]
  ·rcases List.mem_cons.1 a with rfl|a
   ·exact c
   ·exact h4 y a
  ·cases e;cases h3;exact⟨_,rfl⟩
theorem iX.wS{l:List (V×H)}{o:Oper}{ops:Array Oper}(a:iX X fr h o l)(c:A1 fr ops o=true){P:Fr×H->Prop}(j:∀x∈l,∃fr',fr.put o.dst x.1=some fr'/\P (fr',x.2)):
  ∃r M,(∀m,M<=m->step1 X.C (Be X.C m) ops o fr h=some r)/\((∃x,l=[x])->∃y,r=[y])/\∀y∈r,P y:=by
 obtain⟨r,q,i,s⟩:=N3 j;cases a with
 |@val x h' a=>
  obtain⟨fr',k,t⟩:=j _<|zk.2 rfl;exact⟨[(fr',h')],0,fun m _=>(by simp only[step1,c,we,H5,a,k]),fun _=>⟨_,rfl⟩,fun y p=>by cases zk.1 p;exact t⟩
 |@skip h' a=>
  obtain⟨fr',k,t⟩:=j _<|zk.2 rfl;exact⟨[(fr',h')],0,fun m _=>(by simp only[step1,c,we,H5,a,k]),fun _=>⟨_,rfl⟩,fun y p=>by cases zk.1 p;exact t⟩
 |alts a=>exact⟨r,0,fun m _=>by simp only[step1,c,we,H5,a,q],s,i⟩
 |@call g args l M a d=>exact⟨r,M,fun m e=>by simp only[step1,c,we,H5,a,d m e,q],s,i⟩
 |@round b ls f l M a d=>exact⟨r,M,fun m e=>by simp only[step1,c,we,H5,a,d m e,q],s,i⟩
theorem XH{T:BR}{h:H}{s d:TypeId}{b off:Nat}:Fc T h s d (.ptr b off)=none:=by
 unfold Fc;split<;>first|rfl|(rename_i e;cases e)
theorem bX(l:Rel B h0 F ρ st fr h){o:Oper}{v:PV}(a:oP X.C.T st o.op=some v):OK B h0 F ρ st h [] (H5 X.C fr h o) v st:=by
 have fin:∀ {s d:TypeId} {x:Operand} {b off:Nat} {u:V},o.op=.convert s d x->ev X.C fr x=some (.ptr b off)->D7 X.C.T h s d (.ptr b off)=some u->PR F ρ st.nx v u->OK B h0 F ρ st h [] (H5 X.C fr h o) v st:=by
  intro s d x b off u c j g D;have k:FH X.C fr h o=none:=by
   rw[CG];unfold FY;rw[c];simp only[j,XH];rfl
  refine zg l.sr (v':=u) ?_ D;unfold H5;rw[k,c];simp only[j,g]
 unfold oP at a;split at a
 case h_2=>cases a
 rename_i s d x c;split at a
 case h_3=>cases a
 case h_1=>
  rename_i t id off w r p;split at a
  case h_2=>cases a
  rename_i i tb cs q A;cases f:(zr 0 i.size&&zr off (Det.EC cs))with
  |false=>rw[f]at a;cases a
  |true=>
   rw[f]at a;cases a;obtain⟨y,j,g⟩:=B2 (C:=X.C) l.fp p;obtain⟨b,n,z,k1,k2,⟨bs,fz,rfl,k4,_⟩,_⟩:=l.sr.at A;have m:=g;simp only[PR]at m;obtain rfl:=m.2 b n k1;refine fin c j ?_ g;unfold D7;rw[w,r];simp only[q,k2];rw[CQ,k4.len]at f;rw[f];rfl
 case h_2=>
  rename_i u id off w r p;split at a
  case h_2=>cases a
  rename_i i e cs q A;cases f:(zr 0 i.size&&zl i.size (Det.EC cs)&&zf e u&&zf off 0)with
  |false=>rw[f]at a;cases a
  |true=>
   rw[f]at a;cases a;obtain⟨y,j,g⟩:=B2 (C:=X.C) l.fp p;obtain⟨b,n,z,k1,k2,⟨bs,fz,rfl,k4,_⟩,_⟩:=l.sr.at A;have m:=g;simp only[PR]at m;obtain rfl:=m.2 b n k1;have h0:off=0:=by
    simp only[zc]at f;exact zd f.2
   subst h0;refine fin c j (u:=.ptr b 0) ?_ g;unfold D7;rw[w,r];simp only[q,k2];rw[CQ,k4.len]at f;rw[f];rfl
theorem Ts(u:Rel B h0 F ρ st fr h){o:Oper}{v:PV}{g:AG}(a:RG X.C.T st o.op=some (v,g)):OK B h0 F ρ st h [] (H5 X.C fr h o) v g:=by
 unfold RG at a;split at a
 case h_2=>cases a
 rename_i s d x f;split at a
 case h_2=>cases a
 rename_i e l q k i;split at a
 case h_2=>cases a
 rename_i z;cases a;obtain⟨y,t,A⟩:=B2 (C:=X.C) u.fp i;obtain rfl:=Fe A;have c:FH X.C fr h o=none:=by
  rw[CG];unfold FY;rw[f];simp only[t,Fc,q,k];rfl
 have i:H5 X.C fr h o=EK (some (.sl h.nx 0 l.length l.length 1,h.push<|.cells (l.map fun b=>.int .u8<|.ofNat b.toNat) e (0,0))):=by
  have p:D7 X.C.T h s d (.str l)=none:=by unfold D7;rw[q,k]
  unfold H5;rw[c,f];simp only[t,p,Q8,q,k,z]
 rw[i];refine OK.new u.sr (o:=.arr false e (.int .u8)<|l.map fun b=>(b.toNat:Int)) (n:=l.length) rfl ⟨l.map fun b=>yi .u8<|.ofNat b.toNat,(0,0),rfl,⟨by simp[Sh.sz],fun j w=>?_⟩,ze _,by simp⟩ ?_
 ·have r:j<l.length:=by simpa using w
  have D:((l.map fun b=>yi .u8<|.ofNat b.toNat).drop<|j*1).take 1=[yi .u8<|.ofNat (l[j]).toNat]:=by
   rw[zY,zw<|by simpa using r];simp
  show DC _ (.int .u8) _<|((l.map fun b=>yi .u8<|.ofNat b.toNat).drop<|j*1).take 1;rw[D];simp[DC]
 ·unfold PR;refine⟨zz _,fun b m a=>.inl ⟨ze _,?_,1,.inr rfl,?_⟩⟩
  ·simp[BB]at a;show 0+l.length<=m;omega
  ·simp[BB]at a;rw[<-a.1];simp
theorem UN(d:Rel B h0 F ρ st fr h){o:Oper}{v:PV}{b:AG}(a:Va X.C.T st o.op=some (v,b)):OK B h0 F ρ st h [] (H5 X.C fr h o) v b:=by
 unfold Va at a;split at a
 case h_1=>rename_i r c;cases a;exact Ts d c
 case h_2=>
  split at a
  case h_2=>cases a
  rename_i u e;cases a;exact bX d e
theorem R4{nd:Bool}{call:Fa}(j:EN B h0 X nd call){ops:Array Oper}:∀ {l:List Oper} {n:Nat} {st:AG} {F:Fz} {ρ:DM} {fr:Fr} {h:H} {k:AG->Tr},Rel B h0 F ρ st fr h->Ev X Q n (prun X.C.T call ops l st k)->
  ∃r M,(∀m,M<=m->Rn X.C (Be X.C m) ops l fr h=some r)/\(nd=false->∃x,r=[x])/\∀x∈r,∃n',n'<=n/\∃c,Ev X Q n' (k c)/\∃F' ρ',C4 B h0 F ρ st.nx h c x.1 x.2 F' ρ'
 |[],n,st,F,ρ,fr,h,k,hr,g=>⟨[(fr,h)],0,fun _ _=>rfl,fun _=>⟨_,rfl⟩,fun x hx=>by cases zk.1 hx;exact⟨n,ze _,st,g,F,ρ,C4.refl hr⟩⟩
 |o::i,n,st,F,ρ,fr,h,k,hr,g=>by
  unfold prun at g;obtain⟨c,p,e1,e2,D⟩:=LV hr g;have fin:∀ {l:List (Fr×H)},(∃M,∀m,M<=m->step1 X.C (Be X.C m) ops o fr h=some l)->(nd=false->∃x,l=[x])->
    (∀y∈l,∃n',n'<=n/\∃a,Ev X Q n' (prun X.C.T call ops i a k)/\∃F' ρ',C4 B h0 F ρ st.nx h a y.1 y.2 F' ρ')->
    ∃r M,(∀m,M<=m->Rn X.C (Be X.C m) ops (o::i) fr h=some r)/\(nd=false->∃x,r=[x])/\∀x∈r,∃n',n'<=n/\∃c,Ev X Q n' (k c)/\∃F' ρ',C4 B h0 F ρ st.nx h c x.1 x.2 F' ρ':=by
   rintro l ⟨M1,Y⟩ J hl;obtain⟨r,M,G,I,S⟩:=JS (f:=fun m _ (x:Fr×H)=>Rn X.C (Be X.C m) ops i x.1 x.2) (P:=fun x=>∃n',n'<=n/\∃c,Ev X Q n' (k c)/\∃F' ρ',C4 B h0 F ρ st.nx h c x.1 x.2 F' ρ') J fun y R=>by
    obtain⟨n1,q,a,w,F1,U,b⟩:=hl y R;obtain⟨r,M,G,S,I⟩:=R4 j b.rel w;refine⟨r,M,fun m hm _ _=>G m hm,S,fun z hz=>?_⟩;obtain⟨n2,hn2,st3,he3,F2,ρ2,hwent2⟩:=I z hz;exact⟨n2,yb hn2 q,st3,he3,F2,ρ2,b.trans hwent2⟩
   refine⟨r,max M M1,fun m hm=>?_,I,S⟩;simp only[Rn,Y m<|by omega];exact G m (by omega) m (by omega)
  rcases D with⟨V,g⟩|⟨V,g⟩
  ·unfold nB at g;split at g
   case h_1=>
    rename_i v A hb;split at g
    case h_2=>exact wh g Ev.AB
    rename_i a d;obtain⟨v',h',F',ρ',E,W,g3,Z,g5,g6,g7,g8⟩:=UN p hb;have hrs:Rel B h0 F' ρ' A fr h':=⟨⟨by rw[g6];exact p.fp.n,fun t=>by
     have:A.get t=c.get t:=by unfold AG.get;rw[g5]
     rw[this];exact(p.fp.slot t).mono Z⟩,g3⟩
    have hpr:∃u,PR F' ρ' A.nx v u/\∀fr',fr.put o.dst u=some fr'->∀m,step1 X.C (Be X.C m) ops o fr h=some [(fr',h')]:=by
     rcases E with E|⟨E,rfl⟩
     ·exact⟨v',W,fun fr' L m=>by simp only[step1,V,we,E,L]⟩
     ·exact⟨.tup [],W,fun fr' L m=>by simp only[step1,V,we,E,L]⟩
    obtain⟨u,hu,Dh⟩:=hpr;obtain⟨fr',L,k2,k3,k4⟩:=hrs.put hu d;refine fin (l:=[(fr',h')]) ⟨0,fun m _=>Dh fr' L m⟩ (fun _=>⟨_,rfl⟩) fun y R=>?_
    cases zk.1 R;exact⟨n,ze _,a,g,F',ρ',k2,by rw[k3, <-e1];exact Z,g7⟩
   obtain⟨l,K,hnd,O⟩:=GO j p g;obtain⟨r,M,G,S,I⟩:=K.wS (ops:=ops) (P:=fun y=>∃n',n'<=n/\∃a,Ev X Q n' (prun X.C.T call ops i a k)/\∃F' ρ',C4 B h0 F ρ st.nx h a y.1 y.2 F' ρ') V fun x hx=>by
    obtain⟨n1,q,a,w,F1,U,s,d,b,_⟩:=O x hx;rw[e1]at b;exact⟨s,d,n1,q,a,w,F1,U,b⟩
   exact fin ⟨M,G⟩ (fun e=>S (hnd.1 e).1) I
  ·unfold Lq at g;split at g
   case h_2=>exact wh g Ev.AB
   rename_i a d;obtain⟨s,E,W,g3,Z⟩:=p.put (x:=.tup []) (by simp[PR]) d;refine fin (l:=[(s,h)]) ⟨0,fun m _=>by simp only[step1,V,wg,E]⟩ (fun _=>⟨_,rfl⟩) fun y R=>?_
   cases zk.1 R;exact⟨n,ze _,a,g,F,ρ,W,by rw[g3,e1];exact zS,ze _⟩
end
end Go.Pe
