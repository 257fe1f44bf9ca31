import Derived.Test.YtlohiljbghionaaGreatDoorX07
/- A part of a proof (no law is stated here). Made by program out of texts by AI agents. -/
noncomputable section
open Bool renaming and_eq_true -> zc, and_self -> yq, or_true -> yz
open Nat renaming eq_of_beq_eq_true -> zd, le_refl -> ze, beq -> zf, mul_le_mul_right -> zh, ble_eq_true_of_le -> zi, ble -> zl, add_mul -> zp, blt -> zr, succ_mul -> zt, zero_mul -> zu, lt_succ_self -> zz, beq_refl -> z7, min_eq_left -> ye, sub_self -> yk, mul_one -> ym, le_trans -> yt, add_assoc -> yx, add_comm -> yy
open Go.Pe.OK renaming pure -> zg
open Option.some renaming injEq -> zj
open List renaming mem_singleton -> zk, replicate -> zn, length_eq_zero_iff -> zo, drop_eq_getElem_cons -> zw, replicate_succ -> zx, all_eq_true -> z6, length_replicate -> ya, getElem?_append_right -> yb, getElem?_append_left -> yc, length_nil -> yd, drop_zero -> yg, getElem?_range -> yj, flatten_cons -> yn, ext_getElem? -> yo, getElem?_map -> yp, getElem_cons_zero -> yu, take_of_length_le -> yv, length_map -> yw
open Option renaming map_eq_some_iff -> zm, map_some -> zq, getD_some -> yh
open Int renaming ofNat -> zy, eq_ofNat_of_zero_le -> yr
open Prod.mk renaming injEq -> z8
open Go.Pe.Le renaming refl -> yf
open List.cons renaming injEq -> yi
open Go.Det.V renaming int -> y7
open Go.Pe renaming Cm -> y8
namespace Go.Pe
open Go.Det
section
variable {B:Nat}{h0:H0}{F:Fz}{ρ:Ex}{N:Nat}{C:Ctx}{st st':AM}{fr:Fr}{h:H}
theorem SR.live(hr:SR B h0 F ρ st.nx st.ob h){id:Nat}(a:IC (st.obj id)=true):∃b n,ρ id=some (b,n):=by
 obtain⟨o,c⟩:=Jp a;obtain⟨b,n,_,h1,_⟩:=hr.at c;exact⟨b,n,h1⟩
theorem DU{i:Int}(h:0<=i):∃n:Nat,i=zy n/\i.toNat=n:=⟨i.toNat,(Int.toNat_of_nonneg h).symm,rfl⟩
theorem DY{a b:Nat}(h:a<b):zr a b=true:=zi h
theorem kK(hr:SR B h0 F ρ st.nx st.ob h){t:TypeId}{p q:PV}{x y:V}(g:PR F ρ st.nx p x)(S:PR F ρ st.nx q y){v:PV}(a:(Tg C.T t p q st).To v st'):
  OK B h0 F ρ st h [] (BE h<|Dj C.T t x y) v st':=by
 unfold Tg at a;split at a
 case h_3=>simp at a
 case h_2=>
  rename_i A e k i I;obtain rfl:=CU S;split at a
  case h_2=>simp at a
  rename_i G r;split at a
  case h_4=>simp at a
  case h_1=>
   rename_i id off;simp only[PR]at g;split at a
   case h_3=>exact wh a (by simp)
   case h_1=>
    rename_i W te s l P;cases D:(zf off 0&&zf G.size s.sz)with
    |false=>rw[D]at a;simp at a
    |true=>
     rw[D]at a;rw[zc]at D;have K:=zd D.1;have L:=zd D.2;subst K;simp only[we,BT,zc,w5]at a;obtain⟨⟨f,c⟩,rfl,rfl⟩:=a;obtain⟨n,rfl,hn⟩:=DU f;have d:n<A:=by simp at c;exact c
     obtain⟨b,m,_,z,_⟩:=hr.at P;obtain rfl:=g.2 b m z;refine zg hr (v':=.ptr b<|0+n*G.size) ?_ ?_
     ·show BE h (Dj C.T t (.ptr b 0)<|.int k<|zy n)=_;simp only[Dj,I,r,DY d,we,BE]
     ·simp only[PR];refine⟨g.1,fun b' n' E=>?_⟩;rw[z]at E;cases E;rw[hn,L,Nat.zero_add];rfl
   case h_2=>
    rename_i o _ P;simp only[BT,zc,w5]at a;obtain⟨⟨f,c⟩,rfl,rfl⟩:=a;obtain⟨n,rfl,hn⟩:=DU f;have d:n<A:=by simp at c;exact c
    obtain⟨b,m,_,z,_⟩:=hr.at P;obtain rfl:=g.2 b m z;refine zg hr (v':=.ptr b<|off+n*G.size) ?_ ?_
    ·show BE h (Dj C.T t (.ptr b off)<|.int k<|zy n)=_;simp only[Dj,I,r,DY d,we,BE]
    ·simp only[PR];refine⟨g.1,fun b' n' E=>?_⟩;rw[z]at E;cases E;rw[hn];rfl
  case h_2=>
   rename_i id sz j off;cases J:IC (st.obj id)with
   |false=>rw[J]at a;simp at a
   |true=>
    rw[J]at a;simp only[we,BT,zc,w5]at a;obtain⟨⟨f,c⟩,rfl,rfl⟩:=a;obtain⟨n,rfl,hn⟩:=DU f;have d:n<A:=by simp at c;exact c
    obtain⟨b,m,z⟩:=hr.live J;simp only[PR]at g;obtain rfl:=g.2 b m z;refine zg hr (v':=.ptr b<|j*sz+off+n*G.size) ?_ ?_
    ·show BE h (Dj C.T t (.ptr b<|j*sz+off)<|.int k<|zy n)=_;simp only[Dj,I,r,DY d,we,BE]
    ·simp only[PR];refine⟨g.1,fun b' n' E=>?_⟩;rw[z]at E;cases E;rw[hn,yx];rfl
  case h_3=>
   rename_i s y off;simp only[BT,zc,w5]at a;obtain⟨⟨f,c⟩,rfl,rfl⟩:=a;obtain⟨n,rfl,hn⟩:=DU f;have d:n<A:=by simp at c;exact c
   simp only[PR]at g;obtain⟨b,o,cs,rfl,z,M,R⟩:=g;refine zg hr (v':=.ptr b<|o+off+n*G.size) ?_ ?_
   ·show BE h (Dj C.T t (.ptr b<|o+off)<|.int k<|zy n)=_;simp only[Dj,I,r,DY d,we,BE]
   ·simp only[PR];refine⟨b,o,cs,?_,z,M,R⟩;rw[hn,yx];rfl
 case h_1=>
 rename_i e k i I;obtain rfl:=CU S;split at a
 case h_2=>simp at a
 rename_i G r;split at a
 case h_3=>simp at a
 case h_1=>
  rename_i s l;cases w:zf G.size s.sz with
  |false=>rw[w]at a;simp at a
  |true=>
   rw[w]at a;have w:=zd w;simp only[we,BT,zc,w5]at a;obtain⟨⟨f,c⟩,rfl,rfl⟩:=a;obtain⟨n,rfl,hn⟩:=DU f;have d:n<l.length:=by simp at c;exact c
   simp only[PR,DC]at g;obtain⟨u,O,g⟩:=g;obtain rfl:x=u:=by simpa using O
   rcases g with⟨rfl,_⟩|⟨b,off,cap,o,U,rfl,z,M,R,_,Y⟩
   ·simp at d
   ·refine zg hr (v':=.ptr b<|off+n*G.size) ?_ ?_
    ·show BE h (Dj C.T t (.sl b off l.length cap o)<|.int k<|zy n)=_;simp only[Dj,I,r,DY d,we,BE]
    ·simp only[PR];refine⟨b,off+n*s.sz,U,by rw[w];rfl,M,?_,?_⟩
     ·have:(n+1)*s.sz<=l.length*s.sz:=zh _ d;rw[zt]at this;omega
     ·have:=Y n d;rw[hn,show l.getD n s.Hz=l[n]from by simp[d]];exact this
 case h_2=>
  rename_i id sz off len cap;cases w:(zf G.size sz&&IC (st.obj id))with
  |false=>rw[w]at a;simp at a
  |true=>
   rw[w]at a;simp only[zc]at w;obtain⟨w,J⟩:=w;have w:=zd w;simp only[we,BT,zc,w5]at a;obtain⟨⟨f,c⟩,rfl,rfl⟩:=a;obtain⟨n,rfl,hn⟩:=DU f;have d:n<len:=by simp at c;exact c
   obtain⟨b,m,z⟩:=hr.live J;simp only[PR]at g;rcases g.2 b m z with⟨_,_,o,_,rfl⟩|⟨Z,_⟩
   ·refine zg hr (v':=.ptr b<|off*sz+n*G.size) ?_ ?_
    ·show BE h (Dj C.T t (.sl b (off*sz) len _ o)<|.int k<|zy n)=_;simp only[Dj,I,r,DY d,we,BE]
    ·simp only[PR];refine⟨g.1,fun b' n' E=>?_⟩;rw[z]at E;cases E;rw[w,hn];show V.ptr b (off*sz+n*sz)=.ptr b ((n+off)*sz+0);rw[zp,yy<|n*sz];rfl
   ·omega
theorem rA(hr:SR B h0 F ρ st.nx st.ob h){t:TypeId}{p q:PV}{x y:V}(A:PR F ρ st.nx p x)(G:PR F ρ st.nx q y){v:PV}(c:(XZ C.T t p q st).To v st'):
  OK B h0 F ρ st h [] (BE h<|HW C.T t x y) v st':=by
 unfold XZ at c;split at c
 case h_3=>simp at c
 case h_2=>
  rename_i l e ps k i D;obtain rfl:=CU G;split at c
  case h_2=>simp at c
  rename_i d o E g;simp only[P9,zc,w5]at c;obtain⟨⟨f,a⟩,m,rfl⟩:=c;obtain⟨n,rfl,hn⟩:=DU f;have b:n<l:=by simp at a;exact a
  simp only[PR]at A;obtain⟨cs,rfl,r⟩:=A;rw[Na,hn]at m;have hp:=r.drop<|n*o.size;have j:HW C.T t (.agg cs) (.int k<|zy n)=Mi C.T e cs (n*o.size):=by simp only[HW,D,g,DY b,we]
  rcases Lj hp m with⟨z,_,_,w⟩|⟨z,u,K,J,w⟩
  ·exact zg hr (by rw[j];simp only[Mi,E,g,z,we,BE]) w
  ·have:cs[n*o.size]?=some u:=by
    have:=wi (·[0]?) J;simpa using this
   exact zg hr (by rw[j];simp only[Mi,E,g,z,wg,this,BE]) w
 case h_1=>
 rename_i s k i D;obtain rfl:=FI A;obtain rfl:=CU G;simp only[BT,zc,w5]at c;obtain⟨⟨f,a⟩,rfl,rfl⟩:=c;obtain⟨n,rfl,hn⟩:=DU f;have b:n<List.length s:=by simp at a;exact a
 have I:(s:Z)[n]?=some (s:Z)[n]:=List.getElem?_eq_getElem b;refine zg hr (v':=.int .u8 ((s:Z)[n].toNat:Int)) ?_ ?_
 ·show BE h (HW C.T t (.str s)<|.int k<|zy n)=_;simp only[HW,D,I,BE]
 ·rw[hn,show List.getD (s:Z) n 0=(s:Z)[n]from by simp[b]];exact Dz _ _
theorem eL(hr:SR B h0 F ρ st.nx st.ob h){p:PV}{x:V}(b:PR F ρ st.nx p x){i:Nat}{v:PV}(a:(QE p i st).To v st'):OK B h0 F ρ st h [] (BE h<|Ho x i) v st':=by
 unfold QE at a;split at a
 case h_2=>simp at a
 rename_i ps;split at a
 case h_2=>simp at a
 rename_i q c;simp only[AW]at a;obtain⟨rfl,rfl⟩:=a;simp only[PR]at b;obtain⟨cs,rfl,hps⟩:=b;obtain⟨u,h1,h2⟩:=hps.get c;exact zg hr (by simp only[Ho,h1,BE]) h2
def UD(F:Fz)(ρ:Ex)(N:Nat):Option PV->Option V->Prop
 |none,x=>x=none
 |some p,x=>∃v,x=some v/\PR F ρ N p v
theorem Ef{o:Option PV}{x:Option V}{d:Nat}{c:Bool}{n:Nat}(a:UD F ρ N o x)(hp:pb o d=some (c,n))(b:c=true){y:Nat}(e:n<=y):CL x y d=some n:=by
 unfold pb at hp;split at hp
 ·cases hp;simp only[UD]at a;subst a;rfl
 ·cases hp;simp only[UD]at a;obtain⟨v,rfl,f⟩:=a;obtain rfl:=CU f;simp only[w5]at b;obtain⟨m,rfl,hm⟩:=DU b;rw[hm]at e;show(bif zl m y then some m else none)=_;rw[zi e,hm];rfl
 ·cases hp
theorem UD.isNone{o:Option PV}{x:Option V}(a:UD F ρ N o x):(o=none↔x=none):=by
 cases o with
 |none=>simp only[UD]at a;simp[a]
 |some p=>simp only[UD]at a;obtain⟨v,rfl,_⟩:=a;simp
theorem MK{T:Cc}{t e:TypeId}{f:TI}{b off len cap o m c l:Nat}{lo d mx:Option V}(k:T.und t=some (.slice e))(a:T.inf e=some f)(p:CL mx cap cap=some m)(j:CL d m len=some c)
  (i:CL lo c 0=some l) (g:d=none->mx=none):
  DO T t (.sl b off len cap o) lo d mx=bif zf m l then(bif zf (Ke mx o) 0 then some (.sl b off (c-l) (m-l) 0)else some .esl)
   else bif zf (Ke mx o) 0||zf (Ke mx o) f.size then some (.sl b (off+l*f.size) (c-l) (m-l)<|Ke mx o)else none:=by
 cases d with
 |some x=>cases mx<;>simp only[DO,k,a,p,j,i]
 |none=>
  cases g rfl;simp only[DO,k,a,p,j,i]
theorem gZ(hr:SR B h0 F ρ st.nx st.ob h){t:TypeId}{p:PV}{x:V}{lo hi mx:Option PV}{a b c:Option V}(G:PR F ρ st.nx p x)(S:UD F ρ st.nx lo a)(k:UD F ρ st.nx hi b)(r:UD F ρ st.nx mx c)
  {v:PV} (d:(T2 C.T t p lo hi mx st).To v st'):OK B h0 F ρ st h [] (BE h<|DO C.T t x a b c) v st':=by
 unfold T2 at d;split at d
 case h_3=>simp at d
 case h_1=>
  rename_i R;split at d
  case h_2=>simp at d
  rename_i s;obtain rfl:=FI G;split at d
  case h_2=>simp at d
  rename_i c1 l c2 j f g;simp only[BT,zc,w5]at d;obtain⟨⟨⟨⟨Z,M⟩,Y⟩,K⟩,rfl,rfl⟩:=d;simp only[UD]at r;subst r;have J:=Ef S f Z Y;have w:=Ef k g M K;exact zg hr (by simp only[DO,R,J,w,BE];rfl)<|KT _
 case h_2=>
  rename_i e R;split at d
  case h_2=>simp at d
  rename_i ti y;split at d
  case h_4=>simp at d
  case h_1=>
   rename_i s xs;cases A:zf ti.size s.sz with
   |false=>rw[A]at d;simp at d
   |true=>
    rw[A]at d;have A:=zd A;simp only[we]at d;split at d
    case h_2=>simp at d
    rename_i c1 l c2 j f g;simp only[BT,zc,w5]at d;obtain⟨⟨⟨⟨Z,M⟩,Y⟩,K⟩,rfl,rfl⟩:=d;simp only[UD]at r;subst r;have J:=Ef S f Z Y;simp only[PR,DC]at G;obtain⟨u,hu1,G⟩:=G;obtain rfl:x=u:=by simpa using hu1
    rcases G with⟨rfl,rfl|rfl|rfl⟩|⟨bb,off,cap,o,bs,rfl,P,h2,h3,h5,h4⟩
    ·have w:=Ef k g M K;simp only[yd]at w K;refine zg hr (v':=.nils) (by simp only[DO,R,show CL none 0 0=some 0 from rfl,show mS b none=CL b 0 0 from by cases b<;>rfl,J,w,y,BE]) ?_;simp[PR,DC]
    ·have w:=Ef k g M K;simp only[yd]at w K;refine zg hr (v':=.esl) (by simp only[DO,R,show CL none 0 0=some 0 from rfl,show mS b none=CL b 0 0 from by cases b<;>rfl,J,w,y,BE,Q0,wg]) ?_;simp[PR,DC]
    ·have w:=Ef k g M K;simp only[yd]at w K;refine zg hr (v':=.es0) (by simp only[DO,R,show CL none 0 0=some 0 from rfl,show mS b none=CL b 0 0 from by cases b<;>rfl,J,w,y,BE]) ?_;simp[PR,DC]
    ·have w:CL b cap xs.length=some j:=Ef k g M<|yt K P;have I:=MK (b:=bb) (off:=off) (len:=xs.length) (cap:=cap) (o:=o) (mx:=none) R y rfl w J (fun _=>rfl);have D:((xs.drop l).take<|Nat.sub j l).length=j-l:=by
      have:Nat.sub j l=j-l:=rfl;rw[this];simp;omega
     by_cases hcl:cap=l
     ·have U:j=l:=by omega
      have hemp:(xs.drop l).take (Nat.sub j l)=[]:=by
       apply List.eq_nil_of_length_eq_zero;rw[D];omega
      rw[hemp];by_cases W:o=0
      ·refine zg hr (v':=.sl bb off (j-l) (cap-l) 0) ?_ ?_
       ·have:Ke none o=0:=W;rw[I,this,hcl,z7];rfl
       ·simp only[PR,DC];exact⟨_,rfl,.inr ⟨bb,off,cap-l,0,bs,by simp[U],by simp,h2,by simp;omega,.inl rfl,fun i hi=>by simp at hi⟩⟩
      ·refine zg hr (v':=.esl) ?_ ?_
       ·have P:zf (Ke none o) 0=false:=by rw[Bt];simp[Ke,W]
        rw[I,P,hcl,z7];rfl
       ·simp[PR,DC]
     ·refine zg hr (v':=.sl bb (off+l*ti.size) (j-l) (cap-l) o) ?_ ?_
      ·have f:zf cap l=false:=by rw[Bt];simp[hcl]
       have W:(zf (Ke none o) 0||zf (Ke none o) ti.size)=true:=by
        rcases h5 with rfl|rfl
        ·rfl
        ·rw[A];show(zf s.sz 0||zf s.sz s.sz)=true;rw[z7,yz]
       rw[I,f,W];rfl
      ·simp only[PR,DC];refine⟨_,rfl,.inr ⟨bb,off+l*ti.size,cap-l,o,bs,by rw[D],by rw[D];omega,h2,?_,h5,fun i hi=>?_⟩⟩
       ·rw[D,A];have:(l+(j-l))*s.sz<=xs.length*s.sz:=zh _ (by omega);rw[zp]at this;omega
       ·rw[D]at hi;have hi2:l+i<xs.length:=by omega
        have:=h4 (l+i) hi2;rw[List.getElem_take,List.getElem_drop,A];rw[zp, <-yx]at this;exact this
  case h_2=>
   rename_i id sz off len cap;cases A:(zf ti.size sz&&IC (st.obj id))with
   |false=>rw[A]at d;simp at d
   |true=>
    rw[A]at d;simp only[zc]at A;obtain⟨A,hl⟩:=A;have A:=zd A;simp only[we]at d;have hno:¬(hi=none/\mx≠none):=by
     rintro⟨rfl,hm⟩;cases mx with
     |none=>exact hm rfl
     |some _=>simp at d
    split at d
    case h_1=>simp at d
    split at d
    case h_2=>simp at d
    rename_i c1 l c2 j c3 m f g hb3;simp only[BT,zc,w5]at d;obtain⟨⟨⟨⟨⟨⟨⟨Z,M⟩,Y⟩,K⟩,k5⟩,k6⟩,k7⟩,rfl,rfl⟩:=d;have J:=Ef S f Z K;have e3:=Ef r hb3 Y k6;have w:=Ef k g M k5;have hno':b=none->c=none:=by
     intro hbn;cases hcc:c with
     |none=>rfl
     |some z=>
      exfalso;apply hno;exact⟨k.isNone.2 hbn,fun e=>by have:=r.isNone.1 e;rw[this]at hcc;cases hcc⟩
    obtain⟨b0,n0,P⟩:=hr.live hl;simp only[PR]at G;rcases G.2 b0 n0 P with⟨g1,g2,o,g3,rfl⟩|⟨rfl,rfl,g2,g3⟩
    ·have I:=MK (b:=b0) (off:=off*sz) (len:=len) (cap:=cap.getD len) (o:=o) R y e3 w J hno';have hoz:Ke c o=0\/Ke c o=sz:=by
      unfold Ke;cases c with
      |none=>exact g3
      |some _=>exact .inl rfl
     by_cases L:m=l
     ·have U:j-l=0:=by omega
      by_cases W:Ke c o=0
      ·refine zg hr (v':=.sl b0 (off*sz) (j-l) (m-l) 0) ?_ ?_
       ·rw[I,W,L,z7];rfl
       ·unfold PR;refine⟨G.1,fun b' n' E=>.inr ?_⟩;rw[P]at E;cases E;refine⟨U,?_,?_,.inr ⟨off*sz,by rw[U,L,yk],zh _<|Nat.le_add_right _ _⟩⟩
        ·show some (m-l)=some 0;rw[L,yk]
        ·show off+l<=n0;omega
      ·refine zg hr (v':=.esl) ?_ ?_
       ·have hb0:zf (Ke c o) 0=false:=by rw[Bt];simp[W]
        rw[I,hb0,L,z7];rfl
       ·unfold PR;refine⟨G.1,fun b' n' E=>.inr ?_⟩;rw[P]at E;cases E;refine⟨U,?_,?_,.inl rfl⟩
        ·show some (m-l)=some 0;rw[L,yk]
        ·show off+l<=n0;omega
     ·refine zg hr (v':=.sl b0 (off*sz+l*ti.size) (j-l) (m-l)<|Ke c o) ?_ ?_
      ·have f:zf m l=false:=by rw[Bt];simp[L]
       have W:(zf (Ke c o) 0||zf (Ke c o) ti.size)=true:=by
        rcases hoz with e|e
        ·rw[e];rfl
        ·rw[e,A,z7,yz]
       rw[I,f,W];rfl
      ·unfold PR;refine⟨G.1,fun b' n' E=>.inl ?_⟩;rw[P]at E;cases E;refine⟨?_,?_,Ke c o,hoz,?_⟩
       ·show j-l<=m-l;omega
       ·show off+l+(m-l)<=n0;omega
       ·show V.sl b0 (off*sz+l*ti.size) (j-l) (m-l) (Ke c o)=.sl b0 ((off+l)*sz) (j-l) (m-l) (Ke c o);rw[A,zp]
    ·simp only[yh]at k6 k7 e3;obtain rfl:m=0:=by omega
     obtain rfl:j=0:=by omega
     obtain rfl:l=0:=by omega
     have hc:c=none:=by
      cases mx with
      |none=>exact r
      |some _=>simp[has]at k7
     subst hc;rcases g3 with rfl|⟨O,rfl,g4⟩
     ·refine zg hr (v':=.esl) (by simp only[DO,R,y,show CL none 0 0=some 0 from rfl,show mS b none=CL b 0 0 from by cases b<;>rfl,w,J,BE,Q0,wg]) ?_;unfold PR;exact⟨G.1,fun b' n' E=>.inr ⟨by rfl,by rfl,by rw[P]at E;cases E;exact g2,.inl rfl⟩⟩
     ·refine zg hr (v':=.sl b0 O 0 0 0) ?_ ?_
      ·rw[MK (mx:=none) R y rfl w J (fun _=>rfl)];rfl
      ·unfold PR;refine⟨G.1,fun b' n' E=>.inr ⟨rfl,rfl,?_,.inr ⟨O,?_,?_⟩⟩⟩
       ·rw[P]at E;cases E;exact g2
       ·rw[P]at E;cases E;rfl
       ·show O<=(off+0)*sz;exact g4
  case h_3=>
   split at d
   case h_3=>simp at d
   case h_2=>
    rename_i c1 l c2 j q f g;split at d
    case h_2=>simp at d
    rename_i p' c3 m hb3;simp only[BT,zc,w5]at d;obtain⟨⟨⟨⟨⟨⟨Z,M⟩,k5⟩,Y⟩,K⟩,k6⟩,rfl,rfl⟩:=d;have J:=Ef S f Z Y;have w:=Ef k g M (show j<=0 by omega);have e3:=Ef r hb3 k5 k6;simp only[PR]at G;subst G;cases b with
    |none=>simp[UD]at k
    |some b=>exact zg hr (v':=.nils) (by simp only[DO,R,e3,show mS (some b) c=CL (some b) 0 0 from by cases c<;>rfl,w,J,y,BE]) (by simp[PR])
   rename_i c1 l c2 j f g;simp only[BT,zc,w5]at d;obtain⟨⟨⟨⟨Z,M⟩,Y⟩,K⟩,rfl,rfl⟩:=d;simp only[UD]at r;subst r;have J:=Ef S f Z Y;have w:=Ef k g M K;simp only[PR]at G;subst G;exact zg hr (v':=.nils) (by simp only[DO,R,show CL none 0 0=some 0 from rfl,show mS b none=CL b 0 0 from by cases b<;>rfl,J,w,y,BE]) (by simp[PR])
theorem qV(hr:SR B h0 F ρ st.nx st.ob h){t:TypeId}{p q:PV}{x y:V}(b:PR F ρ st.nx p x)(c:PR F ρ st.nx q y){v:PV}(a:(lH C.T t p q st).To v st'):
  OK B h0 F ρ st h [] (BE h<|Dj C.T t x y) v st':=kK hr b.lz c a
theorem rH(hr:SR B h0 F ρ st.nx st.ob h){t:TypeId}{p:PV}{x:V}{lo g mx:Option PV}{a b c:Option V}(j:PR F ρ st.nx p x)(e:UD F ρ st.nx lo a)(f:UD F ρ st.nx g b)(d:UD F ρ st.nx mx c)
  {v:PV} (i:(pD C.T t p lo g mx st).To v st'):OK B h0 F ρ st h [] (BE h<|DO C.T t x a b c) v st':=gZ hr j.lz e f d i
theorem MR.len{ks vs:Sh}{l:List (ks.T×vs.T)}{es:List (V×V×Nat)}(h:MR F ks vs l es):l.length=es.length:=by
 induction h with
 |nil=>rfl
 |cons _ _ _ a=>simp[a]
theorem Abq(hr:SR B h0 F ρ st.nx st.ob h){ts:Array TypeId}{ps:List PV}{xs:List V}(d:Bf F ρ st.nx ps xs){v:PV}(c:(VT C.T ts ps st).To v st'):OK B h0 F ρ st h [] (BE h<|Gr C.T h ts xs) v st':=by
 unfold VT at c;split at c
 case h_2=>simp at c
 rename_i t p a;simp only[Bf]at d;obtain⟨x,g,rfl,d,rfl⟩:=d;split at c
 case h_6=>simp at c
 case h_1=>
  rename_i s e;simp only[AW]at c;obtain⟨rfl,rfl⟩:=c;obtain rfl:=FI d;exact zg hr (by simp only[Gr,a,e,BE];rfl)<|Dz _ _
 case h_2=>
  rename_i s l e;simp only[AW]at c;obtain⟨rfl,rfl⟩:=c;simp only[PR,DC]at d;obtain⟨u,hu1,d⟩:=d;obtain rfl:x=u:=by simpa using hu1
  rcases d with⟨rfl,rfl|rfl|rfl⟩|⟨b,off,cap,o,j,rfl,_⟩
  ·exact zg hr (by simp only[Gr,a,e,BE];rfl)<|Dz _ _
  ·exact zg hr (by simp only[Gr,a,e,BE];rfl)<|Dz _ _
  ·exact zg hr (by simp only[Gr,a,e,BE];rfl)<|Dz _ _
  ·exact zg hr (by simp only[Gr,a,e,BE];rfl)<|Dz _ _
 case h_3=>
  rename_i id sz off len cap e;cases f:IC (st.obj id)with
  |false=>rw[f]at c;simp at c
  |true=>
   rw[f]at c;simp only[we,AW]at c;obtain⟨rfl,rfl⟩:=c;obtain⟨b,n,h1⟩:=hr.live f;simp only[PR]at d;rcases d.2 b n h1 with⟨_,_,o,_,rfl⟩|⟨rfl,_,_,rfl|⟨_,rfl,_⟩⟩
   ·exact zg hr (by simp only[Gr,a,e,BE];rfl)<|Dz _ _
   ·exact zg hr (by simp only[Gr,a,e,BE];rfl)<|Dz _ _
   ·exact zg hr (by simp only[Gr,a,e,BE];rfl)<|Dz _ _
 case h_4=>
  rename_i e;simp only[AW]at c;obtain⟨rfl,rfl⟩:=c;simp only[PR]at d;subst d;exact zg hr (by simp only[Gr,a,e,BE];rfl)<|Dz _ _
 case h_5=>
  rename_i id e;split at c
  case h_2=>simp at c
  rename_i ks vs l i;simp only[AW]at c;obtain⟨rfl,rfl⟩:=c;obtain⟨b,n,y,h1,h2,⟨es,clk,rfl,h3⟩,_⟩:=hr.at i;simp only[PR]at d;obtain rfl:=d.2 b n h1;have f:l.length=es.length:=h3.len;refine zg hr (v':=i64 es.length) (by simp only[Gr,a,e,h2,BE]) ?_;rw[<-f];exact Dz _ _
theorem AdP(hr:SR B h0 F ρ st.nx st.ob h){ts:Array TypeId}{ps:List PV}{xs:List V}(b:Bf F ρ st.nx ps xs){v:PV}(a:(tF C.T ts ps st).To v st'):OK B h0 F ρ st h [] (BE h<|Gr C.T h ts xs) v st':=Abq hr b.lz a
theorem AdZ(hr:SR B h0 F ρ st.nx st.ob h){f:Int->Int->Int}{g:V->V->Option V}(m:∀k x y,g (.int k x) (.int k y)=some (.int k<|f x y)){ps:List PV}{xs:List V}(b:Bf F ρ st.nx ps xs){v:PV}
  (c:(N3 f ps st).To v st'):OK B h0 F ρ st h [] (BE h<|GH g xs) v st':=by
 have key:∀(ps:List PV) (xs:List V) (k:IntKind) (x z:Int),Bf F ρ st.nx ps xs->pmm f k x ps=some z->dfold g (.int k x) xs=some (.int k z):=by
  intro ps;induction ps with
  |nil=>intro xs k x z b a;simp at b;subst b;simp only[pmm,zj]at a;subst a;rfl
  |cons p ps r=>
   intro xs k x z b a;simp only[Bf]at b;obtain⟨u,l,rfl,j,i⟩:=b;unfold pmm at a;split at a
   case h_1=>rename_i e;cases e
   case h_2=>
    rename_i e;cases e;rename_i o y;cases d:(k==o)with
    |false=>rw[d]at a;cases a
    |true=>
     rw[d]at a;have d:=wj.1 d;subst d;obtain rfl:=CU j;simp only[dfold,m];exact r l k _ z i a
   case h_3=>cases a
 unfold N3 at c;split at c
 case h_2=>simp at c
 rename_i k x q;split at c
 case h_2=>simp at c
 rename_i z a;simp only[AW]at c;obtain⟨rfl,rfl⟩:=c;simp only[Bf]at b;obtain⟨u,l,rfl,j,i⟩:=b;obtain rfl:=CU j;exact zg hr (v':=.int k z) (by simp only[GH,key q l k x z i a,BE])<|Dz _ _
theorem OK.new(hr:SR B h0 F ρ st.nx st.ob h){o:Obj}{x:O}{n:Nat}(c:o.frozen=false)(d:YE F (BV ρ st.nx<|some (h.nx,n)) (st.nx+1) n o x){v:PV}{v':V}
  (a:PR F (BV ρ st.nx<|some (h.nx,n)) (st.nx+1) v v'):OK B h0 F ρ st h [] (FG<|some (v',h.push x)) v (st.push o):=by
 refine⟨v',h.push x,F,_,.inl rfl,a,hr.push c d,Le.new _,rfl,rfl,Nat.le_succ _,fun b e=>.inl ?_⟩;rw[H.BP,wc<|by omega]
theorem LH{n:Nat}:PR F (BV ρ N<|some (h.nx,n)) (N+1) (.ptr N 0) (.ptr h.nx 0):=by
 unfold PR;exact⟨zz _,fun b m a=>by simp[BV]at a;rw[a.1]⟩
theorem AbO{F:Fz}:∀ {s:Sh} {v:V},isZ s v=true->DC F s s.Hz [v]
 | .bool,.bool b,h=>by
  have:b=false:=by simpa [isZ]using h
  subst this;simp[DC,Sh.Hz]
 | .int k,.int a n,h=>by
  unfold isZ at h;rw[zc,w5,w5]at h;obtain⟨rfl,rfl⟩:=h;simp[DC,Sh.Hz]
theorem tN{T:Cc}{t:TypeId}{s:Sh}{n:Nat}(h:AbX T t=some (s,n)):∃i,T.inf t=some i/\n=i.zero.length/\(∀v∈i.zero,isZ s v=true)/\s.sz=1:=by
 unfold AbX at h;split at h
 case h_2=>cases h
 rename_i i e d;split at h
 case h_2=>cases h
 rename_i c b;cases a:(zl 32 (Det.EP i.zero)&&Det.Ly (isZ c) i.zero)with
 |false=>rw[a]at h;cases h
 |true=>
  rw[a]at h;cases h;rw[zc,FU]at a;refine⟨i,d,Da ..,z6.1 a.2,?_⟩;unfold zsh at b;split at b<;>first|(cases b;rfl)|cases b
theorem uM(hr:SR B h0 F ρ st.nx st.ob h){t:TypeId}{v:PV}(c:(TV t C.T st).To v st'):OK B h0 F ρ st h [] (FG<|G8 C.T h t) v st':=by
 unfold TV iO at c;split at c
 case h_1=>
  rename_i s n g;simp only[AW]at c;obtain⟨rfl,rfl⟩:=c;obtain⟨i,f,rfl,hall,hs⟩:=tN g;have:G8 C.T h t=some (.ptr h.nx 0,h.push<|.cells i.zero t (0,0)):=by simp[G8,f,IU]
  rw[this];refine OK.new hr (o:=.arr false t s<|zn i.zero.length s.Hz) (n:=i.zero.length) rfl ⟨_,_,rfl,⟨by rw[ya,hs,ym],fun j k=>?_⟩,ze _,ya ..⟩ LH;have d:j<i.zero.length:=by simpa using k
  have:=hall i.zero[j]<|List.getElem_mem d;rw[List.getElem_replicate,hs,ym,zw d];exact AbO this
 split at c
 case h_2=>exact wh c (by simp)
 rename_i cs a;rw[Option.bind_eq_some_iff]at a;obtain⟨i,f,a⟩:=a;cases b:Ly V.ok i.zero with
 |false=>rw[b]at a;cases a
 |true=>
 rw[b]at a;cases a;rw[FU]at b;simp only[AW]at c;obtain⟨rfl,rfl⟩:=c;have:G8 C.T h t=some (.ptr h.nx 0,h.push<|.cells i.zero t (0,0)):=by simp[G8,f,IU]
 rw[this];cases yZ C.T t with
 |true=>exact OK.new hr (o:=.tbox t<|i.zero.map Yu) (n:=0) rfl ⟨_,_,rfl,EM _,ze _,fun u e=>z6.1 b u e⟩ LH
 |false=>exact OK.new hr (o:=.box<|i.zero.map Yu) (n:=0) rfl ⟨_,_,_,rfl,EM _,ze _,fun u e=>z6.1 b u e⟩ LH
theorem AcE(hr:SR B h0 F ρ st.nx st.ob h){t:TypeId}{p:PV}{x:V}(b:PR F ρ st.nx p x){cs:List PV}(a:pcs st p=some cs)(d:cs.all (Kl st)=true):OK B h0 F ρ st h [] (FG<|some<|dY h t x) (.ptr st.nx 0) (st.push<|.box cs):=
 OK.new hr (o:=.box cs) (n:=0) rfl ⟨_,_,_,rfl,(Om hr b a).mono<|Le.new _,ze _,fun u c=>V.M9<|z6.1 (KW hr d<|Om hr b a) u c⟩ LH
theorem JB(hr:SR B h0 F ρ st.nx st.ob h){place:Nat->Option (Nat×Nat)}:∀ {l:List (Nat×PV)} {l':List (Nat×V)},PRn F ρ st.nx l l'->∀ {cs:List PV} {xs:List V},Bf F ρ st.nx cs xs->∀ {out:List PV},Sd st place cs l=some out->
  ∃g,IW place xs l'=some g/\Bf F ρ st.nx out g:=by
 intro l l' k;induction k with
 |nil=>intro cs xs c out a;cases a;exact⟨xs,rfl,c⟩
 |@cons i p v l l' hp _ m=>
  intro cs xs c out a;unfold Sd at a;unfold IW;split at a
  case h_1=>cases a
  rename_i off size f;split at a
  case h_2=>cases a
  rename_i vs d;cases b:(zf (Det.EP vs) size&&zl (Nat.add off size) (Det.EP cs))with
  |false=>rw[b]at a;cases a
  |true=>
   rw[b]at a;have j:=Om hr hp d;rw[Da,Da,j.len,c.len]at b;have e:(zf v.cells.length size&&zl (off+size) xs.length)=true:=b;rw[f];simp only[e,we];have:=j.CG off c;rw[JR v.cells]at this;exact m this a
theorem vP(hr:SR B h0 F ρ st.nx st.ob h){t:TypeId}{l:List (Nat×PV)}{l':List (Nat×V)}(g:PRn F ρ st.nx l l'){v:PV}(k:(ov st<|WT C.T st t l).To v st'):OK B h0 F ρ st h [] (BE h<|KS C.T t l') v st':=by
 simp only[Me]at k;obtain⟨a,rfl⟩:=k;unfold WT at a;split at a
 case h_3=>cases a
 case h_1=>
  rename_i i fs f d;split at a
  case h_2=>cases a
  rename_i pl b;rw[zm]at a;obtain⟨out,c,rfl⟩:=a;obtain⟨ys,g1,g2⟩:=JB hr g (EM i.zero) c;exact zg hr (v':=.agg ys) (by simp only[KS,f,d,b,g1,zq,BE]) (by unfold PR;exact⟨_,rfl,g2⟩)
 case h_2=>
  rename_i i o e f d;split at a
  case h_2=>cases a
  rename_i j m;rw[zm]at a;obtain⟨out,c,rfl⟩:=a;obtain⟨ys,g1,g2⟩:=JB hr g (EM i.zero) c;exact zg hr (v':=.agg ys) (by simp only[KS,f,d,m,g1,zq,BE]) (by unfold PR;exact⟨_,rfl,g2⟩)
theorem KV(z:List V):∀n,Bf F ρ N (K3 (z.map Yu) n)<|(zn n z).flatten
 |0=>by simp[K3]
 |n+1=>by
  simp only[K3,zx,yn];exact(EM z).append<|KV z n
theorem HO(z:List V):∀n,Fp z (n*z.length)=(zn n z).flatten:=by
 intro n;apply yo;intro i;unfold Fp;by_cases e:z.length=0
 ·have:z=[]:=zo.1 e;subst this;have:(zn n ([]:List V)).flatten=[]:=by induction n with|zero=>rfl|succ n c=>simp[zx]
  rw[this];simp
 ·have d:0<z.length:=Nat.pos_of_ne_zero e;induction n generalizing i with
  |zero=>simp
  |succ n c=>
   rw[zx,yn];by_cases b:i<z.length
   ·rw[yc b,yp,yj<|by rw[zt];omega];simp only[zq,Nat.mod_eq_of_lt b];simp[List.getD_eq_getElem?_getD,b]
   ·rw[yb (by omega), <-c (i-z.length)];rw[yp,yp];by_cases a:i<(n+1)*z.length
    ·rw[yj a,yj<|by rw[zt]at a;omega];simp only[zq];rw[Nat.mod_eq_sub_mod<|by omega]
    ·rw[List.getElem?_eq_none (by simp;omega),List.getElem?_eq_none<|by simp;rw[zt]at a;omega]
theorem PE{sz n:Nat}{o:Nat}(c:o=0\/o=sz):PR F (BV ρ N<|some (h.nx,n)) (N+1) (.sl N sz 0 n none) (.sl h.nx 0 n n o):=by
 unfold PR;refine⟨zz _,fun b m a=>.inl ?_⟩;simp[BV]at a;obtain⟨rfl,rfl⟩:=a;exact⟨ze _,by show 0+n<=n;omega,o,c,by rw[zu];rfl⟩
theorem MY{place:Nat->Option (Nat×Nat)}:∀ {l:List (Nat×V)} {xs a:List V},IW place xs l=some a->a.length=xs.length
 |[],xs,a,h=>by cases h;rfl
 |(i,v)::l,xs,a,h=>by
  unfold IW at h;split at h
  ·cases h
  ·rename_i off size _;cases b:(zf v.cells.length size&&zl (off+size) xs.length)with
   |false=>rw[b]at h;cases h
   |true=>
    rw[b]at h;rw[MY h,GN]
end
section
variable {B:Nat}{h0:H0}{F:Fz}{ρ:Ex}{N:Nat}{C:Ctx}{st st':AM}{fr:Fr}{h h':H}
theorem Ey.nil{s:Sh}:Ey F s [] []:=⟨by simp,fun i a=>by simp at a⟩
theorem Ey.cons{s:Sh}{x:s.T}{l:List s.T}{a b:List V}(c:DC F s x a)(d:Ey F s l b):Ey F s (x::l) (a++b):=by
 refine⟨by rw[List.length_append,c.len,d.1,List.length_cons,zt];omega,fun i f=>?_⟩;cases i with
 |zero=>
  simp only[zu,yg,yu];rw[<-c.len,List.take_left];exact c
 |succ i=>
  have e:(a++b).drop ((i+1)*s.sz)=b.drop (i*s.sz):=by
   rw[zt,yy,Gt, <-c.len,List.drop_left]
  rw[e];exact d.2 i (by simpa using f)
theorem Ey.gQ{s:Sh}{x:s.T}{l:List s.T}{cs:List V}(h:Ey F s (x::l) cs):∃a b,cs=a++b/\DC F s x a/\Ey F s l b:=by
 have h0:=h.2 0 (by simp);simp only[zu,yg,yu]at h0;refine⟨cs.take s.sz,cs.drop s.sz,(List.take_append_drop _ _).symm,h0,?_,fun i c=>?_⟩
 ·rw[List.length_drop,h.1,List.length_cons,zt];omega
 ·have:=h.2 (i+1) (by simpa using c);rw[<-Gt,yy, <-zt];exact this
theorem Ey.append{s:Sh}:∀ {l m:List s.T} {a b:List V},Ey F s l a->Ey F s m b->Ey F s (l++m) (a++b)
 |[],m,a,b,h,h'=>by
  have:a=[]:=zo.1 (by rw[h.1];simp);subst this;simpa using h'
 |x::l,m,a,b,h,h'=>by
  obtain⟨c,d,rfl,f,e⟩:=h.gQ;rw[List.append_assoc,List.cons_append];exact Ey.cons f<|e.append h'
theorem Ey.replicate{s:Sh}{z:s.T}{c:List V}(a:DC F s z c):∀n,Ey F s (zn n z)<|(zn n c).flatten
 |0=>Ey.nil
 |n+1=>by
  rw[zx,zx,yn];exact Ey.cons a<|Ey.replicate a n
theorem Ey.Uz{s:Sh}:∀ {l:List s.T} {a:List V},Ey F s l a->a.all V.one=true
 |[],a,h=>by
  have:a=[]:=zo.1 (by rw[h.1];simp);subst this;rfl
 |x::l,a,h=>by
  obtain⟨c,d,rfl,b,e⟩:=h.gQ;rw[List.all_append,e.Uz,Bool.and_true];exact z6.2 b.Uz
theorem Ey.part{s:Sh}{l:List s.T}{cs:List V}(h:Ey F s l cs){off len:Nat}(d:off+len<=l.length):Ey F s ((l.drop off).take len) ((cs.drop<|off*s.sz).take<|len*s.sz):=by
 have c:(off+len)*s.sz<=l.length*s.sz:=zh _ d;rw[zp]at c;have g:=h.1;refine⟨by simp;rw[ye (by omega),ye<|by omega],fun i f=>?_⟩;have b:i<len:=by simp at f;omega
 have a:(i+1)*s.sz<=len*s.sz:=zh _ b;rw[zt]at a;rw[List.getElem_take,List.getElem_drop];have:=h.2 (off+i) (by omega);have e:(((cs.drop<|off*s.sz).take<|len*s.sz).drop<|i*s.sz).take s.sz=(cs.drop<|(off+i)*s.sz).take s.sz:=by
  rw[List.drop_take,List.take_take,List.drop_drop,zp,ye<|by omega]
 rw[e];exact this
theorem AaH(hr:SR B h0 F ρ st.nx st.ob h){t:TypeId}{p q:PV}{x y:V}(J:PR F ρ st.nx p x)(K:PR F ρ st.nx q y){v:PV}(a:(nA C.T t p q st).To v st'):OK B h0 F ρ st h [] (FG<|Q1 C.T h t x y) v st':=by
 unfold nA at a;split at a
 case h_2=>simp at a
 rename_i e k l L c w;obtain rfl:=CU J;obtain rfl:=CU K;split at a
 case h_2=>simp at a
 rename_i i s u R;cases d:(zr 0 i.zero.length&&zf i.zero.length i.size&&zf i.size s.sz)with
 |false=>rw[d]at a;simp at a
 |true=>
  rw[d]at a;simp only[zc]at d;obtain⟨⟨E,j⟩,O⟩:=d;simp only[we]at a;split at a
  case h_2=>simp at a
  rename_i z r;simp only[BT,zc,w5]at a;obtain⟨⟨⟨⟨G,M⟩,m⟩,A⟩,rfl,rfl⟩:=a;have f:l=c:=M;subst f;obtain⟨n,rfl,hn⟩:=DU G;rw[hn]at m ⊢;have D:=zd j;have P:=zd O;have I:Q1 C.T h t (.int k<|zy n) (.int L<|zy n)=some (.sl h.nx 0 n n 0,h.push<|.cells (Fp i.zero<|n*i.size) e (0,0)):=by
   have a1:zl n n=true:=zi<|ze _;have a2:zr n 9223372036854775808=true:=DY (by have:(zy n:Int)<9223372036854775808:=A;simp at this;omega);have a3:zl (i.bytes*n) 281474976710656=true:=zi m;simp only[Q1,w,u,a1,a2,a3,E,j,yq,we,IU]
  rw[I];have g:=C3 (EM (F:=F) (ρ:=ρ) (N:=st.nx) i.zero) r;have b:Ey F s (zn n z) (Fp i.zero<|n*i.size):=by
   rw[<-D,HO];exact Ey.replicate g n
  exact OK.new hr (o:=.arr false e s<|zn n z) (n:=n) rfl ⟨_,_,rfl,b,ze _,by simp⟩ (PE<|.inl rfl)
theorem W2(hr:SR B h0 F ρ st.nx st.ob h){s:Sh}{p:PV}{x:V}(f:PR F ρ st.nx p x){c:Bool}{l:List s.T}(d:Ow st s p=some (c,l))(D:c=true):
  P3 x=some l.length/\(s.sz=1\/Qk x=true)/\∃cs,src h s.sz x l.length=some cs/\Ey F s l cs:=by
 unfold Ow at d;split at d
 case h_1=>
  cases d;simp only[PR]at f;subst f;exact⟨rfl,.inr rfl,[],rfl,Ey.nil⟩
 case h_2=>
  rename_i a l';rw[zm]at d;obtain⟨r,w,q⟩:=d;obtain⟨e,he⟩:=CM w;have A:a=s:=by cases e;rfl
  subst A;have:r=l':=by have:=he;cases this;rfl
  subst this;cases q;simp only[PR,DC]at f;obtain⟨u,K,f⟩:=f;obtain rfl:x=u:=by simpa using K
  rcases f with⟨rfl,rfl|rfl|rfl⟩|⟨b,off,cap,o,E,rfl,O,G,m,W,L⟩
  ·exact⟨rfl,.inr rfl,[],rfl,Ey.nil⟩
  ·exact⟨rfl,.inr rfl,[],rfl,Ey.nil⟩
  ·exact⟨rfl,.inr rfl,[],rfl,Ey.nil⟩
  ·obtain⟨te,fz,Z⟩:=hr.frz b E G;suffices hD:Ey F a l ((E.drop off).take<|l.length*a.sz)from⟨rfl,.inr rfl,_,rd_some Z m hD.ok,hD⟩
   refine⟨?_,fun i M=>?_⟩
   ·simp;rw[ye<|by omega]
   ·have I:(i+1)*a.sz<=l.length*a.sz:=zh _ M;rw[zt]at I;have e:(((E.drop off).take<|l.length*a.sz).drop<|i*a.sz).take a.sz=(E.drop<|off+i*a.sz).take a.sz:=by
     rw[List.drop_take,List.take_take,List.drop_drop,ye<|by omega]
    rw[e];exact L i M
 case h_3=>
  rename_i id sz off len cap;split at d
  case h_2=>cases d
  rename_i U te a l' Y;cases g:zf sz a.sz with
  |false=>rw[g]at d;cases d
  |true=>
   rw[g]at d;have g:=zd g;simp only[we,zm]at d;obtain⟨r,w,q⟩:=d;obtain⟨e,he⟩:=CM w;have A:a=s:=by cases e;rfl
   subst A;have:r=l':=by have:=he;cases this;rfl
   subst this;cases q;simp only[w5]at D;obtain⟨b,n,y,O,G,⟨cs,fz,rfl,m,L,W⟩,_⟩:=hr.at Y;simp only[PR]at f;have z:((r.drop off).take len).length=len:=by simp;omega
   have k:(off+len)*a.sz<=r.length*a.sz:=zh _ D;rw[zp]at k;rw[z];rcases f.2 b n O with⟨_,_,o,_,rfl⟩|⟨rfl,_,hof,rfl|⟨P,rfl,v⟩⟩
   ·refine⟨rfl,.inr rfl,_,rd_some G ?_ ?_,?_⟩
    ·rw[g,m.1];exact k
    ·rw[g];exact(m.part D).ok
    ·rw[g];exact m.part D
   ·refine⟨rfl,.inr rfl,[],rfl,?_⟩;simpa using Ey.nil
   ·refine⟨rfl,.inr rfl,_,rd_some G ?_ ?_,?_⟩
    ·rw[g]at v;rw[m.1];simp at k ⊢;omega
    ·simp
    ·simp;exact Ey.nil
 case h_5=>cases d
 case h_4=>
  rename_i t;rw[zm]at d;obtain⟨r,w,q⟩:=d;obtain⟨e,he⟩:=CM w;have A:s=.int .u8:=by cases e;rfl
  subst A;have:r=List.map (fun b:UInt8=>(b.toNat:Int)) t:=by have:=he;cases this;rfl
  subst this;cases q;obtain rfl:=FI f;refine⟨by simp[P3],.inl rfl,_,rfl,?_⟩;rw[yw,List.take_length];refine⟨by simp[Sh.sz],fun j S=>?_⟩;have J:j<t.length:=by simpa using S
  have R:((t.map fun b=>y7 .u8 (b.toNat:Int)).drop<|j*1).take 1=[y7 .u8 ((t[j]).toNat:Int)]:=by
   rw[ym,zw<|by simpa using J];simp
  show DC _ (.int .u8) _<|((t.map fun b=>y7 .u8 (b.toNat:Int)).drop<|j*1).take 1;rw[R];simp[DC]
theorem cD(hr:SR B h0 F ρ st.nx st.ob h){s:Sh}{p:PV}{x:V}(d:PR F ρ st.nx p x){c:Bool}{l:List s.T}(b:Pw st s p=some (c,l))(a:c=true):
  P3 x=some l.length/\(s.sz=1\/Qk x=true)/\∃cs,src h s.sz x l.length=some cs/\Ey F s l cs:=W2 hr d.lz b a
theorem SR.congr(hr:SR B h0 F ρ N st.ob h)(a:∀c,h'.get c=h.get c)(f:h'.nx=h.nx):SR B h0 F ρ N st.ob h':=
 ⟨fun id o j=>by obtain⟨b,n,x,e,i,q⟩:=hr.obj id o j;exact⟨b,n,x,e,(a b).trans i,q⟩,hr.inj,fun b cs d=>by obtain⟨t,fz,e⟩:=hr.frz b cs d;exact⟨t,fz,(a b).trans e⟩,hr.own,hr.dead,
  fun b d k=>(a b).trans<|hr.old b d k,fun b o d=>by rw[f];exact hr.lt b o<|(a b).symm.trans d,by rw[f];exact hr.le,hr.fo,hr.gl,fun c g=>by obtain⟨m,l,p⟩:=hr.pn c g;exact⟨(a c).trans m,l,p⟩⟩
theorem SR.gG{ob:Ob}(hr:SR B h0 F ρ N ob h){o:Obj}{x:O}{b n:Nat}(R:h.get b=some x)(g:∀id o m,AP ob id=some o->ρ id≠some (b,m))(K:F b=none)(G:h0.bE B b)(I:b∉h0.pin)(S:o.frozen=false)
  (W:YE F (BV ρ N<|some (b,n)) (N+1) n o x):SR B h0 F (BV ρ N<|some (b,n)) (N+1) ((N,o)::ob) h:=by
 have E:Le F ρ N F (BV ρ N<|some (b,n)) (N+1):=Le.new _;have d:∀j,AP ((N,o)::ob) j=if j=N then some o else AP ob j:=by
  intro j;simp only[AP,Bt];by_cases e:N=j
  ·subst e;simp
  ·rw[wc<|fun h=>e h.symm];simp[e]
 refine⟨fun j oj a=>?_,fun i j oi oj c m w z a q p=>?_,hr.frz,fun id c m l=>?_,fun j a=>?_,hr.old,hr.lt,hr.le,hr.fo,hr.gl,fun c u=>?_⟩
 ·rw[d]at a;by_cases e:j=N
  ·subst e;simp only[wk,zj]at a;subst a;exact⟨b,n,x,by simp[BV],R,W,fun _=>K,fun e=>by rw[S]at e;cases e⟩
  ·rw[wc e]at a;obtain⟨c,m,y,q,p,M,P⟩:=hr.obj j oj a;exact⟨c,m,y,by simp[BV,e,q],p,M.mono E,P⟩
 ·rw[d]at z a;have key:∀k ok m,(if k=N then some o else AP ob k)=some ok->BV ρ N (some (b,n)) k=some (c,m)->(k=N/\c=b)\/(k≠N/\AP ob k=some ok/\ρ k=some (c,m)/\c≠b):=by
   intro k ok m t f;by_cases e:k=N
   ·subst e;simp[BV]at f;exact .inl ⟨rfl,f.1.symm⟩
   ·rw[wc e]at t;simp only[BV,e,vg]at f;exact .inr ⟨e,t,f,fun U=>g k ok m t<|U▸f⟩
  rcases key i oi m z q with⟨v,r⟩|⟨v,r,J,D⟩<;>rcases key j oj w a p with⟨A,s⟩|⟨A,s,T,Z⟩
  ·rw[v,A]
  ·exact wh r Z
  ·exact wh s D
  ·exact hr.inj i j oi oj c m w r s J T
 ·unfold BV at l;split at l
  ·rename_i e;cases l;subst e;exact⟨zz _,G⟩
  ·have:=hr.own id c m l;exact⟨by omega,this.2⟩
 ·rw[d]at a;by_cases e:j=N
  ·rw[wd e]at a;cases a
  ·rw[wc e]at a;simp[BV,e,hr.dead j a]
 ·obtain⟨Y,V,L⟩:=hr.pn c u;refine⟨Y,V,fun id m e=>?_⟩;unfold BV at e;split at e
  ·cases e;exact I u
  ·exact L id m e
theorem Px{off:Nat}{cs:List V}(h:off<=cs.length):CG off [] cs=cs:=by
 apply yo;intro j;rw[Hu<|by simpa using h];rw[wc<|by simp]
theorem VC{off:Nat}{vs cs:List V}(h:off+vs.length<=cs.length):CG off vs cs=cs.take off++(vs++cs.drop (off+vs.length)):=by
 apply yo;intro j;rw[Hu h];by_cases c:j<off
 ·rw[wc (by omega),yc (by simp;omega),List.getElem?_take_of_lt c]
 ·rw[yb<|by simp;omega];have b:(cs.take off).length=off:=by simp;omega
  rw[b];by_cases a:j<off+vs.length
  ·rw[wd ⟨by omega,a⟩,yc<|by omega]
  ·rw[wc (by omega),yb (by omega),List.getElem?_drop];congr 1;omega
theorem Ey.hH{s:Sh}{l new:List s.T}{cs g:List V}{a:Nat}(h:Ey F s l cs)(d:Ey F s new g)(j:a+new.length<=l.length):
  Ey F s (l.take a++(new++l.drop (a+new.length))) (CG (a*s.sz) g cs):=by
 have e:=h.1;have f:=d.1;have b:(a+new.length)*s.sz<=l.length*s.sz:=zh _ j;rw[VC<|by rw[f, <-zp,e];exact b];have c:=h.part (off:=0) (len:=a) (by omega);have i:=h.part (off:=a+new.length) (len:=l.length-(a+new.length)) (by omega);rw[zu,yg,yg]at c;rw[yv (by simp),yv<|by rw[List.length_drop,e, <-Nat.sub_mul];exact ze _]at i;rw[f, <-zp];exact c.append<|d.append i
def F6:List PV->List Nat
 | .sl id _ _ _ _::_=>[id]
 |_=>[]
theorem eH{s f:Sh}{x:f.T}{c:Bool}{l:List s.T}(d:Pw st s (.dat f x)=some (c,l)):c=true:=by
 unfold Pw at d;cases f with
 |list a=>
  have d:(DT (.list a) (.list s) x).map (fun r=>(true,r))=some (c,l):=d;rw[zm]at d;obtain⟨r,_,e⟩:=d;cases e;rfl
 |nlist a=>
  have d:(DT (.list a) (.list s) x).map (fun r=>(true,r))=some (c,l):=d;rw[zm]at d;obtain⟨r,_,e⟩:=d;cases e;rfl
 |str=>
  have d:(DT (.list<|.int .u8) (.list s)<|List.map (fun b:UInt8=>(b.toNat:Int)) x).map (fun r=>(true,r))=some (c,l):=d;rw[zm]at d;obtain⟨r,_,e⟩:=d;cases e;rfl
 |_=>cases d
theorem jA(hr:SR B h0 F ρ st.nx st.ob h){ts:Array TypeId}{ps:List PV}{xs:List V}(hx:Bf F ρ st.nx ps xs){v:PV}(d:(SP C.T ts ps st).To v st'):OK B h0 F ρ st h (F6 ps) (FG<|GQ C.T h ts xs) v st':=by
 unfold SP at d;split at d
 case h_2=>simp at d
 rename_i t tx p q hts htx;simp only[Bf]at hx;obtain⟨x,_,rfl,hx,y,_,rfl,hy,rfl⟩:=hx;split at d
 case h_2=>simp at d
 rename_i e ex hu hux;have hss:Ul ex=true:=by
  cases hq:Ul ex with
  |true=>rfl
  |false=>rw[hq]at d;simp at d
 rw[hss]at d;simp only[we]at d;split at d
 case h_2=>simp at d
 rename_i i s hi hs;cases hc:(zr 0 i.bytes&&zr 0 i.size&&zf i.zero.length i.size&&zf i.size s.sz)with
 |false=>rw[hc]at d;simp at d
 |true=>
  rw[hc]at d;simp only[zc]at hc;obtain⟨⟨⟨c1,c2⟩,c3⟩,c4⟩:=hc;have e4:=zd c4;simp only[we]at d;split at d
  case h_2=>simp at d
  rename_i c new hel;have head:c=true->∃cs,src h i.size y new.length=some cs/\Ey F s new cs/\GQ C.T h ts [x,y]=(match x with
      | .nils=>bif zf new.length 0 then some (.nils,h)
       else bif zl ((3*new.length+2000)*i.bytes) 562949953421312 then some (.sl h.nx 0 new.length new.length i.size,IU h e cs)else none
      | .es0=>bif zf new.length 0 then some (.es0,h)
       else bif zl ((3*new.length+2000)*i.bytes) 562949953421312 then some (.sl h.nx 0 new.length new.length i.size,IU h e cs)else none
      | .esl=>bif zf new.length 0 then some (.esl,h)else none
      | .sl b off len cap o=>
       bif zl (len+new.length) cap then(wr h b (off+len*i.size) cs).map fun h'=>(.sl b off (len+new.length) cap o,h')
       else bif zl ((3*(len+new.length)+2000)*i.bytes) 562949953421312 then
        match src h i.size x len with
        |some old=>
         bif zf o 0 then some (.sl h.nx 0 (len+new.length) (len+new.length) i.size,IU h e<|old++cs)
         else
          match h.get b with
          |some (.cells _ te fz)=>
           bif zf off 0&&zf o i.size&&zf te e&&zl fz.2 fz.1&&cs.all V.one then some (.sl h.nx 0 (len+new.length) (len+new.length) i.size,(h.kill b).push<|.cells (old++cs) e (0,0))
           else none
          |_=>none
        |none=>none
       else none
      |_=>none):=by
   intro hc;obtain⟨g1,g2,cs,O,g4⟩:=cD hr hy hel hc;rw[<-e4]at O;refine⟨cs,O,g4,?_⟩;have hcond:(zr 0 i.bytes&&zr 0 i.size&&zf i.zero.length i.size&&(zf i.size 1||Qk y))=true:=by
    rw[c1,c2,c3];rcases g2 with g2|g2
    ·rw[e4,g2];rfl
    ·rw[g2,yz];rfl
   have hint:isInt ex=false:=by cases ex<;>first|rfl|cases hss
   simp only[GQ,hts,htx,hu,hux,g1,hi,hint,hcond,we,O];cases x<;>rfl
  split at d
  case h_3=>simp at d
  case h_1=>
   simp only[PR]at hx;subst hx;have R:c=true->0<new.length->(3*new.length+2000)*i.bytes<=oP->OK B h0 F ρ st h (F6 [PV.nil,q]) (FG<|GQ C.T h ts [.nils,y]) (.sl st.nx s.sz 0 new.length none) (st.push<|.arr false e s new):=by
    intro E k2 Z;obtain⟨cs,g1,g2,O⟩:=head E;have b1:zf new.length 0=false:=by rw[Bt];simp;intro e;rw[e]at k2;simp at k2
    have b2:zl ((3*new.length+2000)*i.bytes) 562949953421312=true:=zi Z;rw[O];simp only[b1,b2,wg,we];exact OK.new hr (o:=.arr false e s new) (n:=new.length) rfl ⟨_,_,rfl,g2,ze _,rfl⟩ (PE<|.inr e4)
   have same:c=true->new.length=0->OK B h0 F ρ st h (F6 [PV.nil,q]) (FG<|GQ C.T h ts [.nils,y]) .nil st:=by
    intro E k2;obtain⟨cs,g1,g2,O⟩:=head E;have b1:zf new.length 0=true:=by rw[k2];rfl
    rw[O];simp only[b1,we];exact⟨.nils,h,F,ρ,.inl rfl,by simp[PR],hr,yf,rfl,rfl,ze _,fun _ _=>.inl rfl⟩
   split at d
   case h_1=>
    simp only[AW]at d;obtain⟨rfl,rfl⟩:=d;simp only[Pw,Ow,lz,zj,z8]at hel;obtain⟨rfl,rfl⟩:=hel;exact same rfl rfl
   case h_2=>
    have hc':c=true:=by
     exact eH hel
    by_cases U:0<new.length
    ·rw[w4 U]at d;cases d with
     |tt d=>
      simp only[BT,zc,w5]at d;obtain⟨⟨E,Z⟩,rfl,rfl⟩:=d;exact R E U Z
    ·rw[w8 U]at d;cases d with
     |ff d=>
      simp only[AW]at d;obtain⟨rfl,rfl⟩:=d;exact same hc' (by omega)
   case h_3=>
    by_cases U:0<new.length
    ·rw[w4 U]at d;cases d with
     |tt d=>
      simp only[BT,zc,w5]at d;obtain⟨⟨E,Z⟩,rfl,rfl⟩:=d;exact R E U Z
    ·rw[w8 U]at d;cases d with
     |ff d=>
      simp only[BT]at d;obtain⟨E,rfl,rfl⟩:=d;exact same E (by omega)
   case h_4=>
    simp only[BT,zc,w5]at d;obtain⟨⟨⟨E,k2⟩,Z⟩,rfl,rfl⟩:=d;exact R E k2 Z
  case h_2=>
   rename_i id sz off len cap;split at d
   case h_2=>simp at d
   rename_i e' f l ho;split at d
   case h_2=>simp at d
   rename_i l' hl';obtain⟨ecast,hcast⟩:=CM hl';have es:f=s:=by cases ecast;rfl
   subst es;have:l'=l:=by have:=hcast;cases this;rfl
   subst this;cases Y:(zf e e'&&zf sz f.sz)with
   |false=>rw[Y]at d;simp at d
   |true=>
    rw[Y]at d;simp only[zc]at Y;have ee:=zd Y.1;have esz:=zd Y.2;subst ee;subst esz;simp only[we]at d;split at d
    case h_2=>
     rename_i k;simp only[BT,zc,w5]at d;obtain⟨⟨⟨E,k2⟩,Z⟩,rfl,rfl⟩:=d;obtain⟨cs,g1,g2,O⟩:=head E;obtain⟨b,n,z,h1,h2,⟨bs,fz,rfl,h3,h4,h5⟩,h6,_⟩:=hr.at ho;simp only[PR]at hx;rw[O];have K:cs.all V.one=true:=g2.Uz;have hcl:cs.length=new.length*f.sz:=g2.1;have D:=h3.1;have hle:(off+len+new.length)*f.sz<=l'.length*f.sz:=zh _ (by omega);have hexp:(off+len+new.length)*f.sz=off*f.sz+len*f.sz+new.length*f.sz:=by rw[zp,zp]
     have hsp:=Ey.hH h3 g2 (a:=off+len) (by omega);have G:(l'.take (off+len)++(new++l'.drop (off+len+new.length))).length=l'.length:=by simp;omega
     rcases hx.2 b n h1 with⟨_,g6,o,g5,rfl⟩|⟨e0,ek,g6,g7⟩
     ·simp only[yh]at g6;have hw:wr h b (off*f.sz+len*i.size) cs=some (h.put b<|.cells (CG ((off+len)*f.sz) cs bs) e fz):=by
       rw[Np h2 (by rw[e4,hcl,D];omega) h4 K,e4, <-zp]
      have b1:zl (len+new.length) k=true:=zi k2;refine⟨.sl b (off*f.sz) (len+new.length) k o,h.put b<|.cells (CG ((off+len)*f.sz) cs bs) e fz,F,ρ,.inl ?_,?_,hr.set ho h1 h2 rfl rfl (o':=.arr false e f _) ⟨_,fz,rfl,hsp,h4,G.trans h5⟩,yf,rfl,rfl,ze _,fun c _=>?_⟩
      ·simp only[yh,b1,we,hw,zq,FG]
      ·simp only[PR];refine⟨hx.1,fun b' n' P=>.inl ?_⟩;rw[h1]at P;cases P;exact⟨by simpa using k2,by simpa using g6,o,g5,rfl⟩
      ·rw[H.Bq];by_cases e:c=b
       ·exact .inr ⟨id,by simp[F6],n,e▸h1⟩
       ·rw[wc e];exact .inl rfl
     ·cases ek;subst e0;have hn0:new.length=0:=by omega
      have I:new=[]:=zo.1 hn0;subst I;have hcs:cs=[]:=zo.1 (by rw[hcl];simp);subst hcs;have hlp:CG ((off+0)*f.sz) [] bs=bs:=Px (by rw[D];have:=zh f.sz (show off+0<=l'.length by omega);exact this);have A:∀c,(h.put b<|.cells (CG ((off+0)*f.sz) [] bs) e fz).get c=h.get c:=by
       intro c;rw[hlp,H.Bq];by_cases e:c=b
       ·rw[wd e,e,h2]
       ·rw[wc e]
      have hset:=hr.set ho h1 h2 rfl rfl (o':=.arr false e f _) (x':=.cells (CG ((off+0)*f.sz) [] bs) e fz) ⟨_,fz,rfl,hsp,h4,G.trans h5⟩;have S:SR B h0 F ρ st.nx (DR st.ob id<|.arr false e f<|l'.take (off+0)++([]++l'.drop (off+0+0))) h:=
       SR.congr (st:=⟨st.n,st.fr,DR st.ob id _,st.nx⟩) hset (fun c=>(A c).symm) rfl
      have hpr:∀w,(w=.esl\/∃r,w=.sl b r 0 0 0/\r<=off*f.sz)->PR F ρ st.nx (.sl id f.sz off (Nat.add 0 0)<|some 0) w:=by
       intro w hw;simp only[PR];refine⟨hx.1,fun b' n' P=>.inr ?_⟩;rw[h1]at P;cases P;exact⟨by simp,by simp,g6,hw⟩
      rcases g7 with rfl|⟨r,rfl,hoff'⟩
      ·exact⟨.esl,h,F,ρ,.inl rfl,hpr _<|.inl rfl,S,yf,rfl,rfl,ze _,fun _ _=>.inl rfl⟩
      ·have hob:r<=bs.length:=by
        have h7:off*f.sz<=l'.length*f.sz:=zh _ (by omega);omega
       have hw:wr h b (r+0*i.size) []=some (h.put b<|.cells (CG (r+0*i.size) [] bs) e fz):=Np h2 (by simpa using hob) h4 rfl;have M:∀c,(h.put b<|.cells (CG (r+0*i.size) [] bs) e fz).get c=h.get c:=by
        intro c;rw[Px (by simpa using hob),H.Bq];by_cases e:c=b
        ·rw[wd e,e,h2]
        ·rw[wc e]
       refine⟨.sl b r 0 0 0,h.put b<|.cells (CG (r+0*i.size) [] bs) e fz,F,ρ,.inl ?_,hpr _<|.inr ⟨r,rfl,hoff'⟩,SR.congr (st:=⟨st.n,st.fr,DR st.ob id _,st.nx⟩) S M rfl,yf,rfl,rfl,ze _,fun c _=>.inl<|M c⟩;simp only[yd,Nat.add_zero,show zl 0 0=true from rfl,we,hw,zq,FG]
    simp only[BT,zc,w5]at d;obtain⟨⟨⟨⟨E,k2⟩,Z⟩,k4⟩,rfl,rfl⟩:=d;subst k2;obtain⟨cs,g1,g2,O⟩:=head E;obtain⟨b,n,z,h1,h2,⟨bs,fz,rfl,h3,h4,h5⟩,h6,_⟩:=hr.at ho;have hFb:=h6 rfl;simp only[PR]at hx;have hB:=(hr.own id b n h1).2;have hPb:b∉h0.pin:=fun hp=>(hr.pn b hp).2.2 id n h1
    have hidN:=(hr.own id b n h1).1;obtain⟨_,_,o,g5,rfl⟩:len<=len/\0+len<=n/\∃o,(o=0\/o=f.sz)/\x=.sl b (0*f.sz) len len o:=by
     rcases hx.2 b n h1 with g|⟨_,e,_⟩
     ·exact g
     ·cases e
    have D:bs.length=len*i.size:=by rw[h3.1,Z,e4]
    have W:∀j oj m,AP (GS st.ob id) j=some oj->BV ρ id none j≠some (b,m):=by
     intro j oj m hj hjr;rw[Ej]at hj;split at hj
     ·cases hj
     ·rename_i hne;simp only[BV,hne,vg]at hjr;exact hne<|hr.inj j id oj _ b m n hj ho hjr h1
    have L:=hr.del id;have hle1:Le F ρ st.nx F (BV ρ id none) st.nx:=Le.Oh id;have hnew:Ey F f (l'++new) (bs++cs):=h3.append g2;have G:(l'++new).length=len+new.length:=by rw[List.length_append, <-Z]
    have K:cs.all V.one=true:=g2.Uz;rw[O];simp only;by_cases U:new.length=0
    ·
     have I:new=[]:=zo.1 U;have hcs:cs=[]:=zo.1 (by rw[g2.1,U,zu]);subst hcs;have b1:zl (len+new.length) len=true:=zi (by omega);have hw:wr h b (0*f.sz+len*i.size) []=some (h.put b<|.cells (CG (0*f.sz+len*i.size) [] bs) e fz):=Np h2 (by rw[D];simp) h4 rfl;have A:∀c,(h.put b<|.cells (CG (0*f.sz+len*i.size) [] bs) e fz).get c=h.get c:=by
      intro c;rw[Px (by rw[D];simp),H.Bq];by_cases e:c=b
      ·rw[wd e,e,h2]
      ·rw[wc e]
     refine⟨.sl b (0*f.sz) (len+new.length) len o,h.put b<|.cells (CG (0*f.sz+len*i.size) [] bs) e fz,F,BV (BV ρ id none) st.nx<|some (b,n),.inl ?_,?_,?_,hle1.trans<|Le.new _,rfl,rfl,ze _,fun c _=>.inl<|A c⟩
     ·simp only[b1,we,hw,zq,FG]
     ·unfold PR;refine⟨zz _,fun b' n' hb=>.inl ?_⟩;simp[BV]at hb;obtain⟨rfl,rfl⟩:=hb;refine⟨ze _,?_,o,g5,?_⟩
      ·show 0+(len+new.length)<=n;omega
      ·show V.sl b (0*f.sz) (len+new.length) len o=.sl b (0*f.sz) (len+new.length) (len+new.length) o;rw[U];rfl
     ·refine SR.gG (ob:=GS st.ob id) ?_ (x:=.cells bs e fz) ((A b).trans h2) W hFb hB hPb rfl ⟨bs,fz,rfl,?_,h4,?_⟩
      ·exact SR.congr (st:=⟨st.n,st.fr,GS st.ob id,st.nx⟩) L A rfl
      ·rw[I,List.append_nil];exact h3
      ·rw[I,List.append_nil];exact h5
    ·
     have b1:zl (len+new.length) len=false:=by
      cases hb:zl (len+new.length) len with
      |false=>rfl
      |true=>have:=Nat.le_of_ble_eq_true hb;omega
     have b2:zl ((3*(len+new.length)+2000)*i.bytes) 562949953421312=true:=zi k4;have hsrc:src h i.size (.sl b (0*f.sz) len len o) len=some bs:=by
      show rd h b (0*f.sz) (len*i.size)=_;rw[rd_some h2 (by rw[D,zu];omega)<|fun u hu=>h3.ok u<|List.mem_of_mem_drop<|List.mem_of_mem_take hu];rw[zu,yg, <-D,List.take_length]
     simp only[b1,b2,wg,we,hsrc];have fin:∀ {J:H},SR B h0 F (BV ρ id none) st.nx (GS st.ob id) J->J.nx=h.nx->(∀c,c≠b->J.get c=h.get c)->
       OK B h0 F ρ st h [id] (FG<|some (.sl h.nx 0 (len+new.length) (len+new.length) i.size,J.push<|.cells (bs++cs) e (0,0))) (.sl st.nx f.sz 0 (Nat.add len new.length) none) ((st.OP id).push<|.arr false e f<|l'++new):=by
      intro J hr1 hnx hg;have hp:=hr1.push (o:=.arr false e f<|l'++new) (x:=.cells (bs++cs) e (0,0)) (n:=len+new.length) rfl ⟨_,_,rfl,hnew,ze _,G⟩;refine⟨_,_,F,_,.inl rfl,?_,hp,hle1.trans<|Le.new _,rfl,rfl,by show h.nx<=J.nx+1;omega,fun c hc=>?_⟩
      ·rw[<-hnx];exact PE<|.inr e4
      ·rw[H.BP,wc<|by omega];by_cases e:c=b
       ·exact .inr ⟨id,zk.2 rfl,n,e▸h1⟩
       ·exact .inl<|hg c e
     rcases g5 with rfl|rfl
     ·simp only[z7,we];exact fin L rfl (fun _ _=>rfl)
     ·have b3:zf f.sz 0=false:=by
       rw[<-e4];cases hb:zf i.size 0 with
       |false=>rfl
       |true=>have:=zd hb;rw[this]at c2;cases c2
      have b4:(zf (0*f.sz) 0&&zf f.sz i.size&&zf e e&&zl fz.2 fz.1&&cs.all V.one)=true:=by
       rw[zu,e4,K,zi h4];simp
      simp only[b3,wg,h2,b4,we];exact fin (L.kill W hFb hB hPb) rfl (fun c hc=>by rw[H.Ck,wc hc])
theorem Fy:∀ {s:Sh} {x:s.T} {v:V},DV F s x v->PR F ρ N (Cm s x) v
 | .pair a b,x,v,h=>by obtain⟨cs,rfl,c⟩:=h.1 rfl;unfold Cm PR;exact⟨cs,rfl,De c⟩
 | .unit,x,v,h=>by obtain⟨cs,rfl,c⟩:=h.1 rfl;simp only[DC]at c;subst c;unfold Cm PR;exact⟨[],rfl,by simp⟩
 | .int _,x,v,h=>by have:=h.2 rfl;unfold Cm PR;exact this
 | .bool,x,v,h=>by have:=h.2 rfl;unfold Cm PR;exact this
 | .str,x,v,h=>by have:=h.2 rfl;unfold Cm PR;exact this
 | .list _,x,v,h=>by have:=h.2 rfl;unfold Cm PR;exact this
 | .nlist _,x,v,h=>by have:=h.2 rfl;unfold Cm PR;exact this
 | .fnv,x,v,h=>by
  have:=h.2 rfl;simp only[DC,yi,ve]at this;subst this;unfold Cm;cases (x:Option Fn)<;>simp[PR]
 | .ptr s,x,v,h=>by
  have:=h.2 rfl;simp only[DC]at this;obtain⟨b,o,f,c,d,g,e⟩:=this;unfold Cm PR;exact⟨b,o,f,List.singleton_inj.1 c,d,g,e⟩
theorem qX{s:Sh}{p:PV}{x:s.T}{v:V}(hp:PR F ρ N p v)(b:asV s p=some x):DV F s x v:=by
 unfold asV at b;cases a:(Mr p==s.Q4)with
 |false=>rw[a]at b;cases b
 |true=>
  rw[a]at b;simp only[we]at b;have a:Mr p=s.Q4:=by simpa using a
  refine⟨fun e=>?_,fun e=>?_⟩
  ·rw[e]at a;cases p<;>simp only[Mr]at a<;>try (cases a;done)
   rename_i l;simp only[PR]at hp;obtain⟨cs,rfl,c⟩:=hp;exact⟨cs,rfl,C3 c b⟩
  ·rw[e]at a;have:p.cells=[p]:=by cases p<;>first|rfl|(simp[Mr]at a)
   rw[this]at b;exact C3 (by simpa using hp) b
theorem pX{T:Cc}{t:TypeId}{s:Sh}(h:uW T t=some s):(∃k,s=.int k/\T.und t=some (.int k))\/(s=.str/\T.und t=some .string)\/(s=.bool/\T.und t=some .bool):=by
 unfold uW at h;split at h
 ·rename_i k a;cases h;exact .inl ⟨k,rfl,a⟩
 ·rename_i a;cases h;exact .inr<|.inl ⟨rfl,a⟩
 ·rename_i a;cases h;exact .inr<|.inr ⟨rfl,a⟩
 ·cases h
theorem XT{T:Cc}{t:TypeId}{s:Sh}(b:uW T t=some s){p:PV}{x:s.T}{v:V}(hp:PR F ρ N p v)(a:uT s p=some x):DV F s x v:=by
 have:=GF hp a;rcases pX b with⟨k,rfl,_⟩|⟨rfl,_⟩|⟨rfl,_⟩<;>exact⟨fun e=>(by cases e),fun _=>this⟩
theorem Tx{T:Cc}{t:TypeId}{s:Sh}(g:uW T t=some s){x:s.T}{v:V}(e:DV F s x v):∃d,T.und t=some d/\IE T t d v=true/\(∀es,Ku T t v es=Md T t v es 0)/\∀y u,DV F s y u->iU T t v u=some (XU s x y):=by
 rcases pX g with⟨k,rfl,a⟩|⟨rfl,a⟩|⟨rfl,a⟩<;>
 ·have b:=e.2 rfl;simp only[DC,yi,ve]at b;subst b;refine⟨_,a,rfl,fun _=>rfl,fun y u f=>?_⟩;have c:=f.2 rfl;simp only[DC,yi,ve]at c;subst c;simp[iU,a,XU]
theorem QS{T:Cc}{t:TypeId}{ks vs:Sh}(J:uW T t=some ks){k:ks.T}{p:V}(w:DV F ks k p):∀ {l:List (ks.T×vs.T)} {es:List (V×V×Nat)},MR F ks vs l es->∀i,∃r,Md T t p es i=some r/\
  (match r with
   |none=>EL ks vs k l=none/\Um ks vs k l=l/\∀x f c,DV F vs x f->MR F ks vs (Ix ks vs k x l) (es++[(p,f,c)])
   |some (j,u)=>(∃v,EL ks vs k l=some v/\DV F vs v u)/\i<=j/\MR F ks vs (Um ks vs k l) (es.eraseIdx<|j-i)/\∀x f,DV F vs x f->MR F ks vs (Ix ks vs k x l) (XS es (j-i) p f)):=by
 intro l es M;induction M with
 |nil=>intro i;exact⟨none,rfl,rfl,rfl,fun x f c m=>.cons w m .nil⟩
 |@cons a b l O G n es q o A I=>
  intro i;obtain⟨d,_,_,_,z⟩:=Tx J w;have z:=z a O q;unfold Md;rw[z];cases g:XU ks k a with
  |true=>
   refine⟨some (i,G),rfl,⟨b,by simp[EL,g],o⟩,ze _,?_,fun x f m=>?_⟩
   ·simp only[yk,List.eraseIdx_cons_zero,Um,g,we];exact A
   ·simp only[yk,Ix,g,we,XS,List.modify_zero_cons];exact .cons w m A
  |false=>
   obtain⟨r,L,D⟩:=I<|i+1;refine⟨r,L,?_⟩;cases r with
   |none=>
    obtain⟨s,y,E⟩:=D;refine⟨by simp only[EL,g,wg];exact s,by simp only[Um,g,wg,y],fun x f c m=>?_⟩;simp only[Ix,g,wg,List.cons_append];exact .cons q o<|E x f c m
   |some K=>
    obtain⟨j,u⟩:=K;obtain⟨⟨v,s,y⟩,E,k4,k5⟩:=D;have e:j-i=(j-(i+1))+1:=by omega
    refine⟨⟨v,by simp only[EL,g,wg];exact s,y⟩,by omega,?_,fun x f m=>?_⟩
    ·rw[e];simp only[List.eraseIdx_cons_succ,Um,g,wg];exact .cons q o k4
    ·rw[e];simp only[Ix,g,wg,XS,List.modify_succ_cons];exact .cons q o<|k5 x f m
theorem xK(hr:SR B h0 F ρ st.nx st.ob h){t:TypeId}{v:PV}(a:(Xp C.T t st).To v st'):OK B h0 F ρ st h [] (FG<|IL h none) v st':=by
 unfold Xp at a;split at a
 case h_2=>simp at a
 split at a
 case h_2=>simp at a
 rename_i ks vs e d;simp only[AW]at a;obtain⟨rfl,rfl⟩:=a;refine OK.new hr (o:=.map ks vs []) (x:=.map [] 0) (n:=0) rfl ⟨[],0,rfl,.nil⟩ ?_;unfold PR;exact⟨zz _,fun b m c=>by simp[BV]at c;rw[c.1]⟩
theorem dG(hr:SR B h0 F ρ st.nx st.ob h){ks vs:Sh}{m:PV}{l:List (ks.T×vs.T)}{x:V}(c:PR F ρ st.nx m x)(a:pF st ks vs m=some l):∃es,entries h x=some es/\MR F ks vs l es:=by
 unfold pF at a;split at a
 ·cases a;simp only[PR]at c;subst c;exact⟨[],rfl,.nil⟩
 ·rename_i id;split at a
  case h_2=>cases a
  rename_i g d l' i;obtain⟨e,f⟩:=CM a;simp only[Sh.list.injEq,Sh.pair.injEq]at e;obtain⟨rfl,rfl⟩:=e;obtain rfl:l'=l:=f;obtain⟨b,n,o,h1,h2,⟨es,clk,rfl,h4⟩,_⟩:=hr.at i;simp only[PR]at c;obtain rfl:=c.2 b n h1;exact⟨es,by simp[entries,h2],h4⟩
 ·cases a
theorem oM{ks vs:Sh}{ok:Bool}{z:vs.T}{x:ks.T}:∀ {l:List (ks.T×vs.T)} {v:PV},(plk ks vs ok z x st l).To v st'->st=st'/\((EL ks vs x l=none/\v=bif ok then .tup [Cm vs z,.bl false]else Cm vs z)\/∃w,EL ks vs x l=some w/\v=bif ok then .tup [Cm vs w,.bl true]else Cm vs w)
 |[],v,d=>by
  unfold plk at d;simp only[AW]at d;exact⟨d.2,.inl ⟨rfl,d.1.symm⟩⟩
 |(a,b)::l,v,d=>by
  unfold plk at d;generalize f:XU ks x a=c at d;cases d with
  |tt d=>
   simp only[AW]at d;exact⟨d.2,.inr ⟨b,by simp[EL,f],d.1.symm⟩⟩
  |ff d=>
   obtain⟨g,i⟩:=oM d;have e:EL ks vs x ((a,b)::l)=EL ks vs x l:=by simp[EL,f]
   rw[e];exact⟨g,i⟩
theorem mX(hr:SR B h0 F ρ st.nx st.ob h){t:TypeId}{p q:PV}{x y:V}(S:PR F ρ st.nx p x)(W:PR F ρ st.nx q y){ok:Bool}{v:PV}(a:(S0 C.T t p q ok st).To v st'):OK B h0 F ρ st h [] (BE h<|Fj C.T h t x y ok) v st':=by
 unfold S0 at a;split at a
 case h_2=>simp at a
 rename_i kt e U;split at a
 case h_2=>simp at a
 rename_i ks vs i g P I;split at a
 case h_2=>simp at a
 rename_i k l z Y K L;cases b:(vAg i.zv==vs.Q4)with
 |false=>rw[b]at a;simp at a
 |true=>
  rw[b]at a;simp only[we]at a;have m:=XT g W Y;obtain⟨es,M,Z⟩:=dG hr S K;obtain⟨kd,g1,g2,g3,_⟩:=Tx g m;obtain⟨r,r1,r2⟩:=QS g m Z 0;have f:DV F vs z i.zv:=by
   have A:DC F vs z i.zv.cells:=C3 (EM (F:=F) (ρ:=ρ) (N:=st.nx) i.zero) L;have b:vAg i.zv=vs.Q4:=by simpa using b
   refine⟨fun e=>?_,fun e=>?_⟩
   ·rw[e]at b;cases c:i.zv<;>rw[c]at b<;>simp only[vAg]at b<;>try (cases b;done)
    rw[c]at A;exact⟨_,rfl,A⟩
   ·rw[e]at b;have:i.zv.cells=[i.zv]:=by cases c:i.zv<;>rw[c]at b<;>first|rfl|(simp[vAg]at b)
    rw[<-this];exact A
  unfold Fj;simp only[U,g1,M,g2,we,g3,r1];cases J:vs.uR with
  |true=>
   rw[J]at a;simp only[we]at a;have s:=oM a;obtain⟨R,D⟩:=s;subst R;rcases D with⟨O,c⟩|⟨w,G,c⟩
   ·cases r with
    |none=>
     simp only[I];cases ok with
     |true=>exact zg hr rfl (by rw[c];simp only[we,PR];exact⟨_,rfl,_,_,rfl,Fy f,_,_,rfl,by simp[PR],rfl⟩)
     |false=>exact zg hr rfl (by rw[c];exact Fy f)
    |some E=>
     obtain⟨⟨v',d,_⟩,_⟩:=r2;rw[O]at d;cases d
   ·cases r with
    |none=>rw[r2.1]at G;cases G
    |some E=>
     obtain⟨⟨v',d,o⟩,_⟩:=r2;rw[G]at d;cases d;cases ok with
     |true=>exact zg hr rfl (by rw[c];simp only[we,PR];exact⟨_,rfl,_,_,rfl,Fy o,_,_,rfl,by simp[PR],rfl⟩)
     |false=>exact zg hr rfl (by rw[c];exact Fy o)
  |false=>
  rw[J]at a;simp only[wg,AW]at a;obtain⟨rfl,rfl⟩:=a;cases r with
  |none=>
   obtain⟨d,_⟩:=r2;simp only[I,d,Option.getD_none,Option.isSome_none];cases ok with
   |true=>exact zg hr rfl (by simp only[we,PR];exact⟨_,rfl,_,_,rfl,Fy f,_,_,rfl,D4 _,rfl⟩)
   |false=>exact zg hr rfl (Fy f)
  |some E=>
   obtain⟨j,u⟩:=E;obtain⟨⟨v,d,o⟩,_⟩:=r2;simp only[d,yh,Option.isSome_some];cases ok with
   |true=>exact zg hr rfl (by simp only[we,PR];exact⟨_,rfl,_,_,rfl,Fy o,_,_,rfl,D4 _,rfl⟩)
   |false=>exact zg hr rfl (Fy o)
theorem gX(hr:SR B h0 F ρ st.nx st.ob h){t:TypeId}{p q r:PV}{x y z:V}(M:PR F ρ st.nx p x)(O:PR F ρ st.nx q y)(E:PR F ρ st.nx r z){v:PV}(f:(TZ C.T t p q r st).To v st'):
  ∃id,p=.mp id/\OK B h0 F ρ st h [id] (hZ<|HH C.T h t x y z) v st':=by
 unfold TZ at f;split at f
 case h_2=>simp at f
 rename_i S e id I;split at f
 case h_2=>simp at f
 rename_i ks d vs l i A;split at f
 case h_2=>simp at f
 rename_i k G w P K J;obtain⟨u,L⟩:=CM K;simp only[Sh.list.injEq,Sh.pair.injEq,ve]at u;subst u;obtain rfl:l=G:=L;simp only[AW]at f;obtain⟨rfl,rfl⟩:=f;have j:=XT i O P;have m:=qX E J;obtain⟨b,n,o,h1,h2,⟨es,clk,rfl,h4⟩,_⟩:=hr.at A;have s:=M;simp only[PR]at s;obtain rfl:=s.2 b n h1;obtain⟨kd,g1,g2,g3,_⟩:=Tx i j;obtain⟨r',r1,r2⟩:=QS i j h4 0;refine⟨id,rfl,?_⟩;have fin:∀g a,MR F d vs (Ix d vs k w l) g->OK B h0 F ρ st h [id] (hZ<|some<|h.put b<|.map g a) (.tup []) (st.setObj id<|.map d vs<|Ix d vs k w l):=by
  intro g a R;refine⟨.tup [],_,F,ρ,.inr ⟨rfl,rfl⟩,by simp[PR],hr.set A h1 h2 rfl rfl ⟨g,a,rfl,R⟩,yf,rfl,rfl,ze _,fun c _=>?_⟩;by_cases D:c=b
  ·exact .inr ⟨id,zk.2 rfl,n,D▸h1⟩
  ·exact .inl (by rw[H.Bq,wc D])
 unfold HH;simp only[I,g1,h2,g2,we,g3,r1];cases r' with
 |none=>exact fin _ _<|r2.2.2 w z clk m
 |some U=>exact fin _ _<|r2.2.2.2 w z m
theorem lI(hr:SR B h0 F ρ st.nx st.ob h){ts:Array TypeId}{ps:List PV}{xs:List V}(s:Bf F ρ st.nx ps xs){v:PV}(a:(Ud C.T ts ps st).To v st'):
  ∃id z,ps=.mp id::z/\OK B h0 F ρ st h [id] (FG<|LD C.T h ts xs) v st':=by
 unfold Ud at a;split at a
 case h_2=>simp at a
 rename_i t id q j;split at a
 case h_2=>simp at a
 rename_i I e D;split at a
 case h_2=>simp at a
 rename_i ks d vs l g p;split at a
 case h_2=>simp at a
 rename_i k A E u;obtain⟨m,w⟩:=CM u;simp only[Sh.list.injEq,Sh.pair.injEq,ve]at m;subst m;obtain rfl:l=A:=w;simp only[AW]at a;obtain⟨rfl,rfl⟩:=a;simp only[Bf]at s;obtain⟨x,xs',rfl,hx1,y,xs'',rfl,hy,rfl⟩:=s;have i:=XT g hy E;obtain⟨b,n,o,h1,h2,⟨es,clk,rfl,h4⟩,_⟩:=hr.at p;obtain rfl:=hx1.2 b n h1;obtain⟨kd,g1,g2,g3,_⟩:=Tx g i;obtain⟨r',r1,r2⟩:=QS g i h4 0;refine⟨id,_,rfl,?_⟩;have fin:∀f,MR F d vs (Um d vs k l) f->OK B h0 F ρ st h [id] (FG<|some (.tup [],h.put b<|.map f clk)) (.tup []) (st.setObj id<|.map d vs<|Um d vs k l):=by
  intro f G;refine⟨.tup [],_,F,ρ,.inl rfl,by simp[PR],hr.set p h1 h2 rfl rfl ⟨f,clk,rfl,G⟩,yf,rfl,rfl,ze _,fun c _=>?_⟩;by_cases r:c=b
  ·exact .inr ⟨id,zk.2 rfl,n,r▸h1⟩
  ·exact .inl (by rw[H.Bq,wc r])
 unfold LD;simp only[j,D,g1,h2,g2,we,g3,r1];cases r' with
 |none=>exact fin es (by rw[r2.2.1];exact h4)
 |some J=>
  have:=r2.2.2.1;simp only[Nat.sub_zero]at this;exact fin _ this
theorem SR.same(hr:SR B h0 F ρ st.nx st.ob h){id b n:Nat}{o o':Obj}{x:O}(k:st.obj id=some o)(g:ρ id=some (b,n))(f:h.get b=some x)(i:o.frozen=false)(d:o'.frozen=false)
  (j:YE F ρ st.nx n o' x):SR B h0 F ρ st.nx (DR st.ob id o') h:=by
 have a:∀c,h.get c=(h.put b x).get c:=by
  intro c;rw[H.Bq];by_cases e:c=b
  ·rw[wd e,e,f]
  ·rw[wc e]
 exact SR.congr (st:=⟨st.n,st.fr,DR st.ob id o',st.nx⟩) (hr.set k g f i d j) a rfl
theorem uF(hr:SR B h0 F ρ st.nx st.ob h){ts:Array TypeId}{ps:List PV}{xs:List V}(j:Bf F ρ st.nx ps xs){v:PV}(d:(X8 C.T ts ps st).To v st'):OK B h0 F ρ st h (F6 ps) (FG<|Gx C.T h ts xs) v st':=by
 unfold X8 at d;split at d
 case h_2=>simp at d
 rename_i t p g;simp only[Bf]at j;obtain⟨x,_,rfl,j,rfl⟩:=j;split at d
 case h_2=>simp at d
 rename_i e q;split at d
 case h_3=>simp at d
 case h_1=>
  simp only[AW]at d;obtain⟨rfl,rfl⟩:=d;simp only[PR]at j;subst j;exact⟨.tup [],h,F,ρ,.inl (by simp[Gx,g,q,FG]),by simp[PR],hr,yf,rfl,rfl,ze _,fun _ _=>.inl rfl⟩
 rename_i id sz off len cap;split at d
 case h_2=>simp at d
 rename_i i r s l P A;cases u:(zf sz s.sz&&zr 0 i.zero.length&&zf i.zero.length s.sz&&Det.Ly V.one i.zero)with
 |false=>rw[u]at d;simp at d
 |true=>
  rw[u]at d;simp only[zc,FU]at u;obtain⟨⟨⟨D,O⟩,G⟩,Y⟩:=u;have D:=zd D;have G:=zd G;subst D;simp only[we]at d;split at d
  case h_2=>simp at d
  rename_i z L;simp only[BT,w5]at d;obtain⟨I,rfl,rfl⟩:=d;obtain⟨b,n,y,h1,h2,⟨bs,fz,rfl,h3,h4,h5⟩,h6,_⟩:=hr.at A;have w:DC F s z i.zero:=C3 (EM (F:=F) (ρ:=ρ) (N:=st.nx) i.zero) L;have f:=Ey.replicate w len;have m:=Ey.hH h3 f (a:=off) (by simpa using I);rw[ya]at m;have k:(l.take off++(zn len z++l.drop (off+len))).length=l.length:=by simp;omega
  have skip:Gx C.T h ts [x]=some (.tup [],h)->len=0->OK B h0 F ρ st h (F6 [.sl id s.sz off len cap]) (FG<|Gx C.T h ts [x]) (.tup []) (st.setObj id<|.arr false r s<|l.take off++(zn len z++l.drop (off+len))):=by
   intro R h0;subst h0;have el:l.take off++(zn 0 z++l.drop (off+0))=l:=by simp
   refine⟨.tup [],h,F,ρ,.inl (by rw[R];rfl),by simp[PR],hr.same A h1 h2 rfl rfl (o':=.arr false r s _) ⟨bs,fz,rfl,?_,h4,?_⟩,yf,rfl,rfl,ze _,fun _ _=>.inl rfl⟩
   ·rw[el];exact h3
   ·rw[el];exact h5
  simp only[PR]at j;rcases j.2 b n h1 with⟨_,K,o,W,rfl⟩|⟨J,U,K,rfl|⟨E,rfl,_⟩⟩
  ·by_cases h0:len=0
   ·exact skip (by simp[Gx,g,q,h0]) h0
   ·have S:wr h b (off*s.sz) (Fp i.zero<|len*i.zero.length)=some (h.put b<|.cells (CG (off*s.sz) ((zn len i.zero).flatten) bs) r fz):=by
     rw[HO];refine Np h2 ?_ h4 ?_
     ·rw[f.1,ya, <-zp,h3.1];exact zh _ I
     ·exact f.Uz
    have M:zf len 0=false:=by rw[Bt];simp[h0]
    refine⟨.tup [],h.put b<|.cells (CG (off*s.sz) ((zn len i.zero).flatten) bs) r fz,F,ρ,.inl ?_,by simp[PR],hr.set A h1 h2 rfl rfl (o':=.arr false r s _) ⟨_,fz,rfl,m,h4,k.trans h5⟩,yf,rfl,rfl,ze _,fun c _=>?_⟩
    ·simp only[Gx,g,q,M,wg,P,O,we,S,zq,FG]
    ·rw[H.Bq];by_cases e:c=b
     ·exact .inr ⟨id,by simp[F6],n,e▸h1⟩
     ·rw[wc e];exact .inl rfl
  ·exact skip (by simp[Gx,g,q]) J
  ·exact skip (by simp[Gx,g,q]) J
theorem vD(hr:SR B h0 F ρ st.nx st.ob h){t:TypeId}{p:PV}{x:V}(c:PR F ρ st.nx p x){v:PV}(a:(XR C.T t p st).To v st'):OK B h0 F ρ st h [] (FG<|Ie C.T h t x) v st':=by
 unfold XR at a;split at a
 case h_2=>simp at a
 rename_i s d;simp only[AW]at a;obtain⟨rfl,rfl⟩:=a;obtain rfl:=FI c;have b:Ie C.T h t (.str s)=some (.ptr h.nx 0,h.push<|.siter s 0):=by simp[Ie,Ta,d]
 rw[b];exact OK.new hr (o:=.siter s 0) (n:=0) rfl rfl LH
theorem AbK(hr:SR B h0 F ρ st.nx st.ob h){p:PV}{x:V}(j:PR F ρ st.nx p x){i:Bool}{v:PV}(a:(oN p i st).To v st'):i=true/\∃id off,p=.ptr id off/\OK B h0 F ρ st h [id] (FG<|ND h x i) v st':=by
 unfold oN at a;split at a
 case h_2=>simp at a
 rename_i id;split at a
 case h_2=>simp at a
 rename_i s pos g;obtain⟨b,n,y,f,d,k,m,_⟩:=hr.at g;simp only[YE]at k;subst k;simp only[PR]at j;obtain rfl:=j.2 b n f;refine⟨rfl,id,0,rfl,?_⟩;by_cases hp:pos<s.length
 ·rw[w4 hp]at a;cases a with
  |tt a=>
   simp only[AW]at a;obtain⟨rfl,rfl⟩:=a;have l:ND h (.ptr b 0) true=some (.tup [.bool true,i64 pos,.int .i32<|rune s pos],h.put b<|.siter s<|pos+Kq s pos):=by
    simp only[ND,d,Hx,w4 hp,we];rfl
   refine⟨_,_,F,ρ,.inl (by rw[l];rfl),?_,hr.set g f d rfl rfl (o':=.siter s _) rfl,yf,rfl,rfl,ze _,fun c _=>?_⟩
   ·simp[PR,DC,i64]
   ·rw[H.Bq];by_cases e:c=b
    ·exact .inr ⟨id,zk.2 rfl,n,e▸f⟩
    ·rw[wc e];exact .inl rfl
 ·rw[w8 hp]at a;cases a with
  |ff a=>
   simp only[AW]at a;obtain⟨rfl,rfl⟩:=a;refine⟨.tup [.bool false],h,F,ρ,.inl ?_,by simp[PR],hr,yf,rfl,rfl,ze _,fun _ _=>.inl rfl⟩;simp only[ND,d,Hx,w8 hp,wg,FG]
end
section
variable {B:Nat}{h0:H0}{F:Fz}{ρ:Ex}{N:Nat}{C:Ctx}{st st':AM}{h:H}
def AbG:List PV->List Nat
 | .eptr id _ _ _::_=>[id]
 |_=>[]
theorem vO(hr:SR B h0 F ρ st.nx st.ob h){ps:List PV}{xs:List V}(c:Bf F ρ st.nx ps xs){v:PV}(a:(XW ps st).To v st'):OK B h0 F ρ st h [] (BE h<|Qc xs) v st':=by
 unfold XW at a;split at a
 case h_2=>simp at a
 rename_i id sz off len;cases d:IC (st.obj id)with
 |false=>rw[d]at a;simp at a
 |true=>
  rw[d]at a;simp only[we,BT,w5]at a;obtain⟨i,rfl,rfl⟩:=a;obtain⟨o,ho⟩:=Xm d;obtain⟨b,n,z,g1,_⟩:=hr.at ho;simp only[Bf]at c;obtain⟨x,_,rfl,c,rfl⟩:=c;simp only[PR]at c;obtain⟨_,_,o',_,rfl⟩:len<=len/\off+len<=n/\∃o,(o=0\/o=sz)/\x=.sl b (off*sz) len len o:=by
   rcases c.2 b n g1 with g|⟨_,e,_⟩
   ·exact g
   ·cases e
  refine zg hr (v':=.ptr b<|off*sz) ?_ ?_
  ·have:zr 0 len=true:=by rw[Nat.blt_eq];exact i
   simp only[Qc,this,we];rfl
  ·simp only[PR];refine⟨c.1,fun b' n' f=>?_⟩;rw[g1]at f;cases f;rfl
theorem gM{k:IntKind}:∀ {l:List Int} {cs:List V},Ey F (.int k) l cs->cs=l.map (y7 k):=by
 intro l cs a;have b:cs.length=l.length:=by rw[a.1];simp[Sh.sz]
 apply List.ext_getElem
 ·rw[yw];exact b
 ·intro i c f;have d:i<l.length:=by omega
  have:=a.2 i d;have e:(cs.drop<|i*Sh.sz (.int k)).take (Sh.sz<|.int k)=[cs[i]]:=by
   rw[show Sh.sz (.int k)=1 from rfl,ym,zw c];rfl
  rw[e]at this;simpa [DC]using this
theorem O7:∀ {l:List Int},Sg l=true->GM (l.map<|y7 .u8)=some (WS l)
 |[],_=>rfl
 |x::l,h=>by
  unfold Sg at h;rw[List.all_cons,zc,zc,w5,w5]at h;have c:=O7 (l:=l) h.2;obtain⟨n,rfl⟩:=yr h.1.1;have a:zr n 256=true:=by rw[Nat.blt_eq];omega
  have b:Tt (.int .u8 (n:Int))=some (UInt8.ofNat n):=by
   show(bif zr n 256 then some (UInt8.ofNat n)else none)=_;rw[a];rfl
  rw[List.map_cons];unfold GM;rw[b,c];rfl
theorem XO{l:List Int}(h:Sg l=true)(n:Nat):Sg (l.take n)=true:=by
 unfold Sg at*;rw[z6]at*;exact fun x a=>h x<|List.mem_of_mem_take a
theorem Aa4(hr:SR B h0 F ρ st.nx st.ob h){ts:Array TypeId}{ps:List PV}{xs:List V}(p:Bf F ρ st.nx ps xs){v:PV}(a:(oW C.T ts.toList ps st).To v st'):OK B h0 F ρ st h (AbG ps) (FG<|RY C.T h ts.toList xs) v st':=by
 unfold oW at a;split at a
 case h_2=>simp at a
 rename_i O it id sz i n E;split at a
 case h_2=>simp at a
 rename_i e r s l hu K;split at a
 case h_2=>simp at a
 rename_i R A W D;cases t:(zf R.size 1&&zf e r)with
 |false=>rw[t]at a;simp at a
 |true=>
  rw[t]at a;simp only[we,BT,zc,w5]at a;obtain⟨⟨⟨⟨⟨Y,G⟩,M⟩,J⟩,k5⟩,rfl,rfl⟩:=a;subst Y;obtain⟨es,he⟩:=CM D;have Z:s=.int .u8:=by cases es;rfl
  subst Z;have:A=l:=by have:=he;cases this;rfl
  subst this;obtain⟨m,rfl⟩:=yr<|Int.le_of_lt G;simp only[Int.toNat_natCast]at M J;obtain⟨b,n',z,h1,h2,⟨cs,fz,rfl,h3,h4,h5⟩,h6,_⟩:=hr.at K;have I:=h6 rfl;simp only[Bf]at p;obtain⟨x,_,rfl,p,y,_,rfl,hy,rfl⟩:=p;obtain rfl:=CU hy;simp only[PR]at p;obtain rfl:=p.2 b n' h1;have P:=(hr.own id b n' h1).2;have u:b∉h0.pin:=fun hp=>(hr.pn b hp).2.2 id n' h1
  have d:∀j oj m,AP (GS st.ob id) j=some oj->BV ρ id none j≠some (b,m):=by
   intro j oj m q o;rw[Ej]at q;split at q
   ·cases q
   ·rename_i f;simp only[BV,f,vg]at o;exact f<|hr.inj j id oj _ b m n' q K o h1
  have k:=hr.del id;have g:=gM h3;have w:cs.take m=(A.take m).map (y7 .u8):=by rw[g,List.map_take]
  have hb:=O7<|XO k5 m;have hd:RY C.T h ts.toList [.ptr b<|0*sz+0,.int .i64 (m:Int)]=some (.str<|WS<|A.take m,h.kill b):=by
   rw[zu];unfold RY;rw[E];show(match C.T.und O,h.get b with
    |some (.pointer e),some (.cells cs r fz)=>(match C.T.inf e,GM (cs.take m)with
     |some i,some l=>bif zf i.size 1&&zf e r&&zr 0 m&&zl m cs.length&&zl m 9223372036854775807&&zl fz.2 fz.1 then some (V.str l,h.kill b)else none
     |_,_=>none)
    |_,_=>none)=_
   rw[hu,h2];show(match C.T.inf e,GM (cs.take m)with
    |some i,some l=>bif zf i.size 1&&zf e r&&zr 0 m&&zl m cs.length&&zl m 9223372036854775807&&zl fz.2 fz.1 then some (V.str l,h.kill b)else none
    |_,_=>none)=_
   rw[W,w,hb];have G:(0:Int)<(m:Int):=G;have c1:zr 0 m=true:=by rw[Nat.blt_eq];omega
   have S:zl m cs.length=true:=zi (by rw[g,yw];exact M);have U:zl m 9223372036854775807=true:=zi J;have c4:zl fz.2 fz.1=true:=zi h4;simp only[t,c1,S,U,c4,yq,we]
  rw[hd];refine⟨_,_,F,BV ρ id none,.inl rfl,KT _,k.kill d I P u,Le.Oh id,rfl,rfl,ze _,fun c _=>?_⟩;rw[H.Ck];by_cases L:c=b
  ·exact .inr ⟨id,zk.2 rfl,n',L▸h1⟩
  ·rw[wc L];exact .inl rfl
end
section
variable {B:Nat}{h0:H0}{C:Ctx}{F F1 F':Fz}{ρ:Ex}{N:Nat}{st st':AM}{fr:Fr}{h h':H}
def PC(F:Fz)(p:PV)(v:V):Prop:=∀ρ N,PR F ρ N p v
def MG(F:Fz)(ps:List PV)(vs:List V):Prop:=∀ρ N,Bf F ρ N ps vs
theorem Le.aQ(a:∀b cs,F b=some cs->F1 b=some cs):Le F ρ N F1 ρ N:=⟨a,fun _ _=>.inl rfl,ze _⟩
theorem PC.mono(a:∀b cs,F b=some cs->F1 b=some cs){p:PV}{v:V}(hp:PC F p v):PC F1 p v:=fun ρ N=>(hp ρ N).mono<|Le.aQ a
theorem MG.cons{p:PV}{ps:List PV}{v:V}{vs:List V}(a:PC F p v)(b:MG F ps vs):MG F (p::ps) (v::vs):=fun ρ N=>(A4 ..).2 ⟨a ρ N,b ρ N⟩
theorem MG.dc{s:Sh}{ps:List PV}{vs:List V}{x:s.T}(hp:MG F ps vs)(a:Dq s ps=some x):DC F s x vs:=C3 (hp (fun _=>none) 0) a
theorem PC.Cm:∀ {s:Sh} {x:s.T} {cs:List V},DC F s x cs->(s.Q4=true->PC F (Cm s x) (.agg cs))/\(s.Q4=false->∀v,cs=[v]->PC F (Cm s x) v)
 | .pair a b,x,cs,h=>⟨fun _ ρ N=>by unfold y8 PR;exact⟨cs,rfl,De h⟩,fun e=>by cases e⟩
 | .unit,x,cs,h=>⟨fun _ ρ N=>by simp only[DC]at h;subst h;unfold y8 PR;exact⟨[],rfl,by simp⟩,fun e=>by cases e⟩
 | .int _,x,cs,h=>⟨fun e=>(by cases e),fun _ v c ρ N=>by subst c;unfold y8 PR;exact h⟩
 | .bool,x,cs,h=>⟨fun e=>(by cases e),fun _ v c ρ N=>by subst c;unfold y8 PR;exact h⟩
 | .str,x,cs,h=>⟨fun e=>(by cases e),fun _ v c ρ N=>by subst c;unfold y8 PR;exact h⟩
 | .list _,x,cs,h=>⟨fun e=>(by cases e),fun _ v c ρ N=>by subst c;unfold y8 PR;exact h⟩
 | .nlist _,x,cs,h=>⟨fun e=>(by cases e),fun _ v c ρ N=>by subst c;unfold y8 PR;exact h⟩
 | .fnv,x,cs,h=>⟨fun e=>(by cases e),fun _ v c ρ N=>by
   subst c;simp only[DC,yi,ve]at h;subst h;unfold y8;cases (x:Option Fn)<;>simp[PR]⟩
 | .ptr s,x,cs,h=>⟨fun e=>(by cases e),fun _ v c ρ N=>by
   subst c;simp only[DC]at h;obtain⟨b,o,g,i,d,j,f⟩:=h;unfold y8 PR;exact⟨b,o,g,List.singleton_inj.1 i,d,j,f⟩⟩
theorem SR.AcB{ob a:Ob}(hr:SR B h0 F ρ N ob h)(c:∀j,AP a j=AP ob j):SR B h0 F ρ N a h:=
 ⟨fun id o g=>hr.obj id o<|c id▸g,fun id id' o o' b n n' e f=>hr.inj id id' o o' b n n' (c id▸e)<|c id'▸f,hr.frz,hr.own,fun id d=>hr.dead id<|c id▸d,hr.old,hr.lt,hr.le,hr.fo,hr.gl,hr.pn⟩
theorem AaD{s:Sh}{l:List s.T}{cs:List V}{b:Nat}(g:F b=some cs)(e:Ey F s l cs){off len:Nat}(d:off+len<=l.length){cap o:Nat}(c:len<=cap)(m:o=0\/o=s.sz):
  DC F (.list s) ((l.drop off).take len) [.sl b (off*s.sz) len cap o]:=by
 have a:((l.drop off).take len).length=len:=by simp;omega
 simp only[DC];refine⟨_,rfl,.inr ⟨b,off*s.sz,cap,o,cs,by rw[a],by rw[a];exact c,g,?_,m,fun i k=>?_⟩⟩
 ·rw[a,e.1, <-zp];exact zh _ d
 ·rw[a]at k;have f:=e.2 (off+i) (by omega);have j:((l.drop off).take len)[i]=l[off+i]'(by omega):=by simp
  rw[j, <-zp];exact f
theorem LP(st:AM)(p:PV):(BH st p).nx=st.nx/\(BH st p).fr=st.fr/\(BH st p).n=st.n:=by
 unfold BH;split
 ·split<;>exact⟨rfl,rfl,rfl⟩
 ·exact⟨rfl,rfl,rfl⟩
theorem DH:∀(ps:List PV) (st:AM),(Bv ps st).nx=st.nx/\(Bv ps st).fr=st.fr/\(Bv ps st).n=st.n
 |[],_=>⟨rfl,rfl,rfl⟩
 |p::ps,st=>by
  obtain⟨a,b,c⟩:=DH ps<|BH st p;obtain⟨g1,g2,g3⟩:=LP st p;exact⟨a.trans g1,b.trans g2,c.trans g3⟩
theorem IG:∀(ps a:List PV) (st:AM),Bv (ps++a) st=Bv a (Bv ps st)
 |[],_,_=>rfl
 |p::ps,a,st=>IG ps a<|BH st p
def Eh:Option Obj->Option Obj->Prop
 |some (.arr _ e s l),o=>∃fz,o=some (.arr fz e s l)
 |a,b=>b=a
theorem Eh.refl(o:Option Obj):Eh o o:=by
 cases o with
 |none=>rfl
 |some o=>cases o<;>first|rfl|exact⟨_,rfl⟩
theorem Nw(st:AM)(p:PV)(j:Nat):Eh (st.obj j) ((BH st p).obj j):=by
 unfold BH;split
 case h_2=>exact Eh.refl _
 split
 case h_2=>exact Eh.refl _
 rename_i id _ _ _ _ _ fz e s l a;show Eh (AP st.ob j)<|AP (DR st.ob id<|.arr true e s l) j;rw[Hn _ _ _ _<|by show(st.obj id).isSome=true;rw[a];rfl];split
 ·rename_i b;subst b;show Eh (st.obj j) _;rw[a];exact⟨_,rfl⟩
 ·exact Eh.refl _
theorem mR{st st':AM}(h:∀id,Eh (st.obj id)<|st'.obj id)(p:PV):B1 st' p=B1 st p:=by
 unfold B1;cases p<;>try rfl
 rename_i id sz off len cap;have:=h id;cases a:st.obj id with
 |none=>rw[a]at this;simp only[a,show st'.obj id=none from this]
 |some o=>
  rw[a]at this;cases o with
  |arr fz e s l=>
   obtain⟨fz',b⟩:=this;simp only[a,b]
  |box _=>simp only[a,show st'.obj id=_ from this]
  |tbox _ _=>simp only[a,show st'.obj id=_ from this]
  |map _ _ _=>simp only[a,show st'.obj id=_ from this]
  |siter _ _=>simp only[a,show st'.obj id=_ from this]
  |lp _ _ _ _ _ _ _ _=>simp only[a,show st'.obj id=_ from this]
theorem MI{st st':AM}(h:∀id,Eh (st.obj id)<|st'.obj id):∀ps:List PV,Dk st' ps=Dk st ps
 |[]=>rfl
 |p::ps=>by unfold Dk;rw[mR h p,MI h ps]
theorem Eh.trans{a b c:Option Obj}(f:Eh a b)(d:Eh b c):Eh a c:=by
 cases a with
 |none=>have:b=none:=f;subst this;exact d
 |some o=>
  cases o with
  |arr fz e s l=>obtain⟨fz',rfl⟩:=f;exact d
  |box _=>have:b=_:=f;subst this;exact d
  |tbox _ _=>have:b=_:=f;subst this;exact d
  |map _ _ _=>have:b=_:=f;subst this;exact d
  |siter _ _=>have:b=_:=f;subst this;exact d
  |lp _ _ _ _ _ _ _ _=>have:b=_:=f;subst this;exact d
theorem Nl:∀(ps:List PV) (st:AM) (id:Nat),Eh (st.obj id)<|(Bv ps st).obj id
 |[],_,_=>Eh.refl _
 |p::ps,st,id=>(Nw st p id).trans<|Nl ps (BH st p) id
theorem Wq{st st':AM}(h:∀id,Eh (st.obj id)<|st'.obj id)(s:Sh)(p:PV):EC st' s p=EC st s p:=by
 unfold EC;rw[MI h]
theorem MS{st st':AM}(h:∀id,Eh (st.obj id)<|st'.obj id):∀(l:List Sh) (ps:List PV),Dx st' l ps=Dx st l ps
 |[],[]=>rfl
 |[],_::_=>rfl
 |[a],[p]=>Wq h a p
 |[a],[]=>rfl
 |[a],_::_::_=>rfl
 |a::b::l,[]=>rfl
 |a::b::l,p::ps=>by unfold Dx;rw[Wq h a p,MS h (b::l) ps]
theorem NG(hr:SR B h0 F ρ st.nx st.ob h){p:PV}{v:V}(hp:PR F ρ st.nx p v):
  ∃F1,SR B h0 F1 ρ (BH st p).nx (BH st p).ob h/\(∀b cs,F b=some cs->F1 b=some cs)/\∀x,B1 st p=some (true,x)->PC F1 x v:=by
 have same:∀ {q:PV},(∀x,B1 st q=some (true,x)->PC F x v)->BH st q=st->∃F1,SR B h0 F1 ρ (BH st q).nx (BH st q).ob h/\(∀b cs,F b=some cs->F1 b=some cs)/\∀x,B1 st q=some (true,x)->PC F1 x v:=
  fun D P=>⟨F,by rw[P];exact hr,fun _ _ h=>h,D⟩
 cases p with
 |sl id sz off len cap=>
  cases f:st.obj id with
  |none=>exact same (fun x a=>by simp[B1,f]at a) (by simp[BH,f])
  |some o=>
   cases o with
   |box _=>exact same (fun x a=>by simp[B1,f]at a) (by simp[BH,f])
   |tbox _ _=>exact same (fun x a=>by simp[B1,f]at a) (by simp[BH,f])
   |map _ _ _=>exact same (fun x a=>by simp[B1,f]at a) (by simp[BH,f])
   |siter _ _=>exact same (fun x a=>by simp[B1,f]at a) (by simp[BH,f])
   |lp _ _ _ _ _ _ _ _=>exact same (fun x a=>by simp[B1,f]at a) (by simp[BH,f])
   |arr fz e s l=>
    obtain⟨b,n,x,D,P,⟨cs,fz',rfl,W,h5,h6⟩,h7,h8⟩:=hr.at f;have O:BH st (.sl id sz off len cap)=st.setObj id (.arr true e s l):=by simp[BH,f]
    have r:∀j,AP (DR st.ob id<|.arr true e s l) j=if j=id then some (.arr true e s l)else AP st.ob j:=fun j=>Hn _ _ _ _ (by show(st.obj id).isSome=true;rw[f];rfl)
    have fin:∀ {G:Fz},G b=some cs->(∀b cs,F b=some cs->G b=some cs)->∀x,B1 st (.sl id sz off len cap)=some (true,x)->PC G x v:=by
     intro G hG T x a ρ' N';simp only[B1,f]at a;cases u:zf sz s.sz with
     |false=>rw[u]at a;simp at a
     |true=>
      rw[u]at a;simp only[we,zj,z8,w5]at a;obtain⟨A,rfl⟩:=a;have u:=zd u;subst u;unfold PR;simp only[PR]at hp;rcases hp.2 b n D with⟨M,S,o,Z,rfl⟩|⟨rfl,rfl,Z,rfl|⟨J,rfl,k4⟩⟩
      ·exact AaD hG (W.mono T) A M Z
      ·simp[DC]
      ·simp only[List.take_zero,DC];refine⟨_,rfl,.inr ⟨b,J,0,0,cs,rfl,ze _,hG,?_,.inl rfl,fun i U=>by simp at U⟩⟩;simp only[yd,zu,Nat.add_zero];rw[W.1];exact yt k4 (zh _ (by rw[h6];exact Z))
    cases E:fz with
    |true=>
     subst E;obtain⟨cs',t',fz2,M,S⟩:=h8 rfl;cases M;refine⟨F,?_,fun _ _ h=>h,fin S<|fun _ _ h=>h⟩;rw[O];refine SR.AcB hr fun j=>?_
     show AP (DR st.ob id _) j=_;rw[r];split
     ·rename_i L;subst L;exact f.symm
     ·rfl
    |false=>
     subst E;have hFb:F b=none:=h7 rfl;have d:∀c cs',F c=some cs'->(fun c=>if c=b then some cs else F c) c=some cs':=by
      intro c cs' w;have:c≠b:=fun e=>by rw[e,hFb]at w;cases w
      simp[this,w]
     refine⟨fun c=>if c=b then some cs else F c,?_,d,fin (by simp) d⟩;rw[O];have A:Le F ρ st.nx (fun c=>if c=b then some cs else F c) ρ st.nx:=Le.aQ d;have z:∀k ok,AP (DR st.ob id<|.arr true e s l) k=some ok->∃o2,AP st.ob k=some o2:=by
      intro k ok hk;rw[r]at hk;by_cases ek:k=id
      ·exact⟨_,ek▸f⟩
      ·rw[wc ek]at hk;exact⟨ok,hk⟩
     refine⟨fun j oj g=>?_,fun i j oi oj c m m' U g R Y=>?_,fun c cs' w=>?_,hr.own,fun j g=>?_,hr.old,hr.lt,hr.le,fun c cs' w=>?_,hr.gl,hr.pn⟩
     ·have g:AP (DR st.ob id<|.arr true e s l) j=some oj:=g;rw[r]at g;by_cases L:j=id
      ·subst L;simp only[wk,zj]at g;subst g;refine⟨b,n,_,D,P,⟨cs,fz',rfl,W.mono d,h5,h6⟩,fun e=>(by cases e),fun _=>⟨cs,_,_,rfl,by simp⟩⟩
      ·rw[wc L]at g;obtain⟨c,m,y,R,Y,g3,g4,g5⟩:=hr.obj j oj g;have K:c≠b:=fun I=>L<|hr.inj j id oj _ c m n g f R<|I▸D
       exact⟨c,m,y,R,Y,g3.mono A,fun e=>by simp[K,g4 e],fun e=>by obtain⟨a1,a2,a3,a4,a5⟩:=g5 e;exact⟨a1,a2,a3,a4,by simp[K,a5]⟩⟩
     ·obtain⟨_,M⟩:=z i oi U;obtain⟨_,S⟩:=z j oj g;exact hr.inj i j _ _ c m m' M S R Y
     ·split at w
      ·rename_i I;cases w;subst I;exact⟨_,_,P⟩
      ·exact hr.frz c cs' w
     ·have g:AP (DR st.ob id<|.arr true e s l) j=none:=g;rw[r]at g;split at g
      ·cases g
      ·exact hr.dead j g
     ·split at w
      ·rename_i I;subst I;exact .inr (hr.own id c n D).2
      ·exact hr.fo c cs' w
 |dat s x=>exact same (fun y t ρ' N'=>by simp only[B1,zj,z8,true_and]at t;subst t;unfold PR at hp ⊢;exact hp) rfl
 |bl b=>exact same (fun y t ρ' N'=>by simp only[B1,zj,z8,true_and]at t;subst t;unfold PR at hp ⊢;exact hp) rfl
 |nil=>exact same (fun y t ρ' N'=>by simp only[B1,zj,z8,true_and]at t;subst t;unfold PR at hp ⊢;exact hp) rfl
 |Bx s x off=>exact same (fun y t ρ' N'=>by simp only[B1,zj,z8,true_and]at t;subst t;unfold PR at hp ⊢;exact hp) rfl
 |any|ub|yl _|nilp|nilm|nilf|nili|agg _|tup _|ptr _ _|eptr _ _ _ _|mp _|fn _ _ _=>exact same (fun x a=>by simp[B1]at a) rfl
theorem IY:∀ {ps:List PV} {vs:List V} {st:AM} {F:Fz},SR B h0 F ρ st.nx st.ob h->Bf F ρ st.nx ps vs->
  ∃F1,SR B h0 F1 ρ (Bv ps st).nx (Bv ps st).ob h/\(∀b cs,F b=some cs->F1 b=some cs)/\∀xs,Dk st ps=some (true,xs)->MG F1 xs vs
 |[],vs,st,F,hr,hp=>⟨F,hr,fun _ _ h=>h,fun xs a=>by
  cases a;have m:vs=[]:=by simpa using hp
  subst m;intro ρ' N';simp⟩
 |p::ps,vs,st,F,hr,hp=>by
  simp only[Bf]at hp;obtain⟨v,vs,rfl,l,k⟩:=hp;obtain⟨F1,g1,g2,g3⟩:=NG hr l;have e:Bf F1 ρ (BH st p).nx ps vs:=by rw[(LP st p).1];exact k.mono<|Le.aQ g2
  obtain⟨i,o,g,s⟩:=IY g1 e;refine⟨i,o,fun b cs r=>g b cs<|g2 b cs r,fun xs a=>?_⟩;unfold Dk at a;split at a
  case h_2=>cases a
  rename_i c x d f j q;simp only[zj,z8,zc]at a;obtain⟨⟨rfl,rfl⟩,rfl⟩:=a;exact MG.cons ((g3 x j).mono g) (s f (by rw[MI<|Nw st p];exact q))
theorem kL(hr:SR B h0 F ρ st.nx st.ob h){t:TypeId}{n:Nat}{l:List (Nat×PV)}{l':List (Nat×V)}(E:PRn F ρ st.nx l l'){v:PV}(a:(S9 C.T t n l st).To v st'):OK B h0 F ρ st h [] (FG<|Fg C.T h t n l') v st':=by
 unfold S9 at a;split at a
 case h_2=>simp at a
 rename_i e J;split at a
 case h_2=>simp at a
 rename_i i s I Y;cases m:(zl (Nat.mul n i.size) 16777216&&zr 0 i.zero.length&&zf i.zero.length i.size&&zf i.size s.sz)with
 |false=>rw[m]at a;simp at a
 |true=>
  rw[m]at a;simp only[zc]at m;obtain⟨⟨⟨K,G⟩,p⟩,M⟩:=m;simp only[we]at a;split at a
  case h_2=>simp at a
  rename_i cs j;split at a
  case h_2=>
   split at a
   case h_2=>simp at a
   rename_i c cs' R;split at a
   case h_2=>simp at a
   rename_i el d;simp only[BT]at a;obtain⟨rfl,rfl,rfl⟩:=a;have w:=zd p;have q:=zd M;have u:Bf F ρ st.nx (K3 (i.zero.map Yu) n) (Fp i.zero<|n*i.size):=by
    rw[<-w,HO];exact KV _ _
   obtain⟨g,k,A⟩:=JB hr E u j;have b:g.length=n*s.sz:=by
    rw[<-q];rw[MY k];simp[Fp]
   obtain⟨F1,O,P,W⟩:=IY hr A;obtain⟨y,D⟩:=Js (W cs' R ρ st.nx) d b;have z:Fg C.T h t n l'=some (.sl h.nx 0 n n 0,h.push<|.cells g e (0,0)):=by
    have f:zl (n*i.size) 16777216=true:=K;simp only[Fg,J,I,f,G,p,yq,we,k,IU]
   rw[z];obtain⟨L,U,S⟩:=DH cs st;have r:=OK.new (F:=F1) (ρ:=ρ) (st:=Bv cs st) O (o:=.arr false e s el) (x:=.cells g e (0,0)) (n:=n) (v:=.sl (Bv cs st).nx s.sz 0 n none) (v':=.sl h.nx 0 n n 0) rfl ⟨_,_,rfl,D.mono<|fun _ _ h=>h,ze _,y⟩ (PE<|.inl rfl);obtain⟨v',h',F',ρ',q1,q2,q3,q4,q5,q6,q7,q8⟩:=r;rw[L]at q2;exact⟨v',h',F',ρ',q1,q2,q3,(by rw[L]at q4;exact(Le.aQ P).trans q4),q5.trans U,q6.trans S,q7,q8⟩
  rename_i el d;simp only[AW]at a;obtain⟨rfl,rfl⟩:=a;have w:=zd p;have q:=zd M;have u:Bf F ρ st.nx (K3 (i.zero.map Yu) n) (Fp i.zero<|n*i.size):=by
   rw[<-w,HO];exact KV _ _
  obtain⟨g,k,A⟩:=JB hr E u j;have b:g.length=n*s.sz:=by
   rw[<-q];rw[MY k];simp[Fp]
  obtain⟨y,D⟩:=Js A d b;have z:Fg C.T h t n l'=some (.sl h.nx 0 n n 0,h.push<|.cells g e (0,0)):=by
   have f:zl (n*i.size) 16777216=true:=K;simp only[Fg,J,I,f,G,p,yq,we,k,IU]
  rw[z];exact OK.new hr (o:=.arr false e s el) (n:=n) rfl ⟨_,_,rfl,D.mono<|fun _ _ h=>h,ze _,y⟩ (PE<|.inl rfl)
end
section
variable {B:Nat}{h0:H0}{F:Fz}{ρ:Ex}{N:Nat}{C:Ctx}{st st':AM}{fr:Fr}{h h':H}
theorem En{x:Operand}{k:PV->PO}{v:PV}:(v1 st x k).To v st'↔∃p,Q6 st x=some p/\(k p).To v st':=by
 unfold v1;cases Q6 st x with
 |none=>simp
 |some p=>simp
theorem mY(b:FP F ρ N st fr){x:Option Operand}{k:Option PV->PO}{v:PV}(a:(o1 st x k).To v st'):∃p y,WI C fr x=some y/\UD F ρ N p y/\(k p).To v st':=by
 unfold o1 at a;cases x with
 |none=>exact⟨none,none,rfl,rfl,a⟩
 |some x=>
  obtain⟨p,c,d⟩:=En.1 a;obtain⟨y,g1,g2⟩:=Co (C:=C) b c;exact⟨some p,some y,by simp[WI,g1],⟨y,rfl,g2⟩,d⟩
theorem dR(hr:SR B h0 F ρ st.nx st.ob h){b:Builtin}{ts:Array TypeId}{ps:List PV}{xs:List V}(c:Bf F ρ st.nx ps xs){v:PV}(a:(II C.T b ts ps st).To v st'):
  OK B h0 F ρ st h (match b with| .append| .clear=>F6 ps| .unsafeString=>AbG ps|_=>[]) (EA C h b ts xs) v st':=by
 unfold II at a;split at a
 case h_8=>simp at a
 case h_7=>exact Aa4 hr c a
 case h_6=>exact vO hr c a
 case h_5=>exact uF hr c a
 case h_1=>exact AdP hr c a
 case h_2=>exact jA hr c a
 case h_3=>exact AdZ (g:=pA) hr (fun k x y=>by simp[pA,imax]) c a
 case h_4=>exact AdZ (g:=iC) hr (fun k x y=>by simp[iC,E2]) c a
theorem tY(hr:Rel B h0 F ρ st fr h){o:Oper}{v:PV}(e:(pop o.op C.T st).To v st'):
  ∃O,OK B h0 F ρ st h O (GL C fr h o) v st'/\∀sp I,Hi sp st o.op=some I->∀i∈O,i∈I:=by
 have nil:∀ {d:Option OR} {op:Op},OK B h0 F ρ st h [] d v st'->∃O,OK B h0 F ρ st h O d v st'/\∀sp I,Hi sp st op=some I->∀i∈O,i∈I:=fun h=>⟨[],h,fun _ _ _ i M=>by cases M⟩
 have A:∀ {x p},Q6 st x=some p->∃y,ev C fr x=some y/\PR F ρ st.nx p y:=fun hp=>Co hr.fp hp
 unfold pop at e;rw[Db];unfold G7;cases Z:o.op<;>rw[Z]at e<;>simp only[J9,M8]at e<;>simp only
 case move x|assign x=>
  simp only[X6,Me]at e;obtain⟨G,rfl⟩:=e;obtain⟨y,E,D⟩:=A G;refine nil ?_;rw[E];exact zg hr.sr rfl D
 case pick c a b=>
  simp only[nL,En]at e;obtain⟨p,G,q,K,r,Y,e⟩:=e;obtain⟨x,E,D⟩:=A G;obtain⟨y,g3,g4⟩:=A K;obtain⟨z,g5,g6⟩:=A Y;obtain⟨t,rfl,R⟩:=AaZ hr.sr D g4 g6 e;refine nil ?_;rw[E];simp only;cases t
  ·simpa [g5]using R
  ·simpa [g3]using R
 case alloc t=>exact nil<|uM hr.sr e
 case box t x=>
  simp only[zC,En]at e;obtain⟨p,G,e⟩:=e;obtain⟨y,E,D⟩:=A G;split at e
  case h_2=>simp at e
  rename_i cs W;cases hs:Det.Ly (Kl st) cs with
  |false=>rw[hs]at e;simp at e
  |true=>
  rw[hs]at e;simp only[we,AW]at e;obtain⟨rfl,rfl⟩:=e;refine nil ?_;rw[E];exact AcE hr.sr D W (by rw[<-FU];exact hs)
 case build t ps=>
  simp only[Zt]at e;split at e
  case h_2=>simp at e
  rename_i l P;obtain⟨l',E,D⟩:=Ql (C:=C) hr.fp P;refine nil ?_;rw[E];exact vP hr.sr D e
 case buildSlice t n ps=>
  simp only[UY]at e;split at e
  case h_2=>simp at e
  rename_i l P;obtain⟨l',E,D⟩:=Ql (C:=C) hr.fp P;refine nil ?_;rw[E];exact kL hr.sr D e
 case load t x=>
  simp only[qH,En]at e;obtain⟨p,G,e⟩:=e;obtain⟨y,E,D⟩:=A G;refine nil ?_;rw[E];exact jH hr.sr D e
 case store t x y=>
  simp only[Zq,En]at e;obtain⟨p,G,q,K,e⟩:=e;obtain⟨a,E,D⟩:=A G;obtain⟨b,g3,g4⟩:=A K;obtain⟨id,hid,R⟩:=tD hr.sr D g4 e;refine⟨[id],by rw[E,g3];exact R,fun sp I g=>?_⟩;simp only[Hi,G]at g;rcases hid with⟨off,rfl⟩|⟨sz,j,off,rfl⟩<;>(simp only[zj]at g;subst g;intro i M;exact M)
 case nilCheck x=>
  simp only[O4,En]at e;obtain⟨p,G,e⟩:=e;obtain⟨y,E,D⟩:=A G;rw[E];split at e
  case h_4=>simp at e
  case h_1=>
   rename_i id off;cases P:IC (st.obj id)with
   |false=>rw[P]at e;simp at e
   |true=>
    rw[P]at e;simp only[we,AW]at e;obtain⟨rfl,rfl⟩:=e;obtain⟨b,n,k1⟩:=hr.sr.live P;have J:=D;simp only[PR]at J;obtain rfl:=J.2 b n k1;exact nil<|zg hr.sr rfl D
  case h_2=>
   rename_i id sz j off;cases P:IC (st.obj id)with
   |false=>rw[P]at e;simp at e
   |true=>
    rw[P]at e;simp only[we,AW]at e;obtain⟨rfl,rfl⟩:=e;obtain⟨b,n,k1⟩:=hr.sr.live P;have J:=D;simp only[PR]at J;obtain rfl:=J.2 b n k1;exact nil<|zg hr.sr rfl D
  case h_3=>
   simp only[AW]at e;obtain⟨rfl,rfl⟩:=e;have J:=D;simp only[PR]at J;obtain⟨b,o',cs,rfl,_⟩:=J;exact nil<|zg hr.sr rfl D
 case binOp op t x y t2=>
  simp only[Aad,En]at e;obtain⟨p,G,q,K,e⟩:=e;obtain⟨a,E,D⟩:=A G;obtain⟨b,g3,g4⟩:=A K;refine nil ?_;rw[E,g3];split at e
  case h_2=>exact AcG hr.sr D g4 e
  rename_i r S;simp only[AW]at e;obtain⟨rfl,rfl⟩:=e;unfold zL at S;split at S
  case h_3=>cases S
  all_goals
   rename_i m hu;cases V:(aA x||aA y)with
   |false=>rw[V]at S;cases S
   |true=>
    rw[V]at S;cases S;simp only[PR]at D g4;subst D g4;exact zg hr.sr (by simp only[Nx,vT,hu,V,we,BE])<|IV _
 case unOp op t x=>
  simp only[Ado,En]at e;obtain⟨p,G,e⟩:=e;obtain⟨y,E,D⟩:=A G;refine nil ?_;rw[E];exact Afd hr.sr D e
 case convert s d x=>
  simp only[nZ,En]at e;obtain⟨p,G,e⟩:=e;obtain⟨y,E,D⟩:=A G;refine nil ?_;rw[E];exact AbT hr.sr D e
 case makeFunc f a b=>
  simp only[gY]at e;split at e
  case h_2=>simp at e
  rename_i x y hx hy;simp only[AW]at e;obtain⟨rfl,rfl⟩:=e;obtain⟨u,E,D⟩:=Fu (C:=C) hr.fp hx;obtain⟨w,g3,g4⟩:=Fu (C:=C) hr.fp hy;refine nil ?_;rw[E,g3];exact zg hr.sr rfl (by unfold PR;exact⟨_,_,rfl,D,g4⟩)
 case makeMap t r=>
  simp only[aH]at e;split at e
  case h_2=>simp at e
  refine nil ?_;exact xK hr.sr e
 case lookup t x i ok=>
  simp only[UF,En]at e;obtain⟨p,G,q,K,e⟩:=e;obtain⟨a,E,D⟩:=A G;obtain⟨b,g3,g4⟩:=A K;refine nil ?_;rw[E,g3];exact mX hr.sr D g4 e
 case mapUpdate t m k x|insert t m k x=>
  simp only[Pd,En]at e;obtain⟨p,G,q,K,r,Y,e⟩:=e;obtain⟨a,E,D⟩:=A G;obtain⟨b,g3,g4⟩:=A K;obtain⟨c,g5,g6⟩:=A Y;obtain⟨id,rfl,R⟩:=gX hr.sr D g4 g6 e;refine⟨[id],by rw[E,g3,g5];exact R,fun sp I g=>?_⟩;simp only[Hi,G,zj]at g;subst g;intro i M;exact M
 case makeSlice t l c=>
  simp only[pR,En]at e;obtain⟨p,G,q,K,e⟩:=e;obtain⟨a,E,D⟩:=A G;obtain⟨b,g3,g4⟩:=A K;refine nil ?_;rw[E,g3];exact AaH hr.sr D g4 e
 case slice t x lo M mx=>
  simp only[Zk,En]at e;obtain⟨p,G,e⟩:=e;obtain⟨a,E,D⟩:=A G;obtain⟨l,l',k1,k2,e⟩:=mY (C:=C) hr.fp e;obtain⟨m,m',k3,k4,e⟩:=mY (C:=C) hr.fp e;obtain⟨n,n',k5,k6,e⟩:=mY (C:=C) hr.fp e;refine nil ?_;rw[E,k1,k3,k5];exact rH hr.sr D k2 k4 k6 e
 case fieldAddr t x f=>
  simp only[ZX,En]at e;obtain⟨p,G,e⟩:=e;obtain⟨y,E,D⟩:=A G;refine nil ?_;rw[E];exact sN hr.sr D e
 case field t x f=>
  simp only[Zu,En]at e;obtain⟨p,G,e⟩:=e;obtain⟨y,E,D⟩:=A G;refine nil ?_;rw[E];exact xF hr.sr D e
 case indexAddr t x i=>
  simp only[YC,En]at e;obtain⟨p,G,q,K,e⟩:=e;obtain⟨a,E,D⟩:=A G;obtain⟨b,g3,g4⟩:=A K;refine nil ?_;rw[E,g3];exact qV hr.sr D g4 e
 case index t x i=>
  simp only[YG,En]at e;obtain⟨p,G,q,K,e⟩:=e;obtain⟨a,E,D⟩:=A G;obtain⟨b,g3,g4⟩:=A K;refine nil ?_;rw[E,g3];exact rA hr.sr D g4 e
 case extract x i=>
  simp only[Rk,En]at e;obtain⟨p,G,e⟩:=e;obtain⟨y,E,D⟩:=A G;refine nil ?_;rw[E];exact eL hr.sr D e
 case range t x=>
  simp only[Zh,En]at e;obtain⟨p,G,e⟩:=e;obtain⟨y,E,D⟩:=A G;refine nil ?_;rw[E];exact vD hr.sr D e
 case next x i=>
  simp only[qB,En]at e;obtain⟨p,G,e⟩:=e;obtain⟨y,E,D⟩:=A G;obtain⟨rfl,id,off,rfl,R⟩:=AbK hr.sr D e;refine⟨[id],by rw[E];exact R,fun sp I g=>?_⟩;simp only[Hi]at g;cases g
 case call c=>
  simp only[TB]at e;split at e
  case h_1=>simp at e
  rename_i args L;obtain⟨args',E,D⟩:=Fu (C:=C) hr.fp L;split at e
  case h_2=>simp at e
  case h_1=>
   rename_i b U;split at e
   case h_1=>
    obtain⟨id,qs,rfl,R⟩:=lI hr.sr D e;refine⟨[id],by rw[U,E];exact R,fun sp I g=>?_⟩;simp only[Hi,U,L,zj]at g;subst g;intro i M;exact M
   case h_2=>
   have:=dR hr.sr D e;refine⟨_,by rw[U,E];exact this,fun sp I g=>?_⟩;simp only[Hi,U,L]at g;cases b<;>simp only at g ⊢<;>try (first|(intro i M;cases M;done)|(cases g;done))
   case append=>
    cases args with
    |nil=>simp[F6]
    |cons p ps=>cases p<;>simp only[zj]at g<;>subst g<;>(intro i M;exact M)
   case unsafeString=>
    cases args with
    |nil=>simp[AbG]
    |cons p ps=>cases p<;>first|(cases g;done)|(cases g;intro i M;exact M)
end
section
variable {B:Nat}{h0:H0}{F:Fz}{ρ:Ex}{N:Nat}{X:AV}{st st':AM}{fr:Fr}{h h':H}{Q:PV->Ob->Prop}{n:Nat}
@[simp] theorem Dn(st:AM)(t:Nat)(p:PV)(s:Nat):(st.set t p).get s=if s=t then p else st.get s:=by
 unfold AM.get AM.set;simp only[PM.Dn];split<;>rfl
theorem Rel.set(hr:Rel B h0 F ρ st fr h){t:Nat}{p:PV}{x:V}(hp:PR F ρ st.nx p x):Rel B h0 F ρ (st.set t p) ⟨fr.n,fr.m.set t<|some x⟩ h:=by
 refine⟨⟨hr.fp.n,fun s=>?_⟩,hr.sr⟩;rw[Dn];unfold Fr.get;simp only[PM.Dn];split
 ·exact hp
 ·exact hr.fp.slot s
theorem Rel.note(hr:Rel B h0 F ρ st fr h){t:Nat}{p:PV}(hp:PR F ρ st.nx p (fr.get t)):Rel B h0 F ρ (st.set t p) fr h:=by
 refine⟨⟨hr.fp.n,fun s=>?_⟩,hr.sr⟩;rw[Dn];split
 ·rename_i e;subst e;exact hp
 ·exact hr.fp.slot s
theorem Rel.put(hr:Rel B h0 F ρ st fr h){d:Option Nat}{p:PV}{x:V}(hp:PR F ρ st.nx p x)(a:st.put d p=some st'):∃fr',fr.put d x=some fr'/\Rel B h0 F ρ st' fr' h/\st'.nx=st.nx/\st'.ob=st.ob:=by
 unfold AM.put at a;unfold Fr.put;cases d with
 |none=>cases a;exact⟨fr,rfl,hr,rfl,rfl⟩
 |some t=>
  simp only at a ⊢;have c:st.n=fr.n:=hr.fp.n;rw[c]at a;cases b:zr t fr.n with
  |false=>rw[b]at a;cases a
  |true=>
   rw[b]at a;simp only[we,zj]at a;subst a;exact⟨_,rfl,hr.set hp,rfl,rfl⟩
structure Dy(B:Nat)(h0:H0)(F:Fz)(ρ:Ex)(N:Nat)(h:H)(st':AM)(fr':Fr)(h':H)(F':Fz)(ρ':Ex):Prop where
 rel:Rel B h0 F' ρ' st' fr' h'
 le:Le F ρ N F' ρ' st'.nx
 nx:h.nx<=h'.nx
theorem Dy.refl(hr:Rel B h0 F ρ st fr h):Dy B h0 F ρ st.nx h st fr h F ρ:=⟨hr,yf,ze _⟩
theorem Dy.trans{F' g:Fz}{ρ' e:Ex}{d:AM}{fr' c:Fr}{f:H}(a:Dy B h0 F ρ N h st' fr' h' F' ρ')(b:Dy B h0 F' ρ' st'.nx h' d c f g e):Dy B h0 F ρ N h d c f g e:=
 ⟨b.rel,a.le.trans b.le,yt a.nx b.nx⟩
def AdE(X:AV)(ρ:Ex)(h:H)(args':List V):Cal->Cl->Prop
 | .fn g,c=>c=.fn g args'/\X.C.prim g=none/\∃i,X.C.fn g=some i
 | .rnd id,c=>∃b n ls,ρ id=some (b,n)/\h.get b=some (.loop ls)/\args'.length=ls.ps.size/\c=.rnd b ls (GJ ls.ps.toList args' ls.fr)
inductive Nz (X:AV) (ρ:Ex) (h:H) (args':List V):Cal->List (V×H)->Prop where
 |Bl {g:Cal} {c:Cl} {l:List (V×H)} {M:Nat}:AdE X ρ h args' g c->(∀m,M<=m->Det.Bl X.C m c h=some l)->Nz X ρ h args' g l
 |prim {g:FuncId} {q:List V->H->Option (V×H)} {x:V×H}:X.C.prim g=some q->q args' h=some x->Nz X ρ h args' (.fn g) [x]
def FM(B:Nat)(h0:H0)(X:AV)(nd:Bool)(call:Gi):Prop:=
 ∀ {Q:PV->Ob->Prop} {n:Nat} {g:Cal} {args:List PV} {st:AM} {k:PV->AM->Tr},Ev X Q n (call g args st k)->∀ {F:Fz} {ρ:Ex} {fr:Fr} {h:H} {args':List V},Rel B h0 F ρ st fr h->Bf F ρ st.nx args args'->
  ∃l,Nz X ρ h args' g l/\(nd=false->∃x,l=[x])/\
   ∀x∈l,∃n',n'<=n/\∃r st',Ev X Q n' (k r st')/\∃F' ρ',PR F' ρ' st'.nx r x.1/\Dy B h0 F ρ st.nx h st' fr x.2 F' ρ'/\(∀a,g=.fn a->∀sp,X.sp a=some sp->∀b,b<h.nx->x.2.get b=h.get b)
theorem Ev.Fe{c:Bool}{a b:Tr}(d:Ev X Q n (.ite c a b)):(c=true/\Ev X Q n a)\/(c=false/\Ev X Q n b):=by
 cases d with
 |ite e f=>
  cases c with
  |true=>exact .inl ⟨rfl,e rfl⟩
  |false=>exact .inr ⟨rfl,f rfl⟩
theorem Ev.Vw{a b:Tr}(d:Ev X Q n (.both a b)):Ev X Q n a/\Ev X Q n b:=by
 cases d with
 |both e c=>exact⟨e,c⟩
theorem Ev.AF:¬Ev X Q n .fail:=fun h=>by cases h
theorem Ev.aJ{v:PV}{ob:Ob}(a:Ev X Q n (.leaf v ob)):Q v ob:=by
 cases a with
 |leaf h=>exact h
theorem NJ(hr:Rel B h0 F ρ st fr h){ops:Array Oper}{o:Oper}{yes no:AM->Tr}(a:Ev X Q n (guarded ops o st yes no)):
  ∃g,Rel B h0 F ρ g fr h/\g.nx=st.nx/\g.ob=st.ob/\((Be fr ops o=true/\Ev X Q n (yes g))\/(Be fr ops o=false/\Ev X Q n (no g))):=by
 unfold guarded at a;unfold Be;cases s:o.guard with
 |none=>rw[s]at a;exact⟨st,hr,rfl,rfl,.inl ⟨rfl,a⟩⟩
 |some v=>
  obtain⟨j,f⟩:=v;rw[s]at a;simp only at a ⊢;cases u:(ops[j]?).bind (·.dst)with
  |none=>rw[u]at a;exact wh a Ev.AF
  |some t=>
   rw[u]at a;simp only at a ⊢;rw[show st.n=fr.n from hr.fp.n]at a;cases p:zr t fr.n with
   |false=>rw[p]at a;exact wh a Ev.AF
   |true=>
    rw[p]at a;simp only[we]at a ⊢;have i:=hr.fp.slot t;split at a
    case h_1=>
     rename_i b e;rw[e]at i;rw[OZ i];refine⟨st,hr,rfl,rfl,?_⟩;cases k:(b==f)with
     |true=>rw[k]at a;exact .inl ⟨k,a⟩
     |false=>rw[k]at a;exact .inr ⟨k,a⟩
    case h_2=>
     rename_i b e;rw[e]at i;have m:=H8 i;have note:∀c:Bool,b=c->Rel B h0 F ρ (st.set t<|.bl c) fr h:=by
      rintro c rfl;exact hr.note (by rw[m];exact IV _)
     rw[m];cases f with
     |true=>
      simp only[we]at a;rcases a.Fe with⟨d,a⟩|⟨d,a⟩
      ·exact⟨_,note true d,rfl,rfl,.inl ⟨by rw[show b=true from d];rfl,a⟩⟩
      ·exact⟨_,note false d,rfl,rfl,.inr ⟨by rw[show b=false from d];rfl,a⟩⟩
     |false=>
      simp only[wg]at a;rcases a.Fe with⟨d,a⟩|⟨d,a⟩
      ·exact⟨_,note true d,rfl,rfl,.inr ⟨by rw[show b=true from d];rfl,a⟩⟩
      ·exact⟨_,note false d,rfl,rfl,.inl ⟨by rw[show b=false from d];rfl,a⟩⟩
    case h_5=>exact wh a Ev.AF
    case h_4=>
     rename_i e;rw[e]at i;simp only[PR]at i;obtain⟨b,m⟩:=i;have note:∀c:Bool,b=c->Rel B h0 F ρ (st.set t<|.bl c) fr h:=by
      rintro c rfl;exact hr.note (by rw[m];exact IV _)
     obtain⟨r,q⟩:=a.Vw;rw[m];cases b with
     |true=>
      cases f with
      |true=>exact⟨_,note true rfl,rfl,rfl,.inl ⟨rfl,r⟩⟩
      |false=>exact⟨_,note true rfl,rfl,rfl,.inr ⟨rfl,r⟩⟩
     |false=>
      cases f with
      |true=>exact⟨_,note false rfl,rfl,rfl,.inr ⟨rfl,q⟩⟩
      |false=>exact⟨_,note false rfl,rfl,rfl,.inl ⟨rfl,q⟩⟩
    case h_3=>
     rename_i l e;rw[e]at i;simp only[PR]at i;obtain⟨cs,m,_⟩:=i;rw[m];exact⟨st,hr,rfl,rfl,.inr ⟨rfl,a⟩⟩
theorem Jy{d:Option Nat}{k:AM->Tr}:∀ {l:PO},Ev X Q n (Pv d k l)->∃u s g,l.To u s/\s.put d u=some g/\Ev X Q n (k g)
 | .bad,e=>wh e Ev.AF
 | .val u s,e=>by
  simp only[Pv]at e;split at e
  ·rename_i s1 m;exact⟨u,s,s1,.val,m,e⟩
  ·exact wh e Ev.AF
 | .ite c a b,e=>by
  simp only[Pv]at e;rcases e.Fe with⟨rfl,f⟩|⟨rfl,f⟩
  ·obtain⟨u,s,s1,i,j⟩:=Jy f;exact⟨u,s,s1,.tt i,j⟩
  ·obtain⟨u,s,s1,i,j⟩:=Jy f;exact⟨u,s,s1,.ff i,j⟩
inductive rM (X:AV) (fr:Fr) (h:H) (o:Oper):List (V×H)->Prop where
 |val {x:V} {h':H}:GL X.C fr h o=some (.val x h')->rM X fr h o [(x,h')]
 |skip {h':H}:GL X.C fr h o=some (.skip h')->rM X fr h o [(.tup [],h')]
 |alts {l:List (V×H)}:GL X.C fr h o=some (.alts l)->rM X fr h o l
 |call {g:FuncId} {args:List V} {l:List (V×H)} {M:Nat}:GL X.C fr h o=some (.enter g args)->(∀m,M<=m->Bl X.C m (.fn g args) h=some l)->rM X fr h o l
 |round {b:Nat} {ls:LS} {f:Fr} {l:List (V×H)} {M:Nat}:GL X.C fr h o=some (.round b ls f)->(∀m,M<=m->Bl X.C m (.rnd b ls f) h=some l)->rM X fr h o l
theorem HZ{nd:Bool}{call:Gi}(E:FM B h0 X nd call)(hr:Rel B h0 F ρ st fr h){o:Oper}{k:AM->Tr}(S:Ev X Q n (HK X.C.T call o st k)):
  ∃l,rM X fr h o l/\((nd=false->(∃x,l=[x])/\∀l',GL X.C fr h o≠some (.alts l'))/\((∀id a,KQ st o.op≠ .yes (.rnd id) a)->∀b ls f,GL X.C fr h o≠some (.round b ls f)))/\∀x∈l,∃n',n'<=n/\∃v,Ev X Q n' (k v)/\∃F' ρ' fr',fr.put o.dst x.1=some fr'/\Dy B h0 F ρ st.nx h v fr' x.2 F' ρ'/\
   ∀D,Hi X.sp st o.op=some D->∀b,b<h.nx->x.2.get b=h.get b\/∃id∈D,∃m,ρ id=some (b,m):=by
 unfold HK at S;split at S
 case h_2=>exact wh S Ev.AF
 case h_1=>
  rename_i g args A;unfold KQ at A;split at A
  case h_2=>cases A
  rename_i c z;split at A
  case h_2=>cases A
  rename_i f p;split at A
  case h_3=>cases A
  case h_2=>
   rename_i id ps R J;cases A;obtain⟨fv,Z,Y⟩:=Co (C:=X.C) hr.fp R;obtain⟨av,a1,a2⟩:=Fu (C:=X.C) hr.fp J;simp only[PR]at Y;obtain⟨l,hcd,hnd,hall⟩:=E S hr a2;obtain⟨hcd1,hM⟩:=hcd;obtain⟨b,m,ls,c1,c2,c3,rfl⟩:=hcd1;obtain rfl:=Y.2 b m c1;have d:GL X.C fr h o=some (.round b ls<|GJ ls.ps.toList av ls.fr):=by
    rw[Db];unfold G7;have P:zf av.length ls.ps.size=true:=by rw[c3];exact z7 _
    simp only[z,p,a1,Z,K9,c2,P,we]
   refine⟨l,.round d hM,⟨fun e=>⟨hnd e,fun l'=>by rw[d];intro h;cases h⟩,fun hno=>?_⟩,fun x O=>?_⟩
   ·exact wh (by unfold KQ;simp only[z,p,R,J])<|hno id args
   obtain⟨n',hn,r,st',y,F',ρ',hp,K,U⟩:=hall x O;split at y
   case h_2=>exact wh y Ev.AF
   rename_i v G;obtain⟨fr',w,V,W,g4⟩:=K.rel.put hp G;refine⟨n',hn,v,y,F',ρ',fr',w,⟨V,by rw[W];exact K.le,K.nx⟩,fun D j b P=>?_⟩;simp only[z,Hi,p,R]at j;cases j
  rename_i g' first cap ps R J
  cases A;obtain⟨fv,Z,Y⟩:=Co (C:=X.C) hr.fp R;obtain⟨av,a1,a2⟩:=Fu (C:=X.C) hr.fp J;simp only[PR]at Y;obtain⟨fa,fb,rfl,f3,f4⟩:=Y;have M:Bf F ρ st.nx (first++ps++cap) (fa++av++fb):=(f3.append a2).append f4;obtain⟨l,hcd,hnd,hall⟩:=E S hr M;have I:rM X fr h o l/\(∀l',GL X.C fr h o≠some (.alts l'))/\∀b ls f,GL X.C fr h o≠some (.round b ls f):=by
   cases hcd with
   |Bl A hM=>
    obtain⟨rfl,L,i,hfn⟩:=A;have d:GL X.C fr h o=some (.enter g'<|fa++av++fb):=by
     rw[Db];unfold G7;simp only[z,p,a1,Z,K9,L,hfn]
    exact⟨.call d hM,fun l'=>(by rw[d];intro h;cases h),fun b ls f=>(by rw[d];intro h;cases h)⟩
   |prim hq O=>
    rename_i q x;have d:GL X.C fr h o=some (.val x.1 x.2):=by
     rw[Db];unfold G7;simp only[z,p,a1,Z,K9,hq,O,FG]
    exact⟨.val d,fun l'=>(by rw[d];intro h;cases h),fun b ls f=>(by rw[d];intro h;cases h)⟩
  refine⟨l,I.1,⟨fun e=>⟨hnd e,I.2.1⟩,fun _=>I.2.2⟩,fun x O=>?_⟩;obtain⟨n',hn,r,st',y,F',ρ',hp,K,U⟩:=hall x O;split at y
  case h_2=>exact wh y Ev.AF
  rename_i v G;obtain⟨fr',w,V,W,g4⟩:=K.rel.put hp G;refine⟨n',hn,v,y,F',ρ',fr',w,⟨V,by rw[W];exact K.le,K.nx⟩,fun D j b P=>?_⟩;simp only[z,Hi,p,R]at j;cases hs:X.sp g' with
  |none=>rw[hs]at j;cases j
  |some sp=>exact .inl<|U g' rfl sp hs b P
 case h_3=>
  obtain⟨u,s,v,h1,h2,h3⟩:=Jy S;obtain⟨tch,⟨v',h',F',ρ',w,V,W,g4,g5,g6,g7,g8⟩,htch⟩:=tY (C:=X.C) hr h1;have hrs:Rel B h0 F' ρ' s fr h':=⟨⟨by rw[g6];exact hr.fp.n,fun t=>by
   have:s.get t=st.get t:=by unfold AM.get;rw[g5]
   rw[this];exact(hr.fp.slot t).mono g4⟩,W⟩
  obtain⟨fr',k1,k2,k3,k4⟩:=hrs.put V h2;refine⟨[(v',h')],?_,⟨fun _=>⟨⟨_,rfl⟩,fun l'=>by rcases w with w|⟨w,_⟩<;>rw[w]<;>intro h<;>cases h⟩,fun _ b ls f=>by rcases w with w|⟨w,_⟩<;>rw[w]<;>intro h<;>cases h⟩,fun x O=>?_⟩
  ·rcases w with w|⟨w,rfl⟩
   ·exact .val w
   ·exact .skip w
  ·cases zk.1 O;refine⟨n,ze _,v,h3,F',ρ',fr',k1,⟨k2,by rw[k3];exact g4,g7⟩,fun D j b P=>?_⟩;rcases g8 b P with e|⟨id,hi,m,e⟩
   ·exact .inl e
   ·exact .inr ⟨id,htch _ _ j id hi,m,e⟩
theorem Aa9{α a:Type}{f:α->Option (List a)}{x:α}:bl [x] f=f x:=by
 unfold bl;cases f x<;>rfl
theorem Mn{α o:Type}{f:Nat->Nat->α->Option (List o)}{P:o->Prop}{nd:Bool}{l:List α}(c:nd=false->∃x,l=[x])(h:∀a∈l,∃r M,(∀m,M<=m->∀q,M<=q->f m q a=some r)/\(nd=false->∃x,r=[x])/\∀y∈r,P y):
  ∃r M,(∀m,M<=m->∀q,M<=q->bl l (f m q)=some r)/\(nd=false->∃x,r=[x])/\∀y∈r,P y:=by
 cases nd with
 |false=>
  obtain⟨x,rfl⟩:=c rfl;obtain⟨r,M,i,g,h3⟩:=h x<|zk.2 rfl;exact⟨r,M,fun m k q j=>by rw[Aa9];exact i m k q j,g,h3⟩
 |true=>
  clear c;suffices hs:∃r M,(∀m,M<=m->∀q,M<=q->bl l (f m q)=some r)/\∀y∈r,P y by
   obtain⟨r,M,i,g⟩:=hs;exact⟨r,M,i,fun e=>(by cases e),g⟩
  induction l with
  |nil=>exact⟨[],0,fun _ _ _ _=>rfl,fun y d=>by cases d⟩
  |cons a l s=>
   obtain⟨r,M,i,_,g⟩:=h a List.mem_cons_self;obtain⟨r2,M2,h3,h4⟩:=s<|fun x p=>h x<|List.mem_cons_of_mem _ p;cases l with
   |nil=>exact⟨r,M,fun m k q j=>(by simp only[bl,i m k q j]),g⟩
   |cons b l=>
    refine⟨r++r2,max M M2,fun m k q j=>?_,fun y d=>?_⟩
    ·unfold bl;rw[i m (by omega) q<|by omega];simp only;rw[h3 m (by omega) q<|by omega]
    ·rcases List.mem_append.1 d with d|d
     ·exact g y d
     ·exact h4 y d
theorem Pk{d:Option Nat}{P:Fr×H->Prop}:∀ {l:List (V×H)},(∀x∈l,∃fr',fr.put d x.1=some fr'/\P (fr',x.2))->∃r,HI fr d l=some r/\(∀y∈r,P y)/\((∃x,l=[x])->∃y,r=[y])
 |[],_=>⟨[],rfl,fun y a=>(by cases a),fun⟨x,h⟩=>by cases h⟩
 |x::l,h=>by
  obtain⟨fr',e,b⟩:=h x List.mem_cons_self;obtain⟨r,h3,h4,_⟩:=Pk (l:=l)<|fun y a=>h y<|List.mem_cons_of_mem _ a;refine⟨(fr',x.2)::r,?_,fun y a=>?_,fun⟨z,c⟩=>?_⟩
  ·obtain⟨v,f⟩:=x;unfold HI;rw[e];simp only;rw[h3]
  ·rcases List.mem_cons.1 a with rfl|a
   ·exact b
   ·exact h4 y a
  ·cases c;cases h3;exact⟨_,rfl⟩
theorem rM.Aex{l:List (V×H)}{o:Oper}{ops:Array Oper}(a:rM X fr h o l)(c:Be fr ops o=true){P:Fr×H->Prop}(hp:∀x∈l,∃fr',fr.put o.dst x.1=some fr'/\P (fr',x.2)):
  ∃r M,(∀m,M<=m->step1 X.C (Bl X.C m) ops o fr h=some r)/\((∃x,l=[x])->∃y,r=[y])/\∀y∈r,P y:=by
 obtain⟨r,s,i,j⟩:=Pk hp;cases a with
 |@val x h' a=>
  obtain⟨fr',d,p⟩:=hp _<|zk.2 rfl;exact⟨[(fr',h')],0,fun m _=>(by simp only[step1,c,we,I8,a,d]),fun _=>⟨_,rfl⟩,fun y k=>by cases zk.1 k;exact p⟩
 |@skip h' a=>
  obtain⟨fr',d,p⟩:=hp _<|zk.2 rfl;exact⟨[(fr',h')],0,fun m _=>(by simp only[step1,c,we,I8,a,d]),fun _=>⟨_,rfl⟩,fun y k=>by cases zk.1 k;exact p⟩
 |alts a=>exact⟨r,0,fun m _=>by simp only[step1,c,we,I8,a,s],j,i⟩
 |@call g args l M a e=>exact⟨r,M,fun m q=>by simp only[step1,c,we,I8,a,e m q,s],j,i⟩
 |@round b ls f l M a e=>exact⟨r,M,fun m q=>by simp only[step1,c,we,I8,a,e m q,s],j,i⟩
theorem bZ{T:Cc}{h:H}{s d:TypeId}{b off:Nat}:Gm T h s d (.ptr b off)=none:=by
 unfold Gm;split<;>first|rfl|(rename_i e;cases e)
theorem iV(hr:Rel B h0 F ρ st fr h){o:Oper}{v:PV}(a:Abl X.C.T st o.op=some v):OK B h0 F ρ st h [] (I8 X.C fr h o) v st:=by
 have fin:∀ {s d:TypeId} {x:Operand} {b off:Nat} {u:V},o.op=.convert s d x->ev X.C fr x=some (.ptr b off)->Bx X.C.T h s d (.ptr b off)=some u->PR F ρ st.nx v u->OK B h0 F ρ st h [] (I8 X.C fr h o) v st:=by
  intro s d x b off u f j g A;have k:GL X.C fr h o=none:=by
   rw[Db];unfold G7;rw[f];simp only[j,bZ];rfl
  refine zg hr.sr (v':=u) ?_ A;unfold I8;rw[k,f];simp only[j,g]
 unfold Abl at a;split at a
 case h_2=>cases a
 rename_i s d x f;split at a
 case h_3=>cases a
 case h_1=>
  rename_i t id off m q r;split at a
  case h_2=>cases a
  rename_i i tb cs w p;cases c:(zr 0 i.size&&zr off (Det.EP cs))with
  |false=>rw[c]at a;cases a
  |true=>
   rw[c]at a;cases a;obtain⟨y,j,g⟩:=Co (C:=X.C) hr.fp r;obtain⟨b,n,z,k1,k2,⟨bs,fz,rfl,k4,_⟩,_⟩:=hr.sr.at p;have l:=g;simp only[PR]at l;obtain rfl:=l.2 b n k1;refine fin f j ?_ g;unfold Bx;rw[m,q];simp only[w,k2];rw[Da,k4.len]at c;rw[c];rfl
 case h_2=>
  rename_i u id off m q r;split at a
  case h_2=>cases a
  rename_i i e cs w p;cases c:(zr 0 i.size&&zl i.size (Det.EP cs)&&zf e u&&zf off 0)with
  |false=>rw[c]at a;cases a
  |true=>
   rw[c]at a;cases a;obtain⟨y,j,g⟩:=Co (C:=X.C) hr.fp r;obtain⟨b,n,z,k1,k2,⟨bs,fz,rfl,k4,_⟩,_⟩:=hr.sr.at p;have l:=g;simp only[PR]at l;obtain rfl:=l.2 b n k1;have h0:off=0:=by
    simp only[zc]at c;exact zd c.2
   subst h0;refine fin f j (u:=.ptr b 0) ?_ g;unfold Bx;rw[m,q];simp only[w,k2];rw[Da,k4.len]at c;rw[c];rfl
theorem V2(hr:Rel B h0 F ρ st fr h){o:Oper}{v:PV}{c:AM}(a:T6 X.C.T st o.op=some (v,c)):OK B h0 F ρ st h [] (I8 X.C fr h o) v c:=by
 unfold T6 at a;split at a
 case h_2=>cases a
 rename_i s d x g;split at a
 case h_2=>cases a
 rename_i e l k q r;split at a
 case h_2=>cases a
 rename_i z;cases a;obtain⟨y,t,A⟩:=Co (C:=X.C) hr.fp r;obtain rfl:=FI A;have f:GL X.C fr h o=none:=by
  rw[Db];unfold G7;rw[g];simp only[t,Gm,k,q];rfl
 have r:I8 X.C fr h o=FG (some (.sl h.nx 0 l.length l.length 1,h.push<|.cells (l.map fun b=>.int .u8<|.ofNat b.toNat) e (0,0))):=by
  have i:Bx X.C.T h s d (.str l)=none:=by unfold Bx;rw[k,q]
  unfold I8;rw[f,g];simp only[t,i,Ux,k,q,z]
 rw[r];refine OK.new hr.sr (o:=.arr false e (.int .u8)<|l.map fun b=>(b.toNat:Int)) (n:=l.length) rfl ⟨l.map fun b=>y7 .u8<|.ofNat b.toNat,(0,0),rfl,⟨by simp[Sh.sz],fun j w=>?_⟩,ze _,by simp⟩ ?_
 ·have p:j<l.length:=by simpa using w
  have u:((l.map fun b=>y7 .u8<|.ofNat b.toNat).drop<|j*1).take 1=[y7 .u8<|.ofNat (l[j]).toNat]:=by
   rw[ym,zw<|by simpa using p];simp
  show DC _ (.int .u8) _<|((l.map fun b=>y7 .u8<|.ofNat b.toNat).drop<|j*1).take 1;rw[u];simp[DC]
 ·unfold PR;refine⟨zz _,fun b m a=>.inl ⟨ze _,?_,1,.inr rfl,?_⟩⟩
  ·simp[BV]at a;show 0+l.length<=m;omega
  ·simp[BV]at a;rw[<-a.1];simp
theorem Xw(hr:Rel B h0 F ρ st fr h){o:Oper}{v:PV}{b:AM}(a:Yd X.C.T st o.op=some (v,b)):OK B h0 F ρ st h [] (I8 X.C fr h o) v b:=by
 unfold Yd at a;split at a
 case h_1=>rename_i r c;cases a;exact V2 hr c
 case h_2=>
  split at a
  case h_2=>cases a
  rename_i u d;cases a;exact iV hr d
theorem Vb{nd:Bool}{call:Gi}(j:FM B h0 X nd call){ops:Array Oper}:∀ {l:List Oper} {n:Nat} {st:AM} {F:Fz} {ρ:Ex} {fr:Fr} {h:H} {k:AM->Tr},Rel B h0 F ρ st fr h->Ev X Q n (prun X.C.T call ops l st k)->
  ∃r M,(∀m,M<=m->SZ X.C (Bl X.C m) ops l fr h=some r)/\(nd=false->∃x,r=[x])/\∀x∈r,∃n',n'<=n/\∃c,Ev X Q n' (k c)/\∃F' ρ',Dy B h0 F ρ st.nx h c x.1 x.2 F' ρ'
 |[],n,st,F,ρ,fr,h,k,hr,g=>⟨[(fr,h)],0,fun _ _=>rfl,fun _=>⟨_,rfl⟩,fun x hx=>by cases zk.1 hx;exact⟨n,ze _,st,g,F,ρ,Dy.refl hr⟩⟩
 |o::i,n,st,F,ρ,fr,h,k,hr,g=>by
  unfold prun at g;obtain⟨c,p,Y,e2,s⟩:=NJ hr g;have fin:∀ {l:List (Fr×H)},(∃M,∀m,M<=m->step1 X.C (Bl X.C m) ops o fr h=some l)->(nd=false->∃x,l=[x])->
    (∀y∈l,∃n',n'<=n/\∃a,Ev X Q n' (prun X.C.T call ops i a k)/\∃F' ρ',Dy B h0 F ρ st.nx h a y.1 y.2 F' ρ')->
    ∃r M,(∀m,M<=m->SZ X.C (Bl X.C m) ops (o::i) fr h=some r)/\(nd=false->∃x,r=[x])/\∀x∈r,∃n',n'<=n/\∃c,Ev X Q n' (k c)/\∃F' ρ',Dy B h0 F ρ st.nx h c x.1 x.2 F' ρ':=by
   rintro l ⟨M1,hM1⟩ G hl;obtain⟨r,M,J,I,S⟩:=Mn (f:=fun m _ (x:Fr×H)=>SZ X.C (Bl X.C m) ops i x.1 x.2) (P:=fun x=>∃n',n'<=n/\∃c,Ev X Q n' (k c)/\∃F' ρ',Dy B h0 F ρ st.nx h c x.1 x.2 F' ρ') G fun y V=>by
    obtain⟨n1,q,a,w,F1,L,b⟩:=hl y V;obtain⟨r,M,J,S,I⟩:=Vb j b.rel w;refine⟨r,M,fun m hm _ _=>J m hm,S,fun z hz=>?_⟩;obtain⟨n2,hn2,st3,he3,F2,ρ2,hwent2⟩:=I z hz;exact⟨n2,yt hn2 q,st3,he3,F2,ρ2,b.trans hwent2⟩
   refine⟨r,max M M1,fun m hm=>?_,I,S⟩;simp only[SZ,hM1 m<|by omega];exact J m (by omega) m (by omega)
  rcases s with⟨K,g⟩|⟨K,g⟩
  ·unfold zA at g;split at g
   case h_1=>
    rename_i v E hb;split at g
    case h_2=>exact wh g Ev.AF
    rename_i a d;obtain⟨v',h',F',ρ',A,W,g3,g4,g5,g6,g7,g8⟩:=Xw p hb;have Z:Rel B h0 F' ρ' E fr h':=⟨⟨by rw[g6];exact p.fp.n,fun t=>by
     have:E.get t=c.get t:=by unfold AM.get;rw[g5]
     rw[this];exact(p.fp.slot t).mono g4⟩,g3⟩
    have hpr:∃u,PR F' ρ' E.nx v u/\∀fr',fr.put o.dst u=some fr'->∀m,step1 X.C (Bl X.C m) ops o fr h=some [(fr',h')]:=by
     rcases A with A|⟨A,rfl⟩
     ·exact⟨v',W,fun fr' U m=>by simp only[step1,K,we,A,U]⟩
     ·exact⟨.tup [],W,fun fr' U m=>by simp only[step1,K,we,A,U]⟩
    obtain⟨u,hu,D0⟩:=hpr;obtain⟨fr',U,k2,k3,k4⟩:=Z.put hu d;refine fin (l:=[(fr',h')]) ⟨0,fun m _=>D0 fr' U m⟩ (fun _=>⟨_,rfl⟩) fun y V=>?_
    cases zk.1 V;exact⟨n,ze _,a,g,F',ρ',k2,by rw[k3, <-Y];exact g4,g7⟩
   obtain⟨l,O,hnd,R⟩:=HZ j p g;obtain⟨r,M,J,S,I⟩:=O.Aex (ops:=ops) (P:=fun y=>∃n',n'<=n/\∃a,Ev X Q n' (prun X.C.T call ops i a k)/\∃F' ρ',Dy B h0 F ρ st.nx h a y.1 y.2 F' ρ') K fun x hx=>by
    obtain⟨n1,q,a,w,F1,L,D,d,b,_⟩:=R x hx;rw[Y]at b;exact⟨D,d,n1,q,a,w,F1,L,b⟩
   exact fin ⟨M,J⟩ (fun e=>S (hnd.1 e).1) I
  ·unfold M5 at g;split at g
   case h_2=>exact wh g Ev.AF
   rename_i a d;obtain⟨D,A,W,g3,g4⟩:=p.put (x:=.tup []) (by simp[PR]) d;refine fin (l:=[(D,h)]) ⟨0,fun m _=>by simp only[step1,K,wg,A]⟩ (fun _=>⟨_,rfl⟩) fun y V=>?_
   cases zk.1 V;exact⟨n,ze _,a,g,F,ρ,W,by rw[g3,Y];exact yf,ze _⟩
end
end Go.Pe
