import Derived.Test.YtlohiljbghionaaGreatDoorX07
/- A part of a proof; no law is stated here. -/
noncomputable section
open Bool renaming and_eq_true -> zc, and_self -> yq, or_true -> yz
open Nat renaming eq_of_beq_eq_true -> zd, le_refl -> ze, beq -> zf, mul_le_mul_right -> zh, ble_eq_true_of_le -> zi, ble -> zl, add_mul -> zp, blt -> zr, succ_mul -> zt, zero_mul -> zu, lt_succ_self -> zz, beq_refl -> z7, min_eq_left -> ye, sub_self -> yk, mul_one -> ym, le_trans -> yt, add_assoc -> yx, add_comm -> yy
open Go.Pe.OK renaming pure -> zg
open Option.some renaming injEq -> zj
open List renaming mem_singleton -> zk, replicate -> zn, length_eq_zero_iff -> zo, drop_eq_getElem_cons -> zw, replicate_succ -> zx, all_eq_true -> z6, length_replicate -> ya, getElem?_append_right -> yb, getElem?_append_left -> yc, length_nil -> yd, drop_zero -> yg, getElem?_range -> yj, flatten_cons -> yn, ext_getElem? -> yo, getElem?_map -> yp, getElem_cons_zero -> yu, take_of_length_le -> yv, length_map -> yw
open Option renaming map_eq_some_iff -> zm, map_some -> zq, getD_some -> yh
open Int renaming ofNat -> zy, eq_ofNat_of_zero_le -> yr
open Prod.mk renaming injEq -> z8
open Go.Pe.Le renaming refl -> yf
open List.cons renaming injEq -> yi
open Go.Det.V renaming int -> y7
open Go.Pe renaming Ci -> y8
namespace Go.Pe
open Go.Det
section
variable {B:Nat}{h0:H0}{F:Fz}{ρ:En}{N:Nat}{C:Ctx}{st st':AL}{fr:Fr}{h:H}
theorem SR.live(hr:SR B h0 F ρ st.nx st.ob h){id:Nat}(c:Is (st.obj id)=true):∃b n,ρ id=some (b,n):=by
 obtain⟨o,a⟩:=Jb c;obtain⟨b,n,_,h1,_⟩:=hr.at a;exact⟨b,n,h1⟩
theorem DS{i:Int}(h:0<=i):∃n:Nat,i=zy n/\i.toNat=n:=⟨i.toNat,(Int.toNat_of_nonneg h).symm,rfl⟩
theorem DM{a b:Nat}(h:a<b):zr a b=true:=zi h
theorem eJ(hr:SR B h0 F ρ st.nx st.ob h){t:TypeId}{p q:PV}{x y:V}(g:PR F ρ st.nx p x)(S:PR F ρ st.nx q y){v:PV}(a:(Tt C.T t p q st).To v st'):
  OK B h0 F ρ st h [] (Bx h<|Dk C.T t x y) v st':=by
 unfold Tt at a;split at a
 case h_3=>simp at a
 case h_2=>
  rename_i z e k i I;obtain rfl:=CU S;split at a
  case h_2=>simp at a
  rename_i G r;split at a
  case h_4=>simp at a
  case h_1=>
   rename_i id off;simp only[PR]at g;split at a
   case h_3=>exact wh a (by simp)
   case h_1=>
    rename_i Y te s l L;cases E:(zf off 0&&zf G.size s.sz)with
    |false=>rw[E]at a;simp at a
    |true=>
     rw[E]at a;rw[zc]at E;have K:=zd E.1;have P:=zd E.2;subst K;simp only[we,BJ,zc,w5]at a;obtain⟨⟨f,c⟩,rfl,rfl⟩:=a;obtain⟨n,rfl,hn⟩:=DS f;have d:n<z:=by simp at c;exact c
     obtain⟨b,m,_,w,_⟩:=hr.at L;obtain rfl:=g.2 b m w;refine zg hr (v':=.ptr b<|0+n*G.size) ?_ ?_
     ·show Bx h (Dk C.T t (.ptr b 0)<|.int k<|zy n)=_;simp only[Dk,I,r,DM d,we,Bx]
     ·simp only[PR];refine⟨g.1,fun b' n' D=>?_⟩;rw[w]at D;cases D;rw[hn,P,Nat.zero_add];rfl
   case h_2=>
    rename_i o _ L;simp only[BJ,zc,w5]at a;obtain⟨⟨f,c⟩,rfl,rfl⟩:=a;obtain⟨n,rfl,hn⟩:=DS f;have d:n<z:=by simp at c;exact c
    obtain⟨b,m,_,w,_⟩:=hr.at L;obtain rfl:=g.2 b m w;refine zg hr (v':=.ptr b<|off+n*G.size) ?_ ?_
    ·show Bx h (Dk C.T t (.ptr b off)<|.int k<|zy n)=_;simp only[Dk,I,r,DM d,we,Bx]
    ·simp only[PR];refine⟨g.1,fun b' n' D=>?_⟩;rw[w]at D;cases D;rw[hn];rfl
  case h_2=>
   rename_i id sz j off;cases J:Is (st.obj id)with
   |false=>rw[J]at a;simp at a
   |true=>
    rw[J]at a;simp only[we,BJ,zc,w5]at a;obtain⟨⟨f,c⟩,rfl,rfl⟩:=a;obtain⟨n,rfl,hn⟩:=DS f;have d:n<z:=by simp at c;exact c
    obtain⟨b,m,w⟩:=hr.live J;simp only[PR]at g;obtain rfl:=g.2 b m w;refine zg hr (v':=.ptr b<|j*sz+off+n*G.size) ?_ ?_
    ·show Bx h (Dk C.T t (.ptr b<|j*sz+off)<|.int k<|zy n)=_;simp only[Dk,I,r,DM d,we,Bx]
    ·simp only[PR];refine⟨g.1,fun b' n' D=>?_⟩;rw[w]at D;cases D;rw[hn,yx];rfl
  case h_3=>
   rename_i s y off;simp only[BJ,zc,w5]at a;obtain⟨⟨f,c⟩,rfl,rfl⟩:=a;obtain⟨n,rfl,hn⟩:=DS f;have d:n<z:=by simp at c;exact c
   simp only[PR]at g;obtain⟨b,o,cs,rfl,w,O,R⟩:=g;refine zg hr (v':=.ptr b<|o+off+n*G.size) ?_ ?_
   ·show Bx h (Dk C.T t (.ptr b<|o+off)<|.int k<|zy n)=_;simp only[Dk,I,r,DM d,we,Bx]
   ·simp only[PR];refine⟨b,o,cs,?_,w,O,R⟩;rw[hn,yx];rfl
 case h_1=>
 rename_i e k i I;obtain rfl:=CU S;split at a
 case h_2=>simp at a
 rename_i G r;split at a
 case h_3=>simp at a
 case h_1=>
  rename_i s l;cases A:zf G.size s.sz with
  |false=>rw[A]at a;simp at a
  |true=>
   rw[A]at a;have A:=zd A;simp only[we,BJ,zc,w5]at a;obtain⟨⟨f,c⟩,rfl,rfl⟩:=a;obtain⟨n,rfl,hn⟩:=DS f;have d:n<l.length:=by simp at c;exact c
   simp only[PR,DC]at g;obtain⟨u,M,g⟩:=g;obtain rfl:x=u:=by simpa using M
   rcases g with⟨rfl,_⟩|⟨b,off,cap,o,W,rfl,w,O,R,_,U⟩
   ·simp at d
   ·refine zg hr (v':=.ptr b<|off+n*G.size) ?_ ?_
    ·show Bx h (Dk C.T t (.sl b off l.length cap o)<|.int k<|zy n)=_;simp only[Dk,I,r,DM d,we,Bx]
    ·simp only[PR];refine⟨b,off+n*s.sz,W,by rw[A];rfl,O,?_,?_⟩
     ·have:(n+1)*s.sz<=l.length*s.sz:=zh _ d;rw[zt]at this;omega
     ·have:=U n d;rw[hn,show l.getD n s.Hb=l[n]from by simp[d]];exact this
 case h_2=>
  rename_i id sz off len cap;cases A:(zf G.size sz&&Is (st.obj id))with
  |false=>rw[A]at a;simp at a
  |true=>
   rw[A]at a;simp only[zc]at A;obtain⟨A,J⟩:=A;have A:=zd A;simp only[we,BJ,zc,w5]at a;obtain⟨⟨f,c⟩,rfl,rfl⟩:=a;obtain⟨n,rfl,hn⟩:=DS f;have d:n<len:=by simp at c;exact c
   obtain⟨b,m,w⟩:=hr.live J;simp only[PR]at g;rcases g.2 b m w with⟨_,_,o,_,rfl⟩|⟨Z,_⟩
   ·refine zg hr (v':=.ptr b<|off*sz+n*G.size) ?_ ?_
    ·show Bx h (Dk C.T t (.sl b (off*sz) len _ o)<|.int k<|zy n)=_;simp only[Dk,I,r,DM d,we,Bx]
    ·simp only[PR];refine⟨g.1,fun b' n' D=>?_⟩;rw[w]at D;cases D;rw[A,hn];show V.ptr b (off*sz+n*sz)=.ptr b ((n+off)*sz+0);rw[zp,yy<|n*sz];rfl
   ·omega
theorem tC(hr:SR B h0 F ρ st.nx st.ob h){t:TypeId}{p q:PV}{x y:V}(o:PR F ρ st.nx p x)(G:PR F ρ st.nx q y){v:PV}(c:(X4 C.T t p q st).To v st'):
  OK B h0 F ρ st h [] (Bx h<|H7 C.T t x y) v st':=by
 unfold X4 at c;split at c
 case h_3=>simp at c
 case h_2=>
  rename_i j e ps k i w;obtain rfl:=CU G;split at c
  case h_2=>simp at c
  rename_i d D E f;simp only[Pv,zc,w5]at c;obtain⟨⟨g,a⟩,l,rfl⟩:=c;obtain⟨n,rfl,hn⟩:=DS g;have b:n<j:=by simp at a;exact a
  simp only[PR]at o;obtain⟨cs,rfl,z⟩:=o;rw[Mq,hn]at l;have hp:=z.drop<|n*D.size;have m:H7 C.T t (.agg cs) (.int k<|zy n)=Lg C.T e cs (n*D.size):=by simp only[H7,w,f,DM b,we]
  rcases Lo hp l with⟨r,_,_,A⟩|⟨r,u,K,I,A⟩
  ·exact zg hr (by rw[m];simp only[Lg,E,f,r,we,Bx]) A
  ·have:cs[n*D.size]?=some u:=by
    have:=wi (·[0]?) I;simpa using this
   exact zg hr (by rw[m];simp only[Lg,E,f,r,wg,this,Bx]) A
 case h_1=>
 rename_i s k i w;obtain rfl:=FC o;obtain rfl:=CU G;simp only[BJ,zc,w5]at c;obtain⟨⟨g,a⟩,rfl,rfl⟩:=c;obtain⟨n,rfl,hn⟩:=DS g;have b:n<List.length s:=by simp at a;exact a
 have J:(s:Z)[n]?=some (s:Z)[n]:=List.getElem?_eq_getElem b;refine zg hr (v':=.int .u8 ((s:Z)[n].toNat:Int)) ?_ ?_
 ·show Bx h (H7 C.T t (.str s)<|.int k<|zy n)=_;simp only[H7,w,J,Bx]
 ·rw[hn,show List.getD (s:Z) n 0=(s:Z)[n]from by simp[b]];exact Ds _ _
theorem cK(hr:SR B h0 F ρ st.nx st.ob h){p:PV}{x:V}(b:PR F ρ st.nx p x){i:Nat}{v:PV}(a:(QN p i st).To v st'):OK B h0 F ρ st h [] (Bx h<|He x i) v st':=by
 unfold QN at a;split at a
 case h_2=>simp at a
 rename_i ps;split at a
 case h_2=>simp at a
 rename_i q c;simp only[AU]at a;obtain⟨rfl,rfl⟩:=a;simp only[PR]at b;obtain⟨cs,rfl,hps⟩:=b;obtain⟨u,h1,h2⟩:=hps.get c;exact zg hr (by simp only[He,h1,Bx]) h2
def Uf(F:Fz)(ρ:En)(N:Nat):Option PV->Option V->Prop
 |none,x=>x=none
 |some p,x=>∃v,x=some v/\PR F ρ N p v
theorem D7{o:Option PV}{x:Option V}{d:Nat}{c:Bool}{n:Nat}(a:Uf F ρ N o x)(hp:pb o d=some (c,n))(e:c=true){y:Nat}(b:n<=y):CL x y d=some n:=by
 unfold pb at hp;split at hp
 ·cases hp;simp only[Uf]at a;subst a;rfl
 ·cases hp;simp only[Uf]at a;obtain⟨v,rfl,f⟩:=a;obtain rfl:=CU f;simp only[w5]at e;obtain⟨m,rfl,hm⟩:=DS e;rw[hm]at b;show(bif zl m y then some m else none)=_;rw[zi b,hm];rfl
 ·cases hp
theorem Uf.isNone{o:Option PV}{x:Option V}(a:Uf F ρ N o x):(o=none↔x=none):=by
 cases o with
 |none=>simp only[Uf]at a;simp[a]
 |some p=>simp only[Uf]at a;obtain⟨v,rfl,_⟩:=a;simp
theorem M0{T:B6}{t e:TypeId}{f:TI}{b off len cap o m c l:Nat}{lo d mx:Option V}(j:T.und t=some (.slice e))(a:T.inf e=some f)(p:CL mx cap cap=some m)(i:CL d m len=some c)
  (k:CL lo c 0=some l) (g:d=none->mx=none):
  DJ T t (.sl b off len cap o) lo d mx=bif zf m l then(bif zf (JY mx o) 0 then some (.sl b off (c-l) (m-l) 0)else some .esl)
   else bif zf (JY mx o) 0||zf (JY mx o) f.size then some (.sl b (off+l*f.size) (c-l) (m-l)<|JY mx o)else none:=by
 cases d with
 |some x=>cases mx<;>simp only[DJ,j,a,p,i,k]
 |none=>
  cases g rfl;simp only[DJ,j,a,p,i,k]
theorem gP(hr:SR B h0 F ρ st.nx st.ob h){t:TypeId}{p:PV}{x:V}{lo hi mx:Option PV}{a b c:Option V}(G:PR F ρ st.nx p x)(R:Uf F ρ st.nx lo a)(r:Uf F ρ st.nx hi b)(k:Uf F ρ st.nx mx c)
  {v:PV} (d:(Sc C.T t p lo hi mx st).To v st'):OK B h0 F ρ st h [] (Bx h<|DJ C.T t x a b c) v st':=by
 unfold Sc at d;split at d
 case h_3=>simp at d
 case h_1=>
  rename_i U;split at d
  case h_2=>simp at d
  rename_i s;obtain rfl:=FC G;split at d
  case h_2=>simp at d
  rename_i c1 l c2 j f g;simp only[BJ,zc,w5]at d;obtain⟨⟨⟨⟨Y,M⟩,W⟩,J⟩,rfl,rfl⟩:=d;simp only[Uf]at k;subst k;have K:=D7 R f Y W;have w:=D7 r g M J;exact zg hr (by simp only[DJ,U,K,w,Bx];rfl)<|Ki _
 case h_2=>
  rename_i e U;split at d
  case h_2=>simp at d
  rename_i ti y;split at d
  case h_4=>simp at d
  case h_1=>
   rename_i s xs;cases A:zf ti.size s.sz with
   |false=>rw[A]at d;simp at d
   |true=>
    rw[A]at d;have A:=zd A;simp only[we]at d;split at d
    case h_2=>simp at d
    rename_i c1 l c2 j f g;simp only[BJ,zc,w5]at d;obtain⟨⟨⟨⟨Y,M⟩,W⟩,J⟩,rfl,rfl⟩:=d;simp only[Uf]at k;subst k;have K:=D7 R f Y W;simp only[PR,DC]at G;obtain⟨u,hu1,G⟩:=G;obtain rfl:x=u:=by simpa using hu1
    rcases G with⟨rfl,rfl|rfl|rfl⟩|⟨bb,off,cap,o,bs,rfl,S,h2,h3,h5,h4⟩
    ·have w:=D7 r g M J;simp only[yd]at w J;refine zg hr (v':=.nils) (by simp only[DJ,U,show CL none 0 0=some 0 from rfl,show nA b none=CL b 0 0 from by cases b<;>rfl,K,w,y,Bx]) ?_;simp[PR,DC]
    ·have w:=D7 r g M J;simp only[yd]at w J;refine zg hr (v':=.esl) (by simp only[DJ,U,show CL none 0 0=some 0 from rfl,show nA b none=CL b 0 0 from by cases b<;>rfl,K,w,y,Bx,Qz,wg]) ?_;simp[PR,DC]
    ·have w:=D7 r g M J;simp only[yd]at w J;refine zg hr (v':=.es0) (by simp only[DJ,U,show CL none 0 0=some 0 from rfl,show nA b none=CL b 0 0 from by cases b<;>rfl,K,w,y,Bx]) ?_;simp[PR,DC]
    ·have w:CL b cap xs.length=some j:=D7 r g M<|yt J S;have I:=M0 (b:=bb) (off:=off) (len:=xs.length) (cap:=cap) (o:=o) (mx:=none) U y rfl w K (fun _=>rfl);have D:((xs.drop l).take<|Nat.sub j l).length=j-l:=by
      have:Nat.sub j l=j-l:=rfl;rw[this];simp;omega
     by_cases hcl:cap=l
     ·have P:j=l:=ae
      have hemp:(xs.drop l).take (Nat.sub j l)=[]:=by
       apply List.eq_nil_of_length_eq_zero;rw[D];omega
      rw[hemp];by_cases Z:o=0
      ·refine zg hr (v':=.sl bb off (j-l) (cap-l) 0) ?_ ?_
       ·have:JY none o=0:=Z;rw[I,this,hcl,z7];rfl
       ·simp only[PR,DC];exact⟨_,rfl,.inr ⟨bb,off,cap-l,0,bs,by simp[P],by simp,h2,by simp;omega,.inl rfl,fun i hi=>by simp at hi⟩⟩
      ·refine zg hr (v':=.esl) ?_ ?_
       ·have S:zf (JY none o) 0=false:=by rw[Bp];simp[JY,Z]
        rw[I,S,hcl,z7];rfl
       ·simp[PR,DC]
     ·refine zg hr (v':=.sl bb (off+l*ti.size) (j-l) (cap-l) o) ?_ ?_
      ·have f:zf cap l=false:=by rw[Bp];simp[hcl]
       have Z:(zf (JY none o) 0||zf (JY none o) ti.size)=true:=by
        rcases h5 with rfl|rfl
        ·rfl
        ·rw[A];show(zf s.sz 0||zf s.sz s.sz)=true;rw[z7,yz]
       rw[I,f,Z];rfl
      ·simp only[PR,DC];refine⟨_,rfl,.inr ⟨bb,off+l*ti.size,cap-l,o,bs,by rw[D],by rw[D];omega,h2,?_,h5,fun i hi=>?_⟩⟩
       ·rw[D,A];have:(l+(j-l))*s.sz<=xs.length*s.sz:=zh _ ae;rw[zp]at this;omega
       ·rw[D]at hi;have hi2:l+i<xs.length:=ae
        have:=h4 (l+i) hi2;rw[List.getElem_take,List.getElem_drop,A];rw[zp, <-yx]at this;exact this
  case h_2=>
   rename_i id sz off len cap;cases A:(zf ti.size sz&&Is (st.obj id))with
   |false=>rw[A]at d;simp at d
   |true=>
    rw[A]at d;simp only[zc]at A;obtain⟨A,hl⟩:=A;have A:=zd A;simp only[we]at d;have hno:¬(hi=none/\mx≠none):=by
     rintro⟨rfl,hm⟩;cases mx with
     |none=>exact hm rfl
     |some _=>simp at d
    split at d
    case h_1=>simp at d
    split at d
    case h_2=>simp at d
    rename_i c1 l c2 j c3 m f g hb3;simp only[BJ,zc,w5]at d;obtain⟨⟨⟨⟨⟨⟨⟨Y,M⟩,W⟩,J⟩,k5⟩,k6⟩,k7⟩,rfl,rfl⟩:=d;have K:=D7 R f Y J;have e3:=D7 k hb3 W k6;have w:=D7 r g M k5;have hno':b=none->c=none:=by
     intro hbn;cases hcc:c with
     |none=>rfl
     |some z=>
      exfalso;apply hno;exact⟨r.isNone.2 hbn,fun e=>by have:=k.isNone.1 e;rw[this]at hcc;cases hcc⟩
    obtain⟨b0,n0,S⟩:=hr.live hl;simp only[PR]at G;rcases G.2 b0 n0 S with⟨g1,g2,o,g3,rfl⟩|⟨rfl,rfl,g2,g3⟩
    ·have I:=M0 (b:=b0) (off:=off*sz) (len:=len) (cap:=cap.getD len) (o:=o) U y e3 w K hno';have hoz:JY c o=0\/JY c o=sz:=by
      unfold JY;cases c with
      |none=>exact g3
      |some _=>exact .inl rfl
     by_cases L:m=l
     ·have P:j-l=0:=ae
      by_cases Z:JY c o=0
      ·refine zg hr (v':=.sl b0 (off*sz) (j-l) (m-l) 0) ?_ ?_
       ·rw[I,Z,L,z7];rfl
       ·unfold PR;refine⟨G.1,fun b' n' E=>.inr ?_⟩;rw[S]at E;cases E;refine⟨P,?_,?_,.inr ⟨off*sz,by rw[P,L,yk],zh _<|Nat.le_add_right _ _⟩⟩
        ·show some (m-l)=some 0;rw[L,yk]
        ·show off+l<=n0;omega
      ·refine zg hr (v':=.esl) ?_ ?_
       ·have hb0:zf (JY c o) 0=false:=by rw[Bp];simp[Z]
        rw[I,hb0,L,z7];rfl
       ·unfold PR;refine⟨G.1,fun b' n' E=>.inr ?_⟩;rw[S]at E;cases E;refine⟨P,?_,?_,.inl rfl⟩
        ·show some (m-l)=some 0;rw[L,yk]
        ·show off+l<=n0;omega
     ·refine zg hr (v':=.sl b0 (off*sz+l*ti.size) (j-l) (m-l)<|JY c o) ?_ ?_
      ·have f:zf m l=false:=by rw[Bp];simp[L]
       have Z:(zf (JY c o) 0||zf (JY c o) ti.size)=true:=by
        rcases hoz with e|e
        ·rw[e];rfl
        ·rw[e,A,z7,yz]
       rw[I,f,Z];rfl
      ·unfold PR;refine⟨G.1,fun b' n' E=>.inl ?_⟩;rw[S]at E;cases E;refine⟨?_,?_,JY c o,hoz,?_⟩
       ·show j-l<=m-l;omega
       ·show off+l+(m-l)<=n0;omega
       ·show V.sl b0 (off*sz+l*ti.size) (j-l) (m-l) (JY c o)=.sl b0 ((off+l)*sz) (j-l) (m-l) (JY c o);rw[A,zp]
    ·simp only[yh]at k6 k7 e3;obtain rfl:m=0:=ae
     obtain rfl:j=0:=ae
     obtain rfl:l=0:=ae
     have hc:c=none:=by
      cases mx with
      |none=>exact k
      |some _=>simp[has]at k7
     subst hc;rcases g3 with rfl|⟨O,rfl,g4⟩
     ·refine zg hr (v':=.esl) (by simp only[DJ,U,y,show CL none 0 0=some 0 from rfl,show nA b none=CL b 0 0 from by cases b<;>rfl,w,K,Bx,Qz,wg]) ?_;unfold PR;exact⟨G.1,fun b' n' E=>.inr ⟨by rfl,by rfl,by rw[S]at E;cases E;exact g2,.inl rfl⟩⟩
     ·refine zg hr (v':=.sl b0 O 0 0 0) ?_ ?_
      ·rw[M0 (mx:=none) U y rfl w K (fun _=>rfl)];rfl
      ·unfold PR;refine⟨G.1,fun b' n' E=>.inr ⟨rfl,rfl,?_,.inr ⟨O,?_,?_⟩⟩⟩
       ·rw[S]at E;cases E;exact g2
       ·rw[S]at E;cases E;rfl
       ·show O<=(off+0)*sz;exact g4
  case h_3=>
   split at d
   case h_3=>simp at d
   case h_2=>
    rename_i c1 l c2 j q f g;split at d
    case h_2=>simp at d
    rename_i p' c3 m hb3;simp only[BJ,zc,w5]at d;obtain⟨⟨⟨⟨⟨⟨Y,M⟩,k5⟩,W⟩,J⟩,k6⟩,rfl,rfl⟩:=d;have K:=D7 R f Y W;have w:=D7 r g M (show j<=0 by omega);have e3:=D7 k hb3 k5 k6;simp only[PR]at G;subst G;cases b with
    |none=>simp[Uf]at r
    |some b=>exact zg hr (v':=.nils) (by simp only[DJ,U,e3,show nA (some b) c=CL (some b) 0 0 from by cases c<;>rfl,w,K,y,Bx]) (by simp[PR])
   rename_i c1 l c2 j f g;simp only[BJ,zc,w5]at d;obtain⟨⟨⟨⟨Y,M⟩,W⟩,J⟩,rfl,rfl⟩:=d;simp only[Uf]at k;subst k;have K:=D7 R f Y W;have w:=D7 r g M J;simp only[PR]at G;subst G;exact zg hr (v':=.nils) (by simp only[DJ,U,show CL none 0 0=some 0 from rfl,show nA b none=CL b 0 0 from by cases b<;>rfl,K,w,y,Bx]) (by simp[PR])
theorem wZ(hr:SR B h0 F ρ st.nx st.ob h){t:TypeId}{p q:PV}{x y:V}(a:PR F ρ st.nx p x)(c:PR F ρ st.nx q y){v:PV}(b:(fC C.T t p q st).To v st'):
  OK B h0 F ρ st h [] (Bx h<|Dk C.T t x y) v st':=eJ hr a.lz c b
theorem sY(hr:SR B h0 F ρ st.nx st.ob h){t:TypeId}{p:PV}{x:V}{lo g mx:Option PV}{a b c:Option V}(i:PR F ρ st.nx p x)(e:Uf F ρ st.nx lo a)(f:Uf F ρ st.nx g b)(d:Uf F ρ st.nx mx c)
  {v:PV} (j:(iC C.T t p lo g mx st).To v st'):OK B h0 F ρ st h [] (Bx h<|DJ C.T t x a b c) v st':=gP hr i.lz e f d j
theorem MR.len{ks vs:Sh}{l:List (ks.T×vs.T)}{es:List (V×V×Nat)}(h:MR F ks vs l es):l.length=es.length:=by
 induction h with
 |nil=>rfl
 |cons _ _ _ a=>simp[a]
theorem Abg(hr:SR B h0 F ρ st.nx st.ob h){ts:Array TypeId}{ps:List PV}{xs:List V}(d:Bf F ρ st.nx ps xs){v:PV}(c:(Uq C.T ts ps st).To v st'):OK B h0 F ρ st h [] (Bx h<|Gj C.T h ts xs) v st':=by
 unfold Uq at c;split at c
 case h_2=>simp at c
 rename_i t p a;simp only[Bf]at d;obtain⟨x,i,rfl,d,rfl⟩:=d;split at c
 case h_6=>simp at c
 case h_1=>
  rename_i s e;simp only[AU]at c;obtain⟨rfl,rfl⟩:=c;obtain rfl:=FC d;exact zg hr (by simp only[Gj,a,e,Bx];rfl)<|Ds _ _
 case h_2=>
  rename_i s l e;simp only[AU]at c;obtain⟨rfl,rfl⟩:=c;simp only[PR,DC]at d;obtain⟨u,hu1,d⟩:=d;obtain rfl:x=u:=by simpa using hu1
  rcases d with⟨rfl,rfl|rfl|rfl⟩|⟨b,off,cap,o,j,rfl,_⟩
  ·exact zg hr (by simp only[Gj,a,e,Bx];rfl)<|Ds _ _
  ·exact zg hr (by simp only[Gj,a,e,Bx];rfl)<|Ds _ _
  ·exact zg hr (by simp only[Gj,a,e,Bx];rfl)<|Ds _ _
  ·exact zg hr (by simp only[Gj,a,e,Bx];rfl)<|Ds _ _
 case h_3=>
  rename_i id sz off len cap e;cases f:Is (st.obj id)with
  |false=>rw[f]at c;simp at c
  |true=>
   rw[f]at c;simp only[we,AU]at c;obtain⟨rfl,rfl⟩:=c;obtain⟨b,n,h1⟩:=hr.live f;simp only[PR]at d;rcases d.2 b n h1 with⟨_,_,o,_,rfl⟩|⟨rfl,_,_,rfl|⟨_,rfl,_⟩⟩
   ·exact zg hr (by simp only[Gj,a,e,Bx];rfl)<|Ds _ _
   ·exact zg hr (by simp only[Gj,a,e,Bx];rfl)<|Ds _ _
   ·exact zg hr (by simp only[Gj,a,e,Bx];rfl)<|Ds _ _
 case h_4=>
  rename_i e;simp only[AU]at c;obtain⟨rfl,rfl⟩:=c;simp only[PR]at d;subst d;exact zg hr (by simp only[Gj,a,e,Bx];rfl)<|Ds _ _
 case h_5=>
  rename_i id e;split at c
  case h_2=>simp at c
  rename_i ks vs l g;simp only[AU]at c;obtain⟨rfl,rfl⟩:=c;obtain⟨b,n,y,h1,h2,⟨es,clk,rfl,h3⟩,_⟩:=hr.at g;simp only[PR]at d;obtain rfl:=d.2 b n h1;have f:l.length=es.length:=h3.len;refine zg hr (v':=i64 es.length) (by simp only[Gj,a,e,h2,Bx]) ?_;rw[<-f];exact Ds _ _
theorem Ac3(hr:SR B h0 F ρ st.nx st.ob h){ts:Array TypeId}{ps:List PV}{xs:List V}(a:Bf F ρ st.nx ps xs){v:PV}(b:(uT C.T ts ps st).To v st'):OK B h0 F ρ st h [] (Bx h<|Gj C.T h ts xs) v st':=Abg hr a.lz b
theorem Aca(hr:SR B h0 F ρ st.nx st.ob h){f:Int->Int->Int}{g:V->V->Option V}(o:∀k x y,g (.int k x) (.int k y)=some (.int k<|f x y)){ps:List PV}{xs:List V}(b:Bf F ρ st.nx ps xs){v:PV}
  (c:(Oi f ps st).To v st'):OK B h0 F ρ st h [] (Bx h<|GJ g xs) v st':=by
 have key:∀(ps:List PV) (xs:List V) (k:IntKind) (x z:Int),Bf F ρ st.nx ps xs->pmm f k x ps=some z->dfold g (.int k x) xs=some (.int k z):=by
  intro ps;induction ps with
  |nil=>intro xs k x z b a;simp at b;subst b;simp only[pmm,zj]at a;subst a;rfl
  |cons p ps q=>
   intro xs k x z b a;simp only[Bf]at b;obtain⟨u,l,rfl,i,j⟩:=b;unfold pmm at a;split at a
   case h_1=>rename_i e;cases e
   case h_2=>
    rename_i e;cases e;rename_i m y;cases d:(k==m)with
    |false=>rw[d]at a;cases a
    |true=>
     rw[d]at a;have d:=wj.1 d;subst d;obtain rfl:=CU i;simp only[dfold,o];exact q l k _ z j a
   case h_3=>cases a
 unfold Oi at c;split at c
 case h_2=>simp at c
 rename_i k x r;split at c
 case h_2=>simp at c
 rename_i z a;simp only[AU]at c;obtain⟨rfl,rfl⟩:=c;simp only[Bf]at b;obtain⟨u,l,rfl,i,j⟩:=b;obtain rfl:=CU i;exact zg hr (v':=.int k z) (by simp only[GJ,key r l k x z j a,Bx])<|Ds _ _
theorem OK.new(hr:SR B h0 F ρ st.nx st.ob h){o:Obj}{x:O}{n:Nat}(c:o.frozen=false)(d:ZP F (BL ρ st.nx<|some (h.nx,n)) (st.nx+1) n o x){v:PV}{v':V}
  (a:PR F (BL ρ st.nx<|some (h.nx,n)) (st.nx+1) v v'):OK B h0 F ρ st h [] (FA<|some (v',h.push x)) v (st.push o):=by
 refine⟨v',h.push x,F,_,.inl rfl,a,hr.push c d,Le.new _,rfl,rfl,Nat.le_succ _,fun b e=>.inl ?_⟩;rw[H.BI,wc ae]
theorem LM{n:Nat}:PR F (BL ρ N<|some (h.nx,n)) (N+1) (.ptr N 0) (.ptr h.nx 0):=by
 unfold PR;exact⟨zz _,fun b m a=>by simp[BL]at a;rw[a.1]⟩
theorem AbF{F:Fz}:∀ {s:Sh} {v:V},isZ s v=true->DC F s s.Hb [v]
 | .bool,.bool b,h=>by
  have:b=false:=by simpa [isZ]using h
  subst this;simp[DC,Sh.Hb]
 | .int k,.int a n,h=>by
  unfold isZ at h;rw[zc,w5,w5]at h;obtain⟨rfl,rfl⟩:=h;simp[DC,Sh.Hb]
theorem rL{T:B6}{t:TypeId}{s:Sh}{n:Nat}(h:Aba T t=some (s,n)):∃i,T.inf t=some i/\n=i.zero.length/\(∀v∈i.zero,isZ s v=true)/\s.sz=1:=by
 unfold Aba at h;split at h
 case h_2=>cases h
 rename_i i e d;split at h
 case h_2=>cases h
 rename_i c a;cases b:(zl 32 (Det.EN i.zero)&&Det.KZ (isZ c) i.zero)with
 |false=>rw[b]at h;cases h
 |true=>
  rw[b]at h;cases h;rw[zc,FL]at b;refine⟨i,d,Db ..,z6.1 b.2,?_⟩;unfold zsh at a;split at a<;>first|(cases a;rfl)|cases a
theorem rK(hr:SR B h0 F ρ st.nx st.ob h){t:TypeId}{v:PV}(c:(SI t C.T st).To v st'):OK B h0 F ρ st h [] (FA<|G2 C.T h t) v st':=by
 unfold SI gY at c;split at c
 case h_1=>
  rename_i s n k;simp only[AU]at c;obtain⟨rfl,rfl⟩:=c;obtain⟨i,f,rfl,hall,hs⟩:=rL k;have:G2 C.T h t=some (.ptr h.nx 0,h.push<|.cells i.zero t (0,0)):=by simp[G2,f,IC]
  rw[this];refine OK.new hr (o:=.arr false t s<|zn i.zero.length s.Hb) (n:=i.zero.length) rfl ⟨_,_,rfl,⟨by rw[ya,hs,ym],fun j g=>?_⟩,ze _,ya ..⟩ LM;have d:j<i.zero.length:=by simpa using g
  have:=hall i.zero[j]<|List.getElem_mem d;rw[List.getElem_replicate,hs,ym,zw d];exact AbF this
 split at c
 case h_2=>exact wh c (by simp)
 rename_i cs a;rw[Option.bind_eq_some_iff]at a;obtain⟨i,f,a⟩:=a;cases b:KZ V.ok i.zero with
 |false=>rw[b]at a;cases a
 |true=>
 rw[b]at a;cases a;rw[FL]at b;simp only[AU]at c;obtain⟨rfl,rfl⟩:=c;have:G2 C.T h t=some (.ptr h.nx 0,h.push<|.cells i.zero t (0,0)):=by simp[G2,f,IC]
 rw[this];cases xX C.T t with
 |true=>exact OK.new hr (o:=.tbox t<|i.zero.map X0) (n:=0) rfl ⟨_,_,rfl,Ez _,ze _,fun u e=>z6.1 b u e⟩ LM
 |false=>exact OK.new hr (o:=.box<|i.zero.map X0) (n:=0) rfl ⟨_,_,_,rfl,Ez _,ze _,fun u e=>z6.1 b u e⟩ LM
theorem Ady(hr:SR B h0 F ρ st.nx st.ob h){t:TypeId}{p:PV}{x:V}(b:PR F ρ st.nx p x){cs:List PV}(a:pcs st p=some cs)(d:cs.all (J8 st)=true):OK B h0 F ρ st h [] (FA<|some<|aS h t x) (.ptr st.nx 0) (st.push<|.box cs):=
 OK.new hr (o:=.box cs) (n:=0) rfl ⟨_,_,_,rfl,(NT hr b a).mono<|Le.new _,ze _,fun u c=>V.Mt<|z6.1 (Kz hr d<|NT hr b a) u c⟩ LM
theorem JL(hr:SR B h0 F ρ st.nx st.ob h){place:Nat->Option (Nat×Nat)}:∀ {l:List (Nat×PV)} {l':List (Nat×V)},PRn F ρ st.nx l l'->∀ {cs:List PV} {xs:List V},Bf F ρ st.nx cs xs->∀ {out:List PV},RN st place cs l=some out->
  ∃g,I8 place xs l'=some g/\Bf F ρ st.nx out g:=by
 intro l l' m;induction m with
 |nil=>intro cs xs b out a;cases a;exact⟨xs,rfl,b⟩
 |@cons i p v l l' hp _ k=>
  intro cs xs b out a;unfold RN at a;unfold I8;split at a
  case h_1=>cases a
  rename_i off size f;split at a
  case h_2=>cases a
  rename_i vs d;cases c:(zf (Det.EN vs) size&&zl (Nat.add off size) (Det.EN cs))with
  |false=>rw[c]at a;cases a
  |true=>
   rw[c]at a;have j:=NT hr hp d;rw[Db,Db,j.len,b.len]at c;have e:(zf v.cells.length size&&zl (off+size) xs.length)=true:=c;rw[f];simp only[e,we];have:=j.CE off b;rw[JJ v.cells]at this;exact k this a
theorem uF(hr:SR B h0 F ρ st.nx st.ob h){t:TypeId}{l:List (Nat×PV)}{l':List (Nat×V)}(k:PRn F ρ st.nx l l'){v:PV}(g:(ov st<|Xu C.T st t l).To v st'):OK B h0 F ρ st h [] (Bx h<|Ke C.T t l') v st':=by
 simp only[K4]at g;obtain⟨a,rfl⟩:=g;unfold Xu at a;split at a
 case h_3=>cases a
 case h_1=>
  rename_i i fs f d;split at a
  case h_2=>cases a
  rename_i pl c;rw[zm]at a;obtain⟨out,b,rfl⟩:=a;obtain⟨ys,g1,g2⟩:=JL hr k (Ez i.zero) b;exact zg hr (v':=.agg ys) (by simp only[Ke,f,d,c,g1,zq,Bx]) (by unfold PR;exact⟨_,rfl,g2⟩)
 case h_2=>
  rename_i i o e f d;split at a
  case h_2=>cases a
  rename_i j m;rw[zm]at a;obtain⟨out,b,rfl⟩:=a;obtain⟨ys,g1,g2⟩:=JL hr k (Ez i.zero) b;exact zg hr (v':=.agg ys) (by simp only[Ke,f,d,m,g1,zq,Bx]) (by unfold PR;exact⟨_,rfl,g2⟩)
theorem KI(z:List V):∀n,Bf F ρ N (Ko (z.map X0) n)<|(zn n z).flatten
 |0=>by simp[Ko]
 |n+1=>by
  simp only[Ko,zx,yn];exact(Ez z).append<|KI z n
theorem H5(z:List V):∀n,Ff z (n*z.length)=(zn n z).flatten:=by
 intro n;apply yo;intro i;unfold Ff;by_cases e:z.length=0
 ·have:z=[]:=zo.1 e;subst this;have:(zn n ([]:List V)).flatten=[]:=by induction n with|zero=>rfl|succ n c=>simp[zx]
  rw[this];simp
 ·have d:0<z.length:=Nat.pos_of_ne_zero e;induction n generalizing i with
  |zero=>simp
  |succ n c=>
   rw[zx,yn];by_cases b:i<z.length
   ·rw[yc b,yp,yj<|by rw[zt];omega];simp only[zq,Nat.mod_eq_of_lt b];simp[List.getD_eq_getElem?_getD,b]
   ·rw[yb ae, <-c (i-z.length)];rw[yp,yp];by_cases a:i<(n+1)*z.length
    ·rw[yj a,yj<|by rw[zt]at a;omega];simp only[zq];rw[Nat.mod_eq_sub_mod ae]
    ·rw[List.getElem?_eq_none (by simp;omega),List.getElem?_eq_none<|by simp;rw[zt]at a;omega]
theorem Oy{sz n:Nat}{o:Nat}(c:o=0\/o=sz):PR F (BL ρ N<|some (h.nx,n)) (N+1) (.sl N sz 0 n none) (.sl h.nx 0 n n o):=by
 unfold PR;refine⟨zz _,fun b m a=>.inl ?_⟩;simp[BL]at a;obtain⟨rfl,rfl⟩:=a;exact⟨ze _,by show 0+n<=n;omega,o,c,by rw[zu];rfl⟩
theorem MO{place:Nat->Option (Nat×Nat)}:∀ {l:List (Nat×V)} {xs a:List V},I8 place xs l=some a->a.length=xs.length
 |[],xs,a,h=>by cases h;rfl
 |(i,v)::l,xs,a,h=>by
  unfold I8 at h;split at h
  ·cases h
  ·rename_i off size _;cases b:(zf v.cells.length size&&zl (off+size) xs.length)with
   |false=>rw[b]at h;cases h
   |true=>
    rw[b]at h;rw[MO h,GA]
end
section
variable {B:Nat}{h0:H0}{F:Fz}{ρ:En}{N:Nat}{C:Ctx}{st st':AL}{fr:Fr}{h h':H}
theorem Eo.nil{s:Sh}:Eo F s [] []:=⟨by simp,fun i a=>by simp at a⟩
theorem Eo.cons{s:Sh}{x:s.T}{l:List s.T}{a b:List V}(c:DC F s x a)(d:Eo F s l b):Eo F s (x::l) (a++b):=by
 refine⟨by rw[List.length_append,c.len,d.1,List.length_cons,zt];omega,fun i f=>?_⟩;cases i with
 |zero=>
  simp only[zu,yg,yu];rw[<-c.len,List.take_left];exact c
 |succ i=>
  have e:(a++b).drop ((i+1)*s.sz)=b.drop (i*s.sz):=by
   rw[zt,yy,F4, <-c.len,List.drop_left]
  rw[e];exact d.2 i (by simpa using f)
theorem Eo.jF{s:Sh}{x:s.T}{l:List s.T}{cs:List V}(h:Eo F s (x::l) cs):∃a b,cs=a++b/\DC F s x a/\Eo F s l b:=by
 have h0:=h.2 0 (by simp);simp only[zu,yg,yu]at h0;refine⟨cs.take s.sz,cs.drop s.sz,(List.take_append_drop _ _).symm,h0,?_,fun i c=>?_⟩
 ·rw[List.length_drop,h.1,List.length_cons,zt];omega
 ·have:=h.2 (i+1) (by simpa using c);rw[<-F4,yy, <-zt];exact this
theorem Eo.append{s:Sh}:∀ {l m:List s.T} {a b:List V},Eo F s l a->Eo F s m b->Eo F s (l++m) (a++b)
 |[],m,a,b,h,h'=>by
  have:a=[]:=zo.1 (by rw[h.1];simp);subst this;simpa using h'
 |x::l,m,a,b,h,h'=>by
  obtain⟨c,d,rfl,e,f⟩:=h.jF;rw[List.append_assoc,List.cons_append];exact Eo.cons e<|f.append h'
theorem Eo.replicate{s:Sh}{z:s.T}{c:List V}(a:DC F s z c):∀n,Eo F s (zn n z)<|(zn n c).flatten
 |0=>Eo.nil
 |n+1=>by
  rw[zx,zx,yn];exact Eo.cons a<|Eo.replicate a n
theorem Eo.S0{s:Sh}:∀ {l:List s.T} {a:List V},Eo F s l a->a.all V.one=true
 |[],a,h=>by
  have:a=[]:=zo.1 (by rw[h.1];simp);subst this;rfl
 |x::l,a,h=>by
  obtain⟨c,d,rfl,b,e⟩:=h.jF;rw[List.all_append,e.S0,Bool.and_true];exact z6.2 b.S0
theorem Eo.part{s:Sh}{l:List s.T}{cs:List V}(h:Eo F s l cs){off len:Nat}(d:off+len<=l.length):Eo F s ((l.drop off).take len) ((cs.drop<|off*s.sz).take<|len*s.sz):=by
 have c:(off+len)*s.sz<=l.length*s.sz:=zh _ d;rw[zp]at c;have g:=h.1;refine⟨by simp;rw[ye ae,ye ae],fun i f=>?_⟩;have a:i<len:=by simp at f;omega
 have b:(i+1)*s.sz<=len*s.sz:=zh _ a;rw[zt]at b;rw[List.getElem_take,List.getElem_drop];have:=h.2 (off+i) ae;have e:(((cs.drop<|off*s.sz).take<|len*s.sz).drop<|i*s.sz).take s.sz=(cs.drop<|(off+i)*s.sz).take s.sz:=by
  rw[List.drop_take,List.take_take,List.drop_drop,zp,ye ae]
 rw[e];exact this
theorem AaA(hr:SR B h0 F ρ st.nx st.ob h){t:TypeId}{p q:PV}{x y:V}(u:PR F ρ st.nx p x)(J:PR F ρ st.nx q y){v:PV}(a:(fN C.T t p q st).To v st'):OK B h0 F ρ st h [] (FA<|P8 C.T h t x y) v st':=by
 unfold fN at a;split at a
 case h_2=>simp at a
 rename_i e k l E c w;obtain rfl:=CU u;obtain rfl:=CU J;split at a
 case h_2=>simp at a
 rename_i i s L R;cases d:(zr 0 i.zero.length&&zf i.zero.length i.size&&zf i.size s.sz)with
 |false=>rw[d]at a;simp at a
 |true=>
  rw[d]at a;simp only[zc]at d;obtain⟨⟨A,m⟩,O⟩:=d;simp only[we]at a;split at a
  case h_2=>simp at a
  rename_i z D;simp only[BJ,zc,w5]at a;obtain⟨⟨⟨⟨G,M⟩,j⟩,K⟩,rfl,rfl⟩:=a;have f:l=c:=M;subst f;obtain⟨n,rfl,hn⟩:=DS G;rw[hn]at j ⊢;have r:=zd m;have P:=zd O;have I:P8 C.T h t (.int k<|zy n) (.int E<|zy n)=some (.sl h.nx 0 n n 0,h.push<|.cells (Ff i.zero<|n*i.size) e (0,0)):=by
   have a1:zl n n=true:=zi<|ze _;have a2:zr n 9223372036854775808=true:=DM (by have:(zy n:Int)<9223372036854775808:=K;simp at this;omega);have a3:zl (i.bytes*n) 281474976710656=true:=zi j;simp only[P8,w,L,a1,a2,a3,A,m,yq,we,IC]
  rw[I];have g:=C6 (Ez (F:=F) (ρ:=ρ) (N:=st.nx) i.zero) D;have b:Eo F s (zn n z) (Ff i.zero<|n*i.size):=by
   rw[<-r,H5];exact Eo.replicate g n
  exact OK.new hr (o:=.arr false e s<|zn n z) (n:=n) rfl ⟨_,_,rfl,b,ze _,by simp⟩ (Oy<|.inl rfl)
theorem Xg(hr:SR B h0 F ρ st.nx st.ob h){s:Sh}{p:PV}{x:V}(f:PR F ρ st.nx p x){c:Bool}{l:List s.T}(d:NS st s p=some (c,l))(G:c=true):
  Pg x=some l.length/\(s.sz=1\/P1 x=true)/\∃cs,src h s.sz x l.length=some cs/\Eo F s l cs:=by
 unfold NS at d;split at d
 case h_1=>
  cases d;simp only[PR]at f;subst f;exact⟨rfl,.inr rfl,[],rfl,Eo.nil⟩
 case h_2=>
  rename_i a l';rw[zm]at d;obtain⟨r,q,w⟩:=d;obtain⟨e,he⟩:=CJ q;have v:a=s:=by cases e;rfl
  subst v;have:r=l':=by have:=he;cases this;rfl
  subst this;cases w;simp only[PR,DC]at f;obtain⟨u,I,f⟩:=f;obtain rfl:x=u:=by simpa using I
  rcases f with⟨rfl,rfl|rfl|rfl⟩|⟨b,off,cap,o,D,rfl,O,E,m,S,P⟩
  ·exact⟨rfl,.inr rfl,[],rfl,Eo.nil⟩
  ·exact⟨rfl,.inr rfl,[],rfl,Eo.nil⟩
  ·exact⟨rfl,.inr rfl,[],rfl,Eo.nil⟩
  ·obtain⟨te,fz,W⟩:=hr.frz b D E;suffices hD:Eo F a l ((D.drop off).take<|l.length*a.sz)from⟨rfl,.inr rfl,_,rd_some W m hD.ok,hD⟩
   refine⟨?_,fun i M=>?_⟩
   ·simp;rw[ye ae]
   ·have K:(i+1)*a.sz<=l.length*a.sz:=zh _ M;rw[zt]at K;have e:(((D.drop off).take<|l.length*a.sz).drop<|i*a.sz).take a.sz=(D.drop<|off+i*a.sz).take a.sz:=by
     rw[List.drop_take,List.take_take,List.drop_drop,ye ae]
    rw[e];exact P i M
 case h_3=>
  rename_i id sz off len cap;split at d
  case h_2=>cases d
  rename_i U te a l' R;cases g:zf sz a.sz with
  |false=>rw[g]at d;cases d
  |true=>
   rw[g]at d;have g:=zd g;simp only[we,zm]at d;obtain⟨r,q,w⟩:=d;obtain⟨e,he⟩:=CJ q;have v:a=s:=by cases e;rfl
   subst v;have:r=l':=by have:=he;cases this;rfl
   subst this;cases w;simp only[w5]at G;obtain⟨b,n,y,O,E,⟨cs,fz,rfl,m,P,S⟩,_⟩:=hr.at R;simp only[PR]at f;have z:((r.drop off).take len).length=len:=by simp;omega
   have k:(off+len)*a.sz<=r.length*a.sz:=zh _ G;rw[zp]at k;rw[z];rcases f.2 b n O with⟨_,_,o,_,rfl⟩|⟨rfl,_,Z,rfl|⟨L,rfl,A⟩⟩
   ·refine⟨rfl,.inr rfl,_,rd_some E ?_ ?_,?_⟩
    ·rw[g,m.1];exact k
    ·rw[g];exact(m.part G).ok
    ·rw[g];exact m.part G
   ·refine⟨rfl,.inr rfl,[],rfl,?_⟩;simpa using Eo.nil
   ·refine⟨rfl,.inr rfl,_,rd_some E ?_ ?_,?_⟩
    ·rw[g]at A;rw[m.1];simp at k ⊢;omega
    ·simp
    ·simp;exact Eo.nil
 case h_5=>cases d
 case h_4=>
  rename_i t;rw[zm]at d;obtain⟨r,q,w⟩:=d;obtain⟨e,he⟩:=CJ q;have v:s=.int .u8:=by cases e;rfl
  subst v;have:r=List.map (fun b:UInt8=>(b.toNat:Int)) t:=by have:=he;cases this;rfl
  subst this;cases w;obtain rfl:=FC f;refine⟨by simp[Pg],.inl rfl,_,rfl,?_⟩;rw[yw,List.take_length];refine⟨by simp[Sh.sz],fun j hj=>?_⟩;have J:j<t.length:=by simpa using hj
  have Y:((t.map fun b=>y7 .u8 (b.toNat:Int)).drop<|j*1).take 1=[y7 .u8 ((t[j]).toNat:Int)]:=by
   rw[ym,zw<|by simpa using J];simp
  show DC _ (.int .u8) _<|((t.map fun b=>y7 .u8 (b.toNat:Int)).drop<|j*1).take 1;rw[Y];simp[DC]
theorem cU(hr:SR B h0 F ρ st.nx st.ob h){s:Sh}{p:PV}{x:V}(a:PR F ρ st.nx p x){c:Bool}{l:List s.T}(b:PL st s p=some (c,l))(d:c=true):
  Pg x=some l.length/\(s.sz=1\/P1 x=true)/\∃cs,src h s.sz x l.length=some cs/\Eo F s l cs:=Xg hr a.lz b d
theorem SR.congr(hr:SR B h0 F ρ N st.ob h)(d:∀c,h'.get c=h.get c)(f:h'.nx=h.nx):SR B h0 F ρ N st.ob h':=
 ⟨fun id o k=>by obtain⟨b,n,x,e,j,g⟩:=hr.obj id o k;exact⟨b,n,x,e,(d b).trans j,g⟩,hr.inj,fun b cs a=>by obtain⟨t,fz,e⟩:=hr.frz b cs a;exact⟨t,fz,(d b).trans e⟩,hr.own,hr.dead,
  fun b a p=>(d b).trans<|hr.old b a p,fun b o a=>by rw[f];exact hr.lt b o<|(d b).symm.trans a,by rw[f];exact hr.le,hr.fo,hr.gl,fun c q=>by obtain⟨m,l,i⟩:=hr.pn c q;exact⟨(d c).trans m,l,i⟩⟩
theorem SR.kK{ob:Ob}(hr:SR B h0 F ρ N ob h){o:Obj}{x:O}{b n:Nat}(V:h.get b=some x)(g:∀id o m,AP ob id=some o->ρ id≠some (b,m))(Z:F b=none)(S:h0.cD B b)(K:b∉h0.pin)(G:o.frozen=false)
  (I:ZP F (BL ρ N<|some (b,n)) (N+1) n o x):SR B h0 F (BL ρ N<|some (b,n)) (N+1) ((N,o)::ob) h:=by
 have M:Le F ρ N F (BL ρ N<|some (b,n)) (N+1):=Le.new _;have d:∀j,AP ((N,o)::ob) j=if j=N then some o else AP ob j:=by
  intro j;simp only[AP,Bp];by_cases e:N=j
  ·subst e;simp
  ·rw[wc<|fun h=>e h.symm];simp[e]
 refine⟨fun j oj a=>?_,fun i j oi oj c m z u a p t=>?_,hr.frz,fun id c m l=>?_,fun j a=>?_,hr.old,hr.lt,hr.le,hr.fo,hr.gl,fun c v=>?_⟩
 ·rw[d]at a;by_cases e:j=N
  ·subst e;simp only[wk,zj]at a;subst a;exact⟨b,n,x,by simp[BL],V,I,fun _=>Z,fun e=>by rw[G]at e;cases e⟩
  ·rw[wc e]at a;obtain⟨c,m,y,p,t,T,L⟩:=hr.obj j oj a;exact⟨c,m,y,by simp[BL,e,p],t,T.mono M,L⟩
 ·rw[d]at u a;have key:∀k ok m,(if k=N then some o else AP ob k)=some ok->BL ρ N (some (b,n)) k=some (c,m)->(k=N/\c=b)\/(k≠N/\AP ob k=some ok/\ρ k=some (c,m)/\c≠b):=by
   intro k ok m s f;by_cases e:k=N
   ·subst e;simp[BL]at f;exact .inl ⟨rfl,f.1.symm⟩
   ·rw[wc e]at s;simp only[BL,e,vg]at f;exact .inr ⟨e,s,f,fun D=>g k ok m s<|D▸f⟩
  rcases key i oi m u p with⟨A,r⟩|⟨A,r,E,P⟩<;>rcases key j oj z a t with⟨w,q⟩|⟨w,q,J,Y⟩
  ·rw[A,w]
  ·exact wh r Y
  ·exact wh q P
  ·exact hr.inj i j oi oj c m z r q E J
 ·unfold BL at l;split at l
  ·rename_i e;cases l;subst e;exact⟨zz _,S⟩
  ·have:=hr.own id c m l;exact⟨by omega,this.2⟩
 ·rw[d]at a;by_cases e:j=N
  ·rw[wd e]at a;cases a
  ·rw[wc e]at a;simp[BL,e,hr.dead j a]
 ·obtain⟨R,W,U⟩:=hr.pn c v;refine⟨R,W,fun id m e=>?_⟩;unfold BL at e;split at e
  ·cases e;exact K v
  ·exact U id m e
theorem Qs{off:Nat}{cs:List V}(h:off<=cs.length):CE off [] cs=cs:=by
 apply yo;intro j;rw[Hs<|by simpa using h];rw[wc<|by simp]
theorem U1{off:Nat}{vs cs:List V}(h:off+vs.length<=cs.length):CE off vs cs=cs.take off++(vs++cs.drop (off+vs.length)):=by
 apply yo;intro j;rw[Hs h];by_cases b:j<off
 ·rw[wc ae,yc (by simp;omega),List.getElem?_take_of_lt b]
 ·rw[yb<|by simp;omega];have a:(cs.take off).length=off:=by simp;omega
  rw[a];by_cases c:j<off+vs.length
  ·rw[wd ⟨by omega,c⟩,yc ae]
  ·rw[wc ae,yb ae,List.getElem?_drop];congr 1;omega
theorem Eo.lR{s:Sh}{l new:List s.T}{cs c:List V}{a:Nat}(h:Eo F s l cs)(d:Eo F s new c)(j:a+new.length<=l.length):
  Eo F s (l.take a++(new++l.drop (a+new.length))) (CE (a*s.sz) c cs):=by
 have e:=h.1;have i:=d.1;have b:(a+new.length)*s.sz<=l.length*s.sz:=zh _ j;rw[U1<|by rw[i, <-zp,e];exact b];have f:=h.part (off:=0) (len:=a) ae;have g:=h.part (off:=a+new.length) (len:=l.length-(a+new.length)) ae;rw[zu,yg,yg]at f;rw[yv (by simp),yv<|by rw[List.length_drop,e, <-Nat.sub_mul];exact ze _]at g;rw[i, <-zp];exact f.append<|d.append g
def FF:List PV->List Nat
 | .sl id _ _ _ _::_=>[id]
 |_=>[]
theorem dN{s f:Sh}{x:f.T}{c:Bool}{l:List s.T}(d:PL st s (.dat f x)=some (c,l)):c=true:=by
 unfold PL at d;cases f with
 |list a=>
  have d:(DP (.list a) (.list s) x).map (fun r=>(true,r))=some (c,l):=d;rw[zm]at d;obtain⟨r,_,e⟩:=d;cases e;rfl
 |nlist a=>
  have d:(DP (.list a) (.list s) x).map (fun r=>(true,r))=some (c,l):=d;rw[zm]at d;obtain⟨r,_,e⟩:=d;cases e;rfl
 |str=>
  have d:(DP (.list<|.int .u8) (.list s)<|List.map (fun b:UInt8=>(b.toNat:Int)) x).map (fun r=>(true,r))=some (c,l):=d;rw[zm]at d;obtain⟨r,_,e⟩:=d;cases e;rfl
 |_=>cases d
theorem pF(hr:SR B h0 F ρ st.nx st.ob h){ts:Array TypeId}{ps:List PV}{xs:List V}(L:Bf F ρ st.nx ps xs){v:PV}(d:(SM C.T ts ps st).To v st'):OK B h0 F ρ st h (FF ps) (FA<|GH C.T h ts xs) v st':=by
 unfold SM at d;split at d
 case h_2=>simp at d
 rename_i t tx p q hts htx;simp only[Bf]at L;obtain⟨x,_,rfl,L,y,_,rfl,hy,rfl⟩:=L;split at d
 case h_2=>simp at d
 rename_i e ex hu hux;have hss:SA ex=true:=by
  cases hq:SA ex with
  |true=>rfl
  |false=>rw[hq]at d;simp at d
 rw[hss]at d;simp only[we]at d;split at d
 case h_2=>simp at d
 rename_i i s hi hs;cases hc:(zr 0 i.bytes&&zr 0 i.size&&zf i.zero.length i.size&&zf i.size s.sz)with
 |false=>rw[hc]at d;simp at d
 |true=>
  rw[hc]at d;simp only[zc]at hc;obtain⟨⟨⟨c1,c2⟩,c3⟩,c4⟩:=hc;have e4:=zd c4;simp only[we]at d;split at d
  case h_2=>simp at d
  rename_i c new hel;have head:c=true->∃cs,src h i.size y new.length=some cs/\Eo F s new cs/\GH C.T h ts [x,y]=(match x with
      | .nils=>bif zf new.length 0 then some (.nils,h)
       else bif zl ((3*new.length+2000)*i.bytes) 562949953421312 then some (.sl h.nx 0 new.length new.length i.size,IC h e cs)else none
      | .es0=>bif zf new.length 0 then some (.es0,h)
       else bif zl ((3*new.length+2000)*i.bytes) 562949953421312 then some (.sl h.nx 0 new.length new.length i.size,IC h e cs)else none
      | .esl=>bif zf new.length 0 then some (.esl,h)else none
      | .sl b off len cap o=>
       bif zl (len+new.length) cap then(wr h b (off+len*i.size) cs).map fun h'=>(.sl b off (len+new.length) cap o,h')
       else bif zl ((3*(len+new.length)+2000)*i.bytes) 562949953421312 then
        match src h i.size x len with
        |some old=>
         bif zf o 0 then some (.sl h.nx 0 (len+new.length) (len+new.length) i.size,IC h e<|old++cs)
         else
          match h.get b with
          |some (.cells _ te fz)=>
           bif zf off 0&&zf o i.size&&zf te e&&zl fz.2 fz.1&&cs.all V.one then some (.sl h.nx 0 (len+new.length) (len+new.length) i.size,(h.kill b).push<|.cells (old++cs) e (0,0))
           else none
          |_=>none
        |none=>none
       else none
      |_=>none):=by
   intro hc;obtain⟨g1,g2,cs,W,g4⟩:=cU hr hy hel hc;rw[<-e4]at W;refine⟨cs,W,g4,?_⟩;have hcond:(zr 0 i.bytes&&zr 0 i.size&&zf i.zero.length i.size&&(zf i.size 1||P1 y))=true:=by
    rw[c1,c2,c3];rcases g2 with g2|g2
    ·rw[e4,g2];rfl
    ·rw[g2,yz];rfl
   have hint:isInt ex=false:=by cases ex<;>first|rfl|cases hss
   simp only[GH,hts,htx,hu,hux,g1,hi,hint,hcond,we,W];cases x<;>rfl
  split at d
  case h_3=>simp at d
  case h_1=>
   simp only[PR]at L;subst L;have O:c=true->0<new.length->(3*new.length+2000)*i.bytes<=pM->OK B h0 F ρ st h (FF [PV.nil,q]) (FA<|GH C.T h ts [.nils,y]) (.sl st.nx s.sz 0 new.length none) (st.push<|.arr false e s new):=by
    intro E k2 M;obtain⟨cs,g1,g2,W⟩:=head E;have b1:zf new.length 0=false:=by rw[Bp];simp;intro e;rw[e]at k2;simp at k2
    have b2:zl ((3*new.length+2000)*i.bytes) 562949953421312=true:=zi M;rw[W];simp only[b1,b2,wg,we];exact OK.new hr (o:=.arr false e s new) (n:=new.length) rfl ⟨_,_,rfl,g2,ze _,rfl⟩ (Oy<|.inr e4)
   have same:c=true->new.length=0->OK B h0 F ρ st h (FF [PV.nil,q]) (FA<|GH C.T h ts [.nils,y]) .nil st:=by
    intro E k2;obtain⟨cs,g1,g2,W⟩:=head E;have b1:zf new.length 0=true:=by rw[k2];rfl
    rw[W];simp only[b1,we];exact⟨.nils,h,F,ρ,.inl rfl,by simp[PR],hr,yf,rfl,rfl,ze _,fun _ _=>.inl rfl⟩
   split at d
   case h_1=>
    simp only[AU]at d;obtain⟨rfl,rfl⟩:=d;simp only[PL,NS,lz,zj,z8]at hel;obtain⟨rfl,rfl⟩:=hel;exact same rfl rfl
   case h_2=>
    have hc':c=true:=by
     exact dN hel
    by_cases R:0<new.length
    ·rw[w4 R]at d;cases d with
     |tt d=>
      simp only[BJ,zc,w5]at d;obtain⟨⟨E,M⟩,rfl,rfl⟩:=d;exact O E R M
    ·rw[w8 R]at d;cases d with
     |ff d=>
      simp only[AU]at d;obtain⟨rfl,rfl⟩:=d;exact same hc' ae
   case h_3=>
    by_cases R:0<new.length
    ·rw[w4 R]at d;cases d with
     |tt d=>
      simp only[BJ,zc,w5]at d;obtain⟨⟨E,M⟩,rfl,rfl⟩:=d;exact O E R M
    ·rw[w8 R]at d;cases d with
     |ff d=>
      simp only[BJ]at d;obtain⟨E,rfl,rfl⟩:=d;exact same E ae
   case h_4=>
    simp only[BJ,zc,w5]at d;obtain⟨⟨⟨E,k2⟩,M⟩,rfl,rfl⟩:=d;exact O E k2 M
  case h_2=>
   rename_i id sz off len cap;split at d
   case h_2=>simp at d
   rename_i e' f l ho;split at d
   case h_2=>simp at d
   rename_i l' hl';obtain⟨ecast,hcast⟩:=CJ hl';have es:f=s:=by cases ecast;rfl
   subst es;have:l'=l:=by have:=hcast;cases this;rfl
   subst this;cases Y:(zf e e'&&zf sz f.sz)with
   |false=>rw[Y]at d;simp at d
   |true=>
    rw[Y]at d;simp only[zc]at Y;have ee:=zd Y.1;have esz:=zd Y.2;subst ee;subst esz;simp only[we]at d;split at d
    case h_2=>
     rename_i k;simp only[BJ,zc,w5]at d;obtain⟨⟨⟨E,k2⟩,M⟩,rfl,rfl⟩:=d;obtain⟨cs,g1,g2,W⟩:=head E;obtain⟨b,n,z,h1,h2,⟨bs,fz,rfl,h3,h4,h5⟩,h6,_⟩:=hr.at ho;simp only[PR]at L;rw[W];have K:cs.all V.one=true:=g2.S0;have hcl:cs.length=new.length*f.sz:=g2.1;have D:=h3.1;have hle:(off+len+new.length)*f.sz<=l'.length*f.sz:=zh _ ae;have hexp:(off+len+new.length)*f.sz=off*f.sz+len*f.sz+new.length*f.sz:=by rw[zp,zp]
     have hsp:=Eo.lR h3 g2 (a:=off+len) ae;have I:(l'.take (off+len)++(new++l'.drop (off+len+new.length))).length=l'.length:=by simp;omega
     rcases L.2 b n h1 with⟨_,g6,o,g5,rfl⟩|⟨e0,ek,g6,g7⟩
     ·simp only[yh]at g6;have hw:wr h b (off*f.sz+len*i.size) cs=some (h.put b<|.cells (CE ((off+len)*f.sz) cs bs) e fz):=by
       rw[Nv h2 (by rw[e4,hcl,D];omega) h4 K,e4, <-zp]
      have b1:zl (len+new.length) k=true:=zi k2;refine⟨.sl b (off*f.sz) (len+new.length) k o,h.put b<|.cells (CE ((off+len)*f.sz) cs bs) e fz,F,ρ,.inl ?_,?_,hr.set ho h1 h2 rfl rfl (o':=.arr false e f _) ⟨_,fz,rfl,hsp,h4,I.trans h5⟩,yf,rfl,rfl,ze _,fun c _=>?_⟩
      ·simp only[yh,b1,we,hw,zq,FA]
      ·simp only[PR];refine⟨L.1,fun b' n' U=>.inl ?_⟩;rw[h1]at U;cases U;exact⟨by simpa using k2,by simpa using g6,o,g5,rfl⟩
      ·rw[H.Bm];by_cases e:c=b
       ·exact .inr ⟨id,by simp[FF],n,e▸h1⟩
       ·rw[wc e];exact .inl rfl
     ·cases ek;subst e0;have hn0:new.length=0:=ae
      have G:new=[]:=zo.1 hn0;subst G;have hcs:cs=[]:=zo.1 (by rw[hcl];simp);subst hcs;have hlp:CE ((off+0)*f.sz) [] bs=bs:=Qs (by rw[D];have:=zh f.sz (show off+0<=l'.length by omega);exact this);have A:∀c,(h.put b<|.cells (CE ((off+0)*f.sz) [] bs) e fz).get c=h.get c:=by
       intro c;rw[hlp,H.Bm];by_cases e:c=b
       ·rw[wd e,e,h2]
       ·rw[wc e]
      have hset:=hr.set ho h1 h2 rfl rfl (o':=.arr false e f _) (x':=.cells (CE ((off+0)*f.sz) [] bs) e fz) ⟨_,fz,rfl,hsp,h4,I.trans h5⟩;have Z:SR B h0 F ρ st.nx (DW st.ob id<|.arr false e f<|l'.take (off+0)++([]++l'.drop (off+0+0))) h:=
       SR.congr (st:=⟨st.n,st.fr,DW st.ob id _,st.nx⟩) hset (fun c=>(A c).symm) rfl
      have hpr:∀w,(w=.esl\/∃r,w=.sl b r 0 0 0/\r<=off*f.sz)->PR F ρ st.nx (.sl id f.sz off (Nat.add 0 0)<|some 0) w:=by
       intro w hw;simp only[PR];refine⟨L.1,fun b' n' U=>.inr ?_⟩;rw[h1]at U;cases U;exact⟨by simp,by simp,g6,hw⟩
      rcases g7 with rfl|⟨r,rfl,hoff'⟩
      ·exact⟨.esl,h,F,ρ,.inl rfl,hpr _<|.inl rfl,Z,yf,rfl,rfl,ze _,fun _ _=>.inl rfl⟩
      ·have hob:r<=bs.length:=by
        have h7:off*f.sz<=l'.length*f.sz:=zh _ ae;omega
       have hw:wr h b (r+0*i.size) []=some (h.put b<|.cells (CE (r+0*i.size) [] bs) e fz):=Nv h2 (by simpa using hob) h4 rfl;have P:∀c,(h.put b<|.cells (CE (r+0*i.size) [] bs) e fz).get c=h.get c:=by
        intro c;rw[Qs (by simpa using hob),H.Bm];by_cases e:c=b
        ·rw[wd e,e,h2]
        ·rw[wc e]
       refine⟨.sl b r 0 0 0,h.put b<|.cells (CE (r+0*i.size) [] bs) e fz,F,ρ,.inl ?_,hpr _<|.inr ⟨r,rfl,hoff'⟩,SR.congr (st:=⟨st.n,st.fr,DW st.ob id _,st.nx⟩) Z P rfl,yf,rfl,rfl,ze _,fun c _=>.inl<|P c⟩;simp only[yd,Nat.add_zero,show zl 0 0=true from rfl,we,hw,zq,FA]
    simp only[BJ,zc,w5]at d;obtain⟨⟨⟨⟨E,k2⟩,M⟩,k4⟩,rfl,rfl⟩:=d;subst k2;obtain⟨cs,g1,g2,W⟩:=head E;obtain⟨b,n,z,h1,h2,⟨bs,fz,rfl,h3,h4,h5⟩,h6,_⟩:=hr.at ho;have hFb:=h6 rfl;simp only[PR]at L;have hB:=(hr.own id b n h1).2;have hPb:b∉h0.pin:=fun hp=>(hr.pn b hp).2.2 id n h1
    have hidN:=(hr.own id b n h1).1;obtain⟨_,_,o,g5,rfl⟩:len<=len/\0+len<=n/\∃o,(o=0\/o=f.sz)/\x=.sl b (0*f.sz) len len o:=by
     rcases L.2 b n h1 with g|⟨_,e,_⟩
     ·exact g
     ·cases e
    have D:bs.length=len*i.size:=by rw[h3.1,M,e4]
    have S:∀j oj m,AP (GP st.ob id) j=some oj->BL ρ id none j≠some (b,m):=by
     intro j oj m hj hjr;rw[Ed]at hj;split at hj
     ·cases hj
     ·rename_i hne;simp only[BL,hne,vg]at hjr;exact hne<|hr.inj j id oj _ b m n hj ho hjr h1
    have hdel:=hr.del id;have hle1:Le F ρ st.nx F (BL ρ id none) st.nx:=Le.NY id;have hnew:Eo F f (l'++new) (bs++cs):=h3.append g2;have I:(l'++new).length=len+new.length:=by rw[List.length_append, <-M]
    have K:cs.all V.one=true:=g2.S0;rw[W];simp only;by_cases R:new.length=0
    ·
     have G:new=[]:=zo.1 R;have hcs:cs=[]:=zo.1 (by rw[g2.1,R,zu]);subst hcs;have b1:zl (len+new.length) len=true:=zi ae;have hw:wr h b (0*f.sz+len*i.size) []=some (h.put b<|.cells (CE (0*f.sz+len*i.size) [] bs) e fz):=Nv h2 (by rw[D];simp) h4 rfl;have A:∀c,(h.put b<|.cells (CE (0*f.sz+len*i.size) [] bs) e fz).get c=h.get c:=by
      intro c;rw[Qs (by rw[D];simp),H.Bm];by_cases e:c=b
      ·rw[wd e,e,h2]
      ·rw[wc e]
     refine⟨.sl b (0*f.sz) (len+new.length) len o,h.put b<|.cells (CE (0*f.sz+len*i.size) [] bs) e fz,F,BL (BL ρ id none) st.nx<|some (b,n),.inl ?_,?_,?_,hle1.trans<|Le.new _,rfl,rfl,ze _,fun c _=>.inl<|A c⟩
     ·simp only[b1,we,hw,zq,FA]
     ·unfold PR;refine⟨zz _,fun b' n' hb=>.inl ?_⟩;simp[BL]at hb;obtain⟨rfl,rfl⟩:=hb;refine⟨ze _,?_,o,g5,?_⟩
      ·show 0+(len+new.length)<=n;omega
      ·show V.sl b (0*f.sz) (len+new.length) len o=.sl b (0*f.sz) (len+new.length) (len+new.length) o;rw[R];rfl
     ·refine SR.kK (ob:=GP st.ob id) ?_ (x:=.cells bs e fz) ((A b).trans h2) S hFb hB hPb rfl ⟨bs,fz,rfl,?_,h4,?_⟩
      ·exact SR.congr (st:=⟨st.n,st.fr,GP st.ob id,st.nx⟩) hdel A rfl
      ·rw[G,List.append_nil];exact h3
      ·rw[G,List.append_nil];exact h5
    ·
     have b1:zl (len+new.length) len=false:=by
      cases hb:zl (len+new.length) len with
      |false=>rfl
      |true=>have:=Nat.le_of_ble_eq_true hb;omega
     have b2:zl ((3*(len+new.length)+2000)*i.bytes) 562949953421312=true:=zi k4;have hsrc:src h i.size (.sl b (0*f.sz) len len o) len=some bs:=by
      show rd h b (0*f.sz) (len*i.size)=_;rw[rd_some h2 (by rw[D,zu];omega)<|fun u hu=>h3.ok u<|List.mem_of_mem_drop<|List.mem_of_mem_take hu];rw[zu,yg, <-D,List.take_length]
     simp only[b1,b2,wg,we,hsrc];have fin:∀ {J:H},SR B h0 F (BL ρ id none) st.nx (GP st.ob id) J->J.nx=h.nx->(∀c,c≠b->J.get c=h.get c)->
       OK B h0 F ρ st h [id] (FA<|some (.sl h.nx 0 (len+new.length) (len+new.length) i.size,J.push<|.cells (bs++cs) e (0,0))) (.sl st.nx f.sz 0 (Nat.add len new.length) none) ((st.PQ id).push<|.arr false e f<|l'++new):=by
      intro J hr1 hnx hg;have hp:=hr1.push (o:=.arr false e f<|l'++new) (x:=.cells (bs++cs) e (0,0)) (n:=len+new.length) rfl ⟨_,_,rfl,hnew,ze _,I⟩;refine⟨_,_,F,_,.inl rfl,?_,hp,hle1.trans<|Le.new _,rfl,rfl,by show h.nx<=J.nx+1;omega,fun c hc=>?_⟩
      ·rw[<-hnx];exact Oy<|.inr e4
      ·rw[H.BI,wc ae];by_cases e:c=b
       ·exact .inr ⟨id,zk.2 rfl,n,e▸h1⟩
       ·exact .inl<|hg c e
     rcases g5 with rfl|rfl
     ·simp only[z7,we];exact fin hdel rfl (fun _ _=>rfl)
     ·have b3:zf f.sz 0=false:=by
       rw[<-e4];cases hb:zf i.size 0 with
       |false=>rfl
       |true=>have:=zd hb;rw[this]at c2;cases c2
      have b4:(zf (0*f.sz) 0&&zf f.sz i.size&&zf e e&&zl fz.2 fz.1&&cs.all V.one)=true:=by
       rw[zu,e4,K,zi h4];simp
      simp only[b3,wg,h2,b4,we];exact fin (hdel.kill S hFb hB hPb) rfl (fun c hc=>by rw[H.Ch,wc hc])
theorem Fp:∀ {s:Sh} {x:s.T} {v:V},DV F s x v->PR F ρ N (Ci s x) v
 | .pair a b,x,v,h=>by obtain⟨cs,rfl,c⟩:=h.1 rfl;unfold Ci PR;exact⟨cs,rfl,Df c⟩
 | .unit,x,v,h=>by obtain⟨cs,rfl,c⟩:=h.1 rfl;simp only[DC]at c;subst c;unfold Ci PR;exact⟨[],rfl,by simp⟩
 | .int _,x,v,h=>by have:=h.2 rfl;unfold Ci PR;exact this
 | .bool,x,v,h=>by have:=h.2 rfl;unfold Ci PR;exact this
 | .str,x,v,h=>by have:=h.2 rfl;unfold Ci PR;exact this
 | .list _,x,v,h=>by have:=h.2 rfl;unfold Ci PR;exact this
 | .nlist _,x,v,h=>by have:=h.2 rfl;unfold Ci PR;exact this
 | .fnv,x,v,h=>by
  have:=h.2 rfl;simp only[DC,yi,ve]at this;subst this;unfold Ci;cases (x:Option Fn)<;>simp[PR]
 | .ptr s,x,v,h=>by
  have:=h.2 rfl;simp only[DC]at this;obtain⟨b,o,g,c,e,d,f⟩:=this;unfold Ci PR;exact⟨b,o,g,List.singleton_inj.1 c,e,d,f⟩
theorem uE{s:Sh}{p:PV}{x:s.T}{v:V}(hp:PR F ρ N p v)(b:asV s p=some x):DV F s x v:=by
 unfold asV at b;cases a:(Mf p==s.QU)with
 |false=>rw[a]at b;cases b
 |true=>
  rw[a]at b;simp only[we]at b;have a:Mf p=s.QU:=by simpa using a
  refine⟨fun e=>?_,fun e=>?_⟩
  ·rw[e]at a;cases p<;>simp only[Mf]at a<;>try (cases a;done)
   rename_i l;simp only[PR]at hp;obtain⟨cs,rfl,c⟩:=hp;exact⟨cs,rfl,C6 c b⟩
  ·rw[e]at a;have:p.cells=[p]:=by cases p<;>first|rfl|(simp[Mf]at a)
   rw[this]at b;exact C6 (by simpa using hp) b
theorem lG{T:B6}{t:TypeId}{s:Sh}(h:vA T t=some s):(∃k,s=.int k/\T.und t=some (.int k))\/(s=.str/\T.und t=some .string)\/(s=.bool/\T.und t=some .bool):=by
 unfold vA at h;split at h
 ·rename_i k a;cases h;exact .inl ⟨k,rfl,a⟩
 ·rename_i a;cases h;exact .inr<|.inl ⟨rfl,a⟩
 ·rename_i a;cases h;exact .inr<|.inr ⟨rfl,a⟩
 ·cases h
theorem XC{T:B6}{t:TypeId}{s:Sh}(a:vA T t=some s){p:PV}{x:s.T}{v:V}(hp:PR F ρ N p v)(b:sD s p=some x):DV F s x v:=by
 have:=GM hp b;rcases lG a with⟨k,rfl,_⟩|⟨rfl,_⟩|⟨rfl,_⟩<;>exact⟨fun e=>(by cases e),fun _=>this⟩
theorem S4{T:B6}{t:TypeId}{s:Sh}(f:vA T t=some s){x:s.T}{v:V}(e:DV F s x v):∃d,T.und t=some d/\I0 T t d v=true/\(∀es,Kg T t v es=K5 T t v es 0)/\∀y u,DV F s y u->fL T t v u=some (Wo s x y):=by
 rcases lG f with⟨k,rfl,a⟩|⟨rfl,a⟩|⟨rfl,a⟩<;>
 ·have b:=e.2 rfl;simp only[DC,yi,ve]at b;subst b;refine⟨_,a,rfl,fun _=>rfl,fun y u g=>?_⟩;have c:=g.2 rfl;simp only[DC,yi,ve]at c;subst c;simp[fL,a,Wo]
theorem Pu{T:B6}{t:TypeId}{ks vs:Sh}(M:vA T t=some ks){k:ks.T}{q:V}(y:DV F ks k q):∀ {l:List (ks.T×vs.T)} {es:List (V×V×Nat)},MR F ks vs l es->∀i,∃r,K5 T t q es i=some r/\
  (match r with
   |none=>EJ ks vs k l=none/\T1 ks vs k l=l/\∀x f c,DV F vs x f->MR F ks vs (Io ks vs k x l) (es++[(q,f,c)])
   |some (j,u)=>(∃v,EJ ks vs k l=some v/\DV F vs v u)/\i<=j/\MR F ks vs (T1 ks vs k l) (es.eraseIdx<|j-i)/\∀x f,DV F vs x f->MR F ks vs (Io ks vs k x l) (WB es (j-i) q f)):=by
 intro l es O;induction O with
 |nil=>intro i;exact⟨none,rfl,rfl,rfl,fun x f c m=>.cons y m .nil⟩
 |@cons a b l J I n es o p D K=>
  intro i;obtain⟨d,_,_,_,s⟩:=S4 M y;have s:=s a J o;unfold K5;rw[s];cases g:Wo ks k a with
  |true=>
   refine⟨some (i,I),rfl,⟨b,by simp[EJ,g],p⟩,ze _,?_,fun x f m=>?_⟩
   ·simp only[yk,List.eraseIdx_cons_zero,T1,g,we];exact D
   ·simp only[yk,Io,g,we,WB,List.modify_zero_cons];exact .cons y m D
  |false=>
   obtain⟨r,L,E⟩:=K<|i+1;refine⟨r,L,?_⟩;cases r with
   |none=>
    obtain⟨w,z,A⟩:=E;refine⟨by simp only[EJ,g,wg];exact w,by simp only[T1,g,wg,z],fun x f c m=>?_⟩;simp only[Io,g,wg,List.cons_append];exact .cons o p<|A x f c m
   |some G=>
    obtain⟨j,u⟩:=G;obtain⟨⟨v,w,z⟩,A,k4,k5⟩:=E;have e:j-i=(j-(i+1))+1:=ae
    refine⟨⟨v,by simp only[EJ,g,wg];exact w,z⟩,by omega,?_,fun x f m=>?_⟩
    ·rw[e];simp only[List.eraseIdx_cons_succ,T1,g,wg];exact .cons o p k4
    ·rw[e];simp only[Io,g,wg,WB,List.modify_succ_cons];exact .cons o p<|k5 x f m
theorem qW(hr:SR B h0 F ρ st.nx st.ob h){t:TypeId}{v:PV}(a:(WL C.T t st).To v st'):OK B h0 F ρ st h [] (FA<|IA h none) v st':=by
 unfold WL at a;split at a
 case h_2=>simp at a
 split at a
 case h_2=>simp at a
 rename_i ks vs e d;simp only[AU]at a;obtain⟨rfl,rfl⟩:=a;refine OK.new hr (o:=.map ks vs []) (x:=.map [] 0) (n:=0) rfl ⟨[],0,rfl,.nil⟩ ?_;unfold PR;exact⟨zz _,fun b m c=>by simp[BL]at c;rw[c.1]⟩
theorem aN(hr:SR B h0 F ρ st.nx st.ob h){ks vs:Sh}{m:PV}{l:List (ks.T×vs.T)}{x:V}(c:PR F ρ st.nx m x)(a:eW st ks vs m=some l):∃es,entries h x=some es/\MR F ks vs l es:=by
 unfold eW at a;split at a
 ·cases a;simp only[PR]at c;subst c;exact⟨[],rfl,.nil⟩
 ·rename_i id;split at a
  case h_2=>cases a
  rename_i d f l' i;obtain⟨e,g⟩:=CJ a;simp only[Sh.list.injEq,Sh.pair.injEq]at e;obtain⟨rfl,rfl⟩:=e;obtain rfl:l'=l:=g;obtain⟨b,n,o,h1,h2,⟨es,clk,rfl,h4⟩,_⟩:=hr.at i;simp only[PR]at c;obtain rfl:=c.2 b n h1;exact⟨es,by simp[entries,h2],h4⟩
 ·cases a
theorem lV{ks vs:Sh}{ok:Bool}{z:vs.T}{x:ks.T}:∀ {l:List (ks.T×vs.T)} {v:PV},(plk ks vs ok z x st l).To v st'->st=st'/\((EJ ks vs x l=none/\v=bif ok then .tup [Ci vs z,.bl false]else Ci vs z)\/∃w,EJ ks vs x l=some w/\v=bif ok then .tup [Ci vs w,.bl true]else Ci vs w)
 |[],v,d=>by
  unfold plk at d;simp only[AU]at d;exact⟨d.2,.inl ⟨rfl,d.1.symm⟩⟩
 |(a,b)::l,v,d=>by
  unfold plk at d;generalize f:Wo ks x a=c at d;cases d with
  |tt d=>
   simp only[AU]at d;exact⟨d.2,.inr ⟨b,by simp[EJ,f],d.1.symm⟩⟩
  |ff d=>
   obtain⟨g,i⟩:=lV d;have e:EJ ks vs x ((a,b)::l)=EJ ks vs x l:=by simp[EJ,f]
   rw[e];exact⟨g,i⟩
theorem kE(hr:SR B h0 F ρ st.nx st.ob h){t:TypeId}{p q:PV}{x y:V}(L:PR F ρ st.nx p x)(Z:PR F ρ st.nx q y){ok:Bool}{v:PV}(a:(SY C.T t p q ok st).To v st'):OK B h0 F ρ st h [] (Bx h<|Fa C.T h t x y ok) v st':=by
 unfold SY at a;split at a
 case h_2=>simp at a
 rename_i kt e O;split at a
 case h_2=>simp at a
 rename_i ks vs i g M J;split at a
 case h_2=>simp at a
 rename_i k l z S P R;cases b:(vAg i.zv==vs.QU)with
 |false=>rw[b]at a;simp at a
 |true=>
  rw[b]at a;simp only[we]at a;have m:=XC g Z S;obtain⟨es,W,Y⟩:=aN hr L P;obtain⟨kd,g1,g2,g3,_⟩:=S4 g m;obtain⟨r,r1,r2⟩:=Pu g m Y 0;have d:DV F vs z i.zv:=by
   have s:DC F vs z i.zv.cells:=C6 (Ez (F:=F) (ρ:=ρ) (N:=st.nx) i.zero) R;have b:vAg i.zv=vs.QU:=by simpa using b
   refine⟨fun e=>?_,fun e=>?_⟩
   ·rw[e]at b;cases c:i.zv<;>rw[c]at b<;>simp only[vAg]at b<;>try (cases b;done)
    rw[c]at s;exact⟨_,rfl,s⟩
   ·rw[e]at b;have:i.zv.cells=[i.zv]:=by cases c:i.zv<;>rw[c]at b<;>first|rfl|(simp[vAg]at b)
    rw[<-this];exact s
  unfold Fa;simp only[O,g1,W,g2,we,g3,r1];cases I:vs.qR with
  |true=>
   rw[I]at a;simp only[we]at a;have D:=lV a;obtain⟨U,G⟩:=D;subst U;rcases G with⟨K,c⟩|⟨w,A,c⟩
   ·cases r with
    |none=>
     simp only[J];cases ok with
     |true=>exact zg hr rfl (by rw[c];simp only[we,PR];exact⟨_,rfl,_,_,rfl,Fp d,_,_,rfl,by simp[PR],rfl⟩)
     |false=>exact zg hr rfl (by rw[c];exact Fp d)
    |some E=>
     obtain⟨⟨v',f,_⟩,_⟩:=r2;rw[K]at f;cases f
   ·cases r with
    |none=>rw[r2.1]at A;cases A
    |some E=>
     obtain⟨⟨v',f,o⟩,_⟩:=r2;rw[A]at f;cases f;cases ok with
     |true=>exact zg hr rfl (by rw[c];simp only[we,PR];exact⟨_,rfl,_,_,rfl,Fp o,_,_,rfl,by simp[PR],rfl⟩)
     |false=>exact zg hr rfl (by rw[c];exact Fp o)
  |false=>
  rw[I]at a;simp only[wg,AU]at a;obtain⟨rfl,rfl⟩:=a;cases r with
  |none=>
   obtain⟨f,_⟩:=r2;simp only[J,f,Option.getD_none,Option.isSome_none];cases ok with
   |true=>exact zg hr rfl (by simp only[we,PR];exact⟨_,rfl,_,_,rfl,Fp d,_,_,rfl,D2 _,rfl⟩)
   |false=>exact zg hr rfl (Fp d)
  |some E=>
   obtain⟨j,u⟩:=E;obtain⟨⟨v,f,o⟩,_⟩:=r2;simp only[f,yh,Option.isSome_some];cases ok with
   |true=>exact zg hr rfl (by simp only[we,PR];exact⟨_,rfl,_,_,rfl,Fp o,_,_,rfl,D2 _,rfl⟩)
   |false=>exact zg hr rfl (Fp o)
theorem fT(hr:SR B h0 F ρ st.nx st.ob h){t:TypeId}{p q r:PV}{x y z:V}(I:PR F ρ st.nx p x)(P:PR F ρ st.nx q y)(L:PR F ρ st.nx r z){v:PV}(f:(S8 C.T t p q r st).To v st'):
  ∃id,p=.mp id/\OK B h0 F ρ st h [id] (iR<|HO C.T h t x y z) v st':=by
 unfold S8 at f;split at f
 case h_2=>simp at f
 rename_i U e id J;split at f
 case h_2=>simp at f
 rename_i ks d vs l i D;split at f
 case h_2=>simp at f
 rename_i k E w R K G;obtain⟨A,M⟩:=CJ K;simp only[Sh.list.injEq,Sh.pair.injEq,ve]at A;subst A;obtain rfl:l=E:=M;simp only[AU]at f;obtain⟨rfl,rfl⟩:=f;have j:=XC i P R;have m:=uE L G;obtain⟨b,n,o,h1,h2,⟨es,clk,rfl,h4⟩,_⟩:=hr.at D;have s:=I;simp only[PR]at s;obtain rfl:=s.2 b n h1;obtain⟨kd,g1,g2,g3,_⟩:=S4 i j;obtain⟨r',r1,r2⟩:=Pu i j h4 0;refine⟨id,rfl,?_⟩;have fin:∀g a,MR F d vs (Io d vs k w l) g->OK B h0 F ρ st h [id] (iR<|some<|h.put b<|.map g a) (.tup []) (st.setObj id<|.map d vs<|Io d vs k w l):=by
  intro g a O;refine⟨.tup [],_,F,ρ,.inr ⟨rfl,rfl⟩,by simp[PR],hr.set D h1 h2 rfl rfl ⟨g,a,rfl,O⟩,yf,rfl,rfl,ze _,fun c _=>?_⟩;by_cases u:c=b
  ·exact .inr ⟨id,zk.2 rfl,n,u▸h1⟩
  ·exact .inl (by rw[H.Bm,wc u])
 unfold HO;simp only[J,g1,h2,g2,we,g3,r1];cases r' with
 |none=>exact fin _ _<|r2.2.2 w z clk m
 |some S=>exact fin _ _<|r2.2.2.2 w z m
theorem nP(hr:SR B h0 F ρ st.nx st.ob h){ts:Array TypeId}{ps:List PV}{xs:List V}(p:Bf F ρ st.nx ps xs){v:PV}(a:(TQ C.T ts ps st).To v st'):
  ∃id w,ps=.mp id::w/\OK B h0 F ρ st h [id] (FA<|LU C.T h ts xs) v st':=by
 unfold TQ at a;split at a
 case h_2=>simp at a
 rename_i t id q j;split at a
 case h_2=>simp at a
 rename_i J e z;split at a
 case h_2=>simp at a
 rename_i ks d vs l g r;split at a
 case h_2=>simp at a
 rename_i k u D A;obtain⟨s,E⟩:=CJ A;simp only[Sh.list.injEq,Sh.pair.injEq,ve]at s;subst s;obtain rfl:l=u:=E;simp only[AU]at a;obtain⟨rfl,rfl⟩:=a;simp only[Bf]at p;obtain⟨x,xs',rfl,hx1,y,xs'',rfl,hy,rfl⟩:=p;have i:=XC g hy D;obtain⟨b,n,o,h1,h2,⟨es,clk,rfl,h4⟩,_⟩:=hr.at r;obtain rfl:=hx1.2 b n h1;obtain⟨kd,g1,g2,g3,_⟩:=S4 g i;obtain⟨r',r1,r2⟩:=Pu g i h4 0;refine⟨id,_,rfl,?_⟩;have fin:∀f,MR F d vs (T1 d vs k l) f->OK B h0 F ρ st h [id] (FA<|some (.tup [],h.put b<|.map f clk)) (.tup []) (st.setObj id<|.map d vs<|T1 d vs k l):=by
  intro f G;refine⟨.tup [],_,F,ρ,.inl rfl,by simp[PR],hr.set r h1 h2 rfl rfl ⟨f,clk,rfl,G⟩,yf,rfl,rfl,ze _,fun c _=>?_⟩;by_cases m:c=b
  ·exact .inr ⟨id,zk.2 rfl,n,m▸h1⟩
  ·exact .inl (by rw[H.Bm,wc m])
 unfold LU;simp only[j,z,g1,h2,g2,we,g3,r1];cases r' with
 |none=>exact fin es (by rw[r2.2.1];exact h4)
 |some I=>
  have:=r2.2.2.1;simp only[Nat.sub_zero]at this;exact fin _ this
theorem SR.same(hr:SR B h0 F ρ st.nx st.ob h){id b n:Nat}{o o':Obj}{x:O}(k:st.obj id=some o)(g:ρ id=some (b,n))(f:h.get b=some x)(i:o.frozen=false)(d:o'.frozen=false)
  (j:ZP F ρ st.nx n o' x):SR B h0 F ρ st.nx (DW st.ob id o') h:=by
 have a:∀c,h.get c=(h.put b x).get c:=by
  intro c;rw[H.Bm];by_cases e:c=b
  ·rw[wd e,e,f]
  ·rw[wc e]
 exact SR.congr (st:=⟨st.n,st.fr,DW st.ob id o',st.nx⟩) (hr.set k g f i d j) a rfl
theorem wQ(hr:SR B h0 F ρ st.nx st.ob h){ts:Array TypeId}{ps:List PV}{xs:List V}(j:Bf F ρ st.nx ps xs){v:PV}(d:(Wv C.T ts ps st).To v st'):OK B h0 F ρ st h (FF ps) (FA<|FY C.T h ts xs) v st':=by
 unfold Wv at d;split at d
 case h_2=>simp at d
 rename_i t p g;simp only[Bf]at j;obtain⟨x,_,rfl,j,rfl⟩:=j;split at d
 case h_2=>simp at d
 rename_i e k;split at d
 case h_3=>simp at d
 case h_1=>
  simp only[AU]at d;obtain⟨rfl,rfl⟩:=d;simp only[PR]at j;subst j;exact⟨.tup [],h,F,ρ,.inl (by simp[FY,g,k,FA]),by simp[PR],hr,yf,rfl,rfl,ze _,fun _ _=>.inl rfl⟩
 rename_i id sz off len cap;split at d
 case h_2=>simp at d
 rename_i i m s l P w;cases u:(zf sz s.sz&&zr 0 i.zero.length&&zf i.zero.length s.sz&&Det.KZ V.one i.zero)with
 |false=>rw[u]at d;simp at d
 |true=>
  rw[u]at d;simp only[zc,FL]at u;obtain⟨⟨⟨D,M⟩,E⟩,Y⟩:=u;have D:=zd D;have E:=zd E;subst D;simp only[we]at d;split at d
  case h_2=>simp at d
  rename_i z R;simp only[BJ,w5]at d;obtain⟨I,rfl,rfl⟩:=d;obtain⟨b,n,y,h1,h2,⟨bs,fz,rfl,h3,h4,h5⟩,h6,_⟩:=hr.at w;have A:DC F s z i.zero:=C6 (Ez (F:=F) (ρ:=ρ) (N:=st.nx) i.zero) R;have f:=Eo.replicate A len;have r:=Eo.lR h3 f (a:=off) (by simpa using I);rw[ya]at r;have q:(l.take off++(zn len z++l.drop (off+len))).length=l.length:=by simp;omega
  have skip:FY C.T h ts [x]=some (.tup [],h)->len=0->OK B h0 F ρ st h (FF [.sl id s.sz off len cap]) (FA<|FY C.T h ts [x]) (.tup []) (st.setObj id<|.arr false m s<|l.take off++(zn len z++l.drop (off+len))):=by
   intro S h0;subst h0;have el:l.take off++(zn 0 z++l.drop (off+0))=l:=by simp
   refine⟨.tup [],h,F,ρ,.inl (by rw[S];rfl),by simp[PR],hr.same w h1 h2 rfl rfl (o':=.arr false m s _) ⟨bs,fz,rfl,?_,h4,?_⟩,yf,rfl,rfl,ze _,fun _ _=>.inl rfl⟩
   ·rw[el];exact h3
   ·rw[el];exact h5
  simp only[PR]at j;rcases j.2 b n h1 with⟨_,L,o,U,rfl⟩|⟨J,W,L,rfl|⟨G,rfl,_⟩⟩
  ·by_cases h0:len=0
   ·exact skip (by simp[FY,g,k,h0]) h0
   ·have K:wr h b (off*s.sz) (Ff i.zero<|len*i.zero.length)=some (h.put b<|.cells (CE (off*s.sz) ((zn len i.zero).flatten) bs) m fz):=by
     rw[H5];refine Nv h2 ?_ h4 ?_
     ·rw[f.1,ya, <-zp,h3.1];exact zh _ I
     ·exact f.S0
    have O:zf len 0=false:=by rw[Bp];simp[h0]
    refine⟨.tup [],h.put b<|.cells (CE (off*s.sz) ((zn len i.zero).flatten) bs) m fz,F,ρ,.inl ?_,by simp[PR],hr.set w h1 h2 rfl rfl (o':=.arr false m s _) ⟨_,fz,rfl,r,h4,q.trans h5⟩,yf,rfl,rfl,ze _,fun c _=>?_⟩
    ·simp only[FY,g,k,O,wg,P,M,we,K,zq,FA]
    ·rw[H.Bm];by_cases e:c=b
     ·exact .inr ⟨id,by simp[FF],n,e▸h1⟩
     ·rw[wc e];exact .inl rfl
  ·exact skip (by simp[FY,g,k]) J
  ·exact skip (by simp[FY,g,k]) J
theorem tL(hr:SR B h0 F ρ st.nx st.ob h){t:TypeId}{p:PV}{x:V}(c:PR F ρ st.nx p x){v:PV}(a:(Xz C.T t p st).To v st'):OK B h0 F ρ st h [] (FA<|H6 C.T h t x) v st':=by
 unfold Xz at a;split at a
 case h_2=>simp at a
 rename_i s b;simp only[AU]at a;obtain⟨rfl,rfl⟩:=a;obtain rfl:=FC c;have d:H6 C.T h t (.str s)=some (.ptr h.nx 0,h.push<|.siter s 0):=by simp[H6,Se,b]
 rw[d];exact OK.new hr (o:=.siter s 0) (n:=0) rfl rfl LM
theorem Abd(hr:SR B h0 F ρ st.nx st.ob h){p:PV}{x:V}(j:PR F ρ st.nx p x){i:Bool}{v:PV}(a:(nB p i st).To v st'):i=true/\∃id off,p=.ptr id off/\OK B h0 F ρ st h [id] (FA<|M6 h x i) v st':=by
 unfold nB at a;split at a
 case h_2=>simp at a
 rename_i id;split at a
 case h_2=>simp at a
 rename_i s pos k;obtain⟨b,n,y,d,f,g,m,_⟩:=hr.at k;simp only[ZP]at g;subst g;simp only[PR]at j;obtain rfl:=j.2 b n d;refine⟨rfl,id,0,rfl,?_⟩;by_cases hp:pos<s.length
 ·rw[w4 hp]at a;cases a with
  |tt a=>
   simp only[AU]at a;obtain⟨rfl,rfl⟩:=a;have l:M6 h (.ptr b 0) true=some (.tup [.bool true,i64 pos,.int .i32<|rune s pos],h.put b<|.siter s<|pos+J5 s pos):=by
    simp only[M6,f,Ht,w4 hp,we];rfl
   refine⟨_,_,F,ρ,.inl (by rw[l];rfl),?_,hr.set k d f rfl rfl (o':=.siter s _) rfl,yf,rfl,rfl,ze _,fun c _=>?_⟩
   ·simp[PR,DC,i64]
   ·rw[H.Bm];by_cases e:c=b
    ·exact .inr ⟨id,zk.2 rfl,n,e▸d⟩
    ·rw[wc e];exact .inl rfl
 ·rw[w8 hp]at a;cases a with
  |ff a=>
   simp only[AU]at a;obtain⟨rfl,rfl⟩:=a;refine⟨.tup [.bool false],h,F,ρ,.inl ?_,by simp[PR],hr,yf,rfl,rfl,ze _,fun _ _=>.inl rfl⟩;simp only[M6,f,Ht,w8 hp,wg,FA]
end
section
variable {B:Nat}{h0:H0}{F:Fz}{ρ:En}{N:Nat}{C:Ctx}{st st':AL}{h:H}
def Abc:List PV->List Nat
 | .eptr id _ _ _::_=>[id]
 |_=>[]
theorem vF(hr:SR B h0 F ρ st.nx st.ob h){ps:List PV}{xs:List V}(c:Bf F ρ st.nx ps xs){v:PV}(a:(WH ps st).To v st'):OK B h0 F ρ st h [] (Bx h<|OF xs) v st':=by
 unfold WH at a;split at a
 case h_2=>simp at a
 rename_i id sz off len;cases d:Is (st.obj id)with
 |false=>rw[d]at a;simp at a
 |true=>
  rw[d]at a;simp only[we,BJ,w5]at a;obtain⟨i,rfl,rfl⟩:=a;obtain⟨o,ho⟩:=WT d;obtain⟨b,n,z,g1,_⟩:=hr.at ho;simp only[Bf]at c;obtain⟨x,_,rfl,c,rfl⟩:=c;simp only[PR]at c;obtain⟨_,_,o',_,rfl⟩:len<=len/\off+len<=n/\∃o,(o=0\/o=sz)/\x=.sl b (off*sz) len len o:=by
   rcases c.2 b n g1 with g|⟨_,e,_⟩
   ·exact g
   ·cases e
  refine zg hr (v':=.ptr b<|off*sz) ?_ ?_
  ·have:zr 0 len=true:=by rw[Nat.blt_eq];exact i
   simp only[OF,this,we];rfl
  ·simp only[PR];refine⟨c.1,fun b' n' f=>?_⟩;rw[g1]at f;cases f;rfl
theorem fD{k:IntKind}:∀ {l:List Int} {cs:List V},Eo F (.int k) l cs->cs=l.map (y7 k):=by
 intro l cs a;have c:cs.length=l.length:=by rw[a.1];simp[Sh.sz]
 apply List.ext_getElem
 ·rw[yw];exact c
 ·intro i b f;have d:i<l.length:=ae
  have:=a.2 i d;have e:(cs.drop<|i*Sh.sz (.int k)).take (Sh.sz<|.int k)=[cs[i]]:=by
   rw[show Sh.sz (.int k)=1 from rfl,ym,zw b];rfl
  rw[e]at this;simpa [DC]using this
theorem O2:∀ {l:List Int},RO l=true->GR (l.map<|y7 .u8)=some (W1 l)
 |[],_=>rfl
 |x::l,h=>by
  unfold RO at h;rw[List.all_cons,zc,zc,w5,w5]at h;have b:=O2 (l:=l) h.2;obtain⟨n,rfl⟩:=yr h.1.1;have a:zr n 256=true:=by rw[Nat.blt_eq];omega
  have c:SJ (.int .u8 (n:Int))=some (UInt8.ofNat n):=by
   show(bif zr n 256 then some (UInt8.ofNat n)else none)=_;rw[a];rfl
  rw[List.map_cons];unfold GR;rw[c,b];rfl
theorem X5{l:List Int}(h:RO l=true)(n:Nat):RO (l.take n)=true:=by
 unfold RO at*;rw[z6]at*;exact fun x a=>h x<|List.mem_of_mem_take a
theorem zU(hr:SR B h0 F ρ st.nx st.ob h){ts:Array TypeId}{ps:List PV}{xs:List V}(g:Bf F ρ st.nx ps xs){v:PV}(a:(mV C.T ts.toList ps st).To v st'):OK B h0 F ρ st h (Abc ps) (FA<|Ry C.T h ts.toList xs) v st':=by
 unfold mV at a;split at a
 case h_2=>simp at a
 rename_i R it id sz i n G;split at a
 case h_2=>simp at a
 rename_i e q s l W L;split at a
 case h_2=>simp at a
 rename_i ti A Z u;cases I:(zf ti.size 1&&zf e q)with
 |false=>rw[I]at a;simp at a
 |true=>
  rw[I]at a;simp only[we,BJ,zc,w5]at a;obtain⟨⟨⟨⟨⟨k1,E⟩,M⟩,K⟩,k5⟩,rfl,rfl⟩:=a;subst k1;obtain⟨es,he⟩:=CJ u;have S:s=.int .u8:=by cases es;rfl
  subst S;have:A=l:=by have:=he;cases this;rfl
  subst this;obtain⟨m,rfl⟩:=yr<|Int.le_of_lt E;simp only[Int.toNat_natCast]at M K;obtain⟨b,n',z,h1,h2,⟨cs,fz,rfl,h3,h4,h5⟩,h6,_⟩:=hr.at L;have w:=h6 rfl;simp only[Bf]at g;obtain⟨x,_,rfl,g,y,_,rfl,hy,rfl⟩:=g;obtain rfl:=CU hy;simp only[PR]at g;obtain rfl:=g.2 b n' h1;have hB:=(hr.own id b n' h1).2;have D:b∉h0.pin:=fun hp=>(hr.pn b hp).2.2 id n' h1
  have d:∀j oj m,AP (GP st.ob id) j=some oj->BL ρ id none j≠some (b,m):=by
   intro j oj m r k;rw[Ed]at r;split at r
   ·cases r
   ·rename_i p;simp only[BL,p,vg]at k;exact p<|hr.inj j id oj _ b m n' r L k h1
  have o:=hr.del id;have f:=fD h3;have t:cs.take m=(A.take m).map (y7 .u8):=by rw[f,List.map_take]
  have O:=O2<|X5 k5 m;have hd:Ry C.T h ts.toList [.ptr b<|0*sz+0,.int .i64 (m:Int)]=some (.str<|W1<|A.take m,h.kill b):=by
   rw[zu];unfold Ry;rw[G];show(match C.T.und R,h.get b with
    |some (.pointer e),some (.cells cs q fz)=>(match C.T.inf e,GR (cs.take m)with
     |some i,some l=>bif zf i.size 1&&zf e q&&zr 0 m&&zl m cs.length&&zl m 9223372036854775807&&zl fz.2 fz.1 then some (V.str l,h.kill b)else none
     |_,_=>none)
    |_,_=>none)=_
   rw[W,h2];show(match C.T.inf e,GR (cs.take m)with
    |some i,some l=>bif zf i.size 1&&zf e q&&zr 0 m&&zl m cs.length&&zl m 9223372036854775807&&zl fz.2 fz.1 then some (V.str l,h.kill b)else none
    |_,_=>none)=_
   rw[Z,t,O];have E:(0:Int)<(m:Int):=E;have c1:zr 0 m=true:=by rw[Nat.blt_eq];omega
   have Y:zl m cs.length=true:=zi (by rw[f,yw];exact M);have P:zl m 9223372036854775807=true:=zi K;have U:zl fz.2 fz.1=true:=zi h4;simp only[I,c1,Y,P,U,yq,we]
  rw[hd];refine⟨_,_,F,BL ρ id none,.inl rfl,Ki _,o.kill d w hB D,Le.NY id,rfl,rfl,ze _,fun c _=>?_⟩;rw[H.Ch];by_cases J:c=b
  ·exact .inr ⟨id,zk.2 rfl,n',J▸h1⟩
  ·rw[wc J];exact .inl rfl
end
section
variable {B:Nat}{h0:H0}{C:Ctx}{F F1 F':Fz}{ρ:En}{N:Nat}{st st':AL}{fr:Fr}{h h':H}
def PC(F:Fz)(p:PV)(v:V):Prop:=∀ρ N,PR F ρ N p v
def MT(F:Fz)(ps:List PV)(vs:List V):Prop:=∀ρ N,Bf F ρ N ps vs
theorem Le.bW(a:∀b cs,F b=some cs->F1 b=some cs):Le F ρ N F1 ρ N:=⟨a,fun _ _=>.inl rfl,ze _⟩
theorem PC.mono(a:∀b cs,F b=some cs->F1 b=some cs){p:PV}{v:V}(hp:PC F p v):PC F1 p v:=fun ρ N=>(hp ρ N).mono<|Le.bW a
theorem MT.cons{p:PV}{ps:List PV}{v:V}{vs:List V}(a:PC F p v)(b:MT F ps vs):MT F (p::ps) (v::vs):=fun ρ N=>(A4 ..).2 ⟨a ρ N,b ρ N⟩
theorem MT.dc{s:Sh}{ps:List PV}{vs:List V}{x:s.T}(hp:MT F ps vs)(a:Dn s ps=some x):DC F s x vs:=C6 (hp (fun _=>none) 0) a
theorem PC.Ci:∀ {s:Sh} {x:s.T} {cs:List V},DC F s x cs->(s.QU=true->PC F (Ci s x) (.agg cs))/\(s.QU=false->∀v,cs=[v]->PC F (Ci s x) v)
 | .pair a b,x,cs,h=>⟨fun _ ρ N=>by unfold y8 PR;exact⟨cs,rfl,Df h⟩,fun e=>by cases e⟩
 | .unit,x,cs,h=>⟨fun _ ρ N=>by simp only[DC]at h;subst h;unfold y8 PR;exact⟨[],rfl,by simp⟩,fun e=>by cases e⟩
 | .int _,x,cs,h=>⟨fun e=>(by cases e),fun _ v c ρ N=>by subst c;unfold y8 PR;exact h⟩
 | .bool,x,cs,h=>⟨fun e=>(by cases e),fun _ v c ρ N=>by subst c;unfold y8 PR;exact h⟩
 | .str,x,cs,h=>⟨fun e=>(by cases e),fun _ v c ρ N=>by subst c;unfold y8 PR;exact h⟩
 | .list _,x,cs,h=>⟨fun e=>(by cases e),fun _ v c ρ N=>by subst c;unfold y8 PR;exact h⟩
 | .nlist _,x,cs,h=>⟨fun e=>(by cases e),fun _ v c ρ N=>by subst c;unfold y8 PR;exact h⟩
 | .fnv,x,cs,h=>⟨fun e=>(by cases e),fun _ v c ρ N=>by
   subst c;simp only[DC,yi,ve]at h;subst h;unfold y8;cases (x:Option Fn)<;>simp[PR]⟩
 | .ptr s,x,cs,h=>⟨fun e=>(by cases e),fun _ v c ρ N=>by
   subst c;simp only[DC]at h;obtain⟨b,o,j,d,g,f,i⟩:=h;unfold y8 PR;exact⟨b,o,j,List.singleton_inj.1 d,g,f,i⟩⟩
theorem SR.AdF{ob a:Ob}(hr:SR B h0 F ρ N ob h)(c:∀j,AP a j=AP ob j):SR B h0 F ρ N a h:=
 ⟨fun id o g=>hr.obj id o<|c id▸g,fun id id' o o' b n n' e f=>hr.inj id id' o o' b n n' (c id▸e)<|c id'▸f,hr.frz,hr.own,fun id d=>hr.dead id<|c id▸d,hr.old,hr.lt,hr.le,hr.fo,hr.gl,hr.pn⟩
theorem AbI{s:Sh}{l:List s.T}{cs:List V}{b:Nat}(k:F b=some cs)(e:Eo F s l cs){off len:Nat}(d:off+len<=l.length){cap o:Nat}(c:len<=cap)(g:o=0\/o=s.sz):
  DC F (.list s) ((l.drop off).take len) [.sl b (off*s.sz) len cap o]:=by
 have a:((l.drop off).take len).length=len:=by simp;omega
 simp only[DC];refine⟨_,rfl,.inr ⟨b,off*s.sz,cap,o,cs,by rw[a],by rw[a];exact c,k,?_,g,fun i m=>?_⟩⟩
 ·rw[a,e.1, <-zp];exact zh _ d
 ·rw[a]at m;have f:=e.2 (off+i) ae;have j:((l.drop off).take len)[i]=l[off+i]'ae:=by simp
  rw[j, <-zp];exact f
theorem Ly(st:AL)(p:PV):(Bz st p).nx=st.nx/\(Bz st p).fr=st.fr/\(Bz st p).n=st.n:=by
 unfold Bz;split
 ·split<;>exact⟨rfl,rfl,rfl⟩
 ·exact⟨rfl,rfl,rfl⟩
theorem DF:∀(ps:List PV) (st:AL),(Br ps st).nx=st.nx/\(Br ps st).fr=st.fr/\(Br ps st).n=st.n
 |[],_=>⟨rfl,rfl,rfl⟩
 |p::ps,st=>by
  obtain⟨a,c,b⟩:=DF ps<|Bz st p;obtain⟨g1,g2,g3⟩:=Ly st p;exact⟨a.trans g1,c.trans g2,b.trans g3⟩
theorem Iv:∀(ps a:List PV) (st:AL),Br (ps++a) st=Br a (Br ps st)
 |[],_,_=>rfl
 |p::ps,a,st=>Iv ps a<|Bz st p
def Ee:Option Obj->Option Obj->Prop
 |some (.arr _ e s l),o=>∃fz,o=some (.arr fz e s l)
 |a,b=>b=a
theorem Ee.refl(o:Option Obj):Ee o o:=by
 cases o with
 |none=>rfl
 |some o=>cases o<;>first|rfl|exact⟨_,rfl⟩
theorem Ns(st:AL)(p:PV)(j:Nat):Ee (st.obj j) ((Bz st p).obj j):=by
 unfold Bz;split
 case h_2=>exact Ee.refl _
 split
 case h_2=>exact Ee.refl _
 rename_i id _ _ _ _ _ fz e s l a;show Ee (AP st.ob j)<|AP (DW st.ob id<|.arr true e s l) j;rw[Hf _ _ _ _<|by show(st.obj id).isSome=true;rw[a];rfl];split
 ·rename_i b;subst b;show Ee (st.obj j) _;rw[a];exact⟨_,rfl⟩
 ·exact Ee.refl _
theorem eP{st st':AL}(h:∀id,Ee (st.obj id)<|st'.obj id)(p:PV):BS st' p=BS st p:=by
 unfold BS;cases p<;>try rfl
 rename_i id sz off len cap;have:=h id;cases a:st.obj id with
 |none=>rw[a]at this;simp only[a,show st'.obj id=none from this]
 |some o=>
  rw[a]at this;cases o with
  |arr fz e s l=>
   obtain⟨fz',b⟩:=this;simp only[a,b]
  |box _=>simp only[a,show st'.obj id=_ from this]
  |tbox _ _=>simp only[a,show st'.obj id=_ from this]
  |map _ _ _=>simp only[a,show st'.obj id=_ from this]
  |siter _ _=>simp only[a,show st'.obj id=_ from this]
  |lp _ _ _ _ _ _ _ _=>simp only[a,show st'.obj id=_ from this]
theorem MM{st st':AL}(h:∀id,Ee (st.obj id)<|st'.obj id):∀ps:List PV,Dj st' ps=Dj st ps
 |[]=>rfl
 |p::ps=>by unfold Dj;rw[eP h p,MM h ps]
theorem Ee.trans{a b c:Option Obj}(d:Ee a b)(f:Ee b c):Ee a c:=by
 cases a with
 |none=>have:b=none:=d;subst this;exact f
 |some o=>
  cases o with
  |arr fz e s l=>obtain⟨fz',rfl⟩:=d;exact f
  |box _=>have:b=_:=d;subst this;exact f
  |tbox _ _=>have:b=_:=d;subst this;exact f
  |map _ _ _=>have:b=_:=d;subst this;exact f
  |siter _ _=>have:b=_:=d;subst this;exact f
  |lp _ _ _ _ _ _ _ _=>have:b=_:=d;subst this;exact f
theorem Na:∀(ps:List PV) (st:AL) (id:Nat),Ee (st.obj id)<|(Br ps st).obj id
 |[],_,_=>Ee.refl _
 |p::ps,st,id=>(Ns st p id).trans<|Na ps (Bz st p) id
theorem VN{st st':AL}(h:∀id,Ee (st.obj id)<|st'.obj id)(s:Sh)(p:PV):Ew st' s p=Ew st s p:=by
 unfold Ew;rw[MM h]
theorem Ms{st st':AL}(h:∀id,Ee (st.obj id)<|st'.obj id):∀(l:List Sh) (ps:List PV),Dy st' l ps=Dy st l ps
 |[],[]=>rfl
 |[],_::_=>rfl
 |[a],[p]=>VN h a p
 |[a],[]=>rfl
 |[a],_::_::_=>rfl
 |a::b::l,[]=>rfl
 |a::b::l,p::ps=>by unfold Dy;rw[VN h a p,Ms h (b::l) ps]
theorem Ng(hr:SR B h0 F ρ st.nx st.ob h){p:PV}{v:V}(hp:PR F ρ st.nx p v):
  ∃F1,SR B h0 F1 ρ (Bz st p).nx (Bz st p).ob h/\(∀b cs,F b=some cs->F1 b=some cs)/\∀x,BS st p=some (true,x)->PC F1 x v:=by
 have same:∀ {q:PV},(∀x,BS st q=some (true,x)->PC F x v)->Bz st q=st->∃F1,SR B h0 F1 ρ (Bz st q).nx (Bz st q).ob h/\(∀b cs,F b=some cs->F1 b=some cs)/\∀x,BS st q=some (true,x)->PC F1 x v:=
  fun D R=>⟨F,by rw[R];exact hr,fun _ _ h=>h,D⟩
 cases p with
 |sl id sz off len cap=>
  cases f:st.obj id with
  |none=>exact same (fun x a=>by simp[BS,f]at a) (by simp[Bz,f])
  |some o=>
   cases o with
   |box _=>exact same (fun x a=>by simp[BS,f]at a) (by simp[Bz,f])
   |tbox _ _=>exact same (fun x a=>by simp[BS,f]at a) (by simp[Bz,f])
   |map _ _ _=>exact same (fun x a=>by simp[BS,f]at a) (by simp[Bz,f])
   |siter _ _=>exact same (fun x a=>by simp[BS,f]at a) (by simp[Bz,f])
   |lp _ _ _ _ _ _ _ _=>exact same (fun x a=>by simp[BS,f]at a) (by simp[Bz,f])
   |arr fz e s l=>
    obtain⟨b,n,x,D,R,⟨cs,fz',rfl,W,h5,h6⟩,h7,h8⟩:=hr.at f;have K:Bz st (.sl id sz off len cap)=st.setObj id (.arr true e s l):=by simp[Bz,f]
    have r:∀j,AP (DW st.ob id<|.arr true e s l) j=if j=id then some (.arr true e s l)else AP st.ob j:=fun j=>Hf _ _ _ _ (by show(st.obj id).isSome=true;rw[f];rfl)
    have fin:∀ {G:Fz},G b=some cs->(∀b cs,F b=some cs->G b=some cs)->∀x,BS st (.sl id sz off len cap)=some (true,x)->PC G x v:=by
     intro G hG hFG x a ρ' N';simp only[BS,f]at a;cases u:zf sz s.sz with
     |false=>rw[u]at a;simp at a
     |true=>
      rw[u]at a;simp only[we,zj,z8,w5]at a;obtain⟨A,rfl⟩:=a;have u:=zd u;subst u;unfold PR;simp only[PR]at hp;rcases hp.2 b n D with⟨M,S,o,Y,rfl⟩|⟨rfl,rfl,Y,rfl|⟨E,rfl,k4⟩⟩
      ·exact AbI hG (W.mono hFG) A M Y
      ·simp[DC]
      ·simp only[List.take_zero,DC];refine⟨_,rfl,.inr ⟨b,E,0,0,cs,rfl,ze _,hG,?_,.inl rfl,fun i U=>by simp at U⟩⟩;simp only[yd,zu,Nat.add_zero];rw[W.1];exact yt k4 (zh _ (by rw[h6];exact Y))
    cases L:fz with
    |true=>
     subst L;obtain⟨cs',t',fz2,M,S⟩:=h8 rfl;cases M;refine⟨F,?_,fun _ _ h=>h,fin S<|fun _ _ h=>h⟩;rw[K];refine SR.AdF hr fun j=>?_
     show AP (DW st.ob id _) j=_;rw[r];split
     ·rename_i I;subst I;exact f.symm
     ·rfl
    |false=>
     subst L;have Z:F b=none:=h7 rfl;have d:∀c cs',F c=some cs'->(fun c=>if c=b then some cs else F c) c=some cs':=by
      intro c cs' w;have:c≠b:=fun e=>by rw[e,Z]at w;cases w
      simp[this,w]
     refine⟨fun c=>if c=b then some cs else F c,?_,d,fin (by simp) d⟩;rw[K];have A:Le F ρ st.nx (fun c=>if c=b then some cs else F c) ρ st.nx:=Le.bW d;have z:∀k ok,AP (DW st.ob id<|.arr true e s l) k=some ok->∃o2,AP st.ob k=some o2:=by
      intro k ok hk;rw[r]at hk;by_cases ek:k=id
      ·exact⟨_,ek▸f⟩
      ·rw[wc ek]at hk;exact⟨ok,hk⟩
     refine⟨fun j oj g=>?_,fun i j oi oj c m m' U g P T=>?_,fun c cs' w=>?_,hr.own,fun j g=>?_,hr.old,hr.lt,hr.le,fun c cs' w=>?_,hr.gl,hr.pn⟩
     ·have g:AP (DW st.ob id<|.arr true e s l) j=some oj:=g;rw[r]at g;by_cases I:j=id
      ·subst I;simp only[wk,zj]at g;subst g;refine⟨b,n,_,D,R,⟨cs,fz',rfl,W.mono d,h5,h6⟩,fun e=>(by cases e),fun _=>⟨cs,_,_,rfl,by simp⟩⟩
      ·rw[wc I]at g;obtain⟨c,m,y,P,T,g3,g4,g5⟩:=hr.obj j oj g;have O:c≠b:=fun J=>I<|hr.inj j id oj _ c m n g f P<|J▸D
       exact⟨c,m,y,P,T,g3.mono A,fun e=>by simp[O,g4 e],fun e=>by obtain⟨a1,a2,a3,a4,a5⟩:=g5 e;exact⟨a1,a2,a3,a4,by simp[O,a5]⟩⟩
     ·obtain⟨_,M⟩:=z i oi U;obtain⟨_,S⟩:=z j oj g;exact hr.inj i j _ _ c m m' M S P T
     ·split at w
      ·rename_i J;cases w;subst J;exact⟨_,_,R⟩
      ·exact hr.frz c cs' w
     ·have g:AP (DW st.ob id<|.arr true e s l) j=none:=g;rw[r]at g;split at g
      ·cases g
      ·exact hr.dead j g
     ·split at w
      ·rename_i J;subst J;exact .inr (hr.own id c n D).2
      ·exact hr.fo c cs' w
 |dat s x=>exact same (fun y t ρ' N'=>by simp only[BS,zj,z8,true_and]at t;subst t;unfold PR at hp ⊢;exact hp) rfl
 |bl b=>exact same (fun y t ρ' N'=>by simp only[BS,zj,z8,true_and]at t;subst t;unfold PR at hp ⊢;exact hp) rfl
 |nil=>exact same (fun y t ρ' N'=>by simp only[BS,zj,z8,true_and]at t;subst t;unfold PR at hp ⊢;exact hp) rfl
 |BF s x off=>exact same (fun y t ρ' N'=>by simp only[BS,zj,z8,true_and]at t;subst t;unfold PR at hp ⊢;exact hp) rfl
 |any|ub|yl _|nilp|nilm|nilf|nili|agg _|tup _|ptr _ _|eptr _ _ _ _|mp _|fn _ _ _=>exact same (fun x a=>by simp[BS]at a) rfl
theorem IG:∀ {ps:List PV} {vs:List V} {st:AL} {F:Fz},SR B h0 F ρ st.nx st.ob h->Bf F ρ st.nx ps vs->
  ∃F1,SR B h0 F1 ρ (Br ps st).nx (Br ps st).ob h/\(∀b cs,F b=some cs->F1 b=some cs)/\∀xs,Dj st ps=some (true,xs)->MT F1 xs vs
 |[],vs,st,F,hr,hp=>⟨F,hr,fun _ _ h=>h,fun xs a=>by
  cases a;have o:vs=[]:=by simpa using hp
  subst o;intro ρ' N';simp⟩
 |p::ps,vs,st,F,hr,hp=>by
  simp only[Bf]at hp;obtain⟨v,vs,rfl,i,r⟩:=hp;obtain⟨F1,g1,g2,g3⟩:=Ng hr i;have f:Bf F1 ρ (Bz st p).nx ps vs:=by rw[(Ly st p).1];exact r.mono<|Le.bW g2
  obtain⟨m,q,g,l⟩:=IG g1 f;refine⟨m,q,fun b cs j=>g b cs<|g2 b cs j,fun xs a=>?_⟩;unfold Dj at a;split at a
  case h_2=>cases a
  rename_i c x d e s k;simp only[zj,z8,zc]at a;obtain⟨⟨rfl,rfl⟩,rfl⟩:=a;exact MT.cons ((g3 x s).mono g) (l e (by rw[MM<|Ns st p];exact k))
theorem lE(hr:SR B h0 F ρ st.nx st.ob h){t:TypeId}{n:Nat}{l:List (Nat×PV)}{l':List (Nat×V)}(J:PRn F ρ st.nx l l'){v:PV}(a:(Tw C.T t n l st).To v st'):OK B h0 F ρ st h [] (FA<|E9 C.T h t n l') v st':=by
 unfold Tw at a;split at a
 case h_2=>simp at a
 rename_i e G;split at a
 case h_2=>simp at a
 rename_i i s K Y;cases p:(zl (Nat.mul n i.size) 16777216&&zr 0 i.zero.length&&zf i.zero.length i.size&&zf i.size s.sz)with
 |false=>rw[p]at a;simp at a
 |true=>
  rw[p]at a;simp only[zc]at p;obtain⟨⟨⟨M,I⟩,m⟩,E⟩:=p;simp only[we]at a;split at a
  case h_2=>simp at a
  rename_i cs j;split at a
  case h_2=>
   split at a
   case h_2=>simp at a
   rename_i c cs' S;split at a
   case h_2=>simp at a
   rename_i el d;simp only[BJ]at a;obtain⟨rfl,rfl,rfl⟩:=a;have q:=zd m;have r:=zd E;have u:Bf F ρ st.nx (Ko (i.zero.map X0) n) (Ff i.zero<|n*i.size):=by
    rw[<-q,H5];exact KI _ _
   obtain⟨g,k,z⟩:=JL hr J u j;have b:g.length=n*s.sz:=by
    rw[<-r];rw[MO k];simp[Ff]
   obtain⟨F1,P,R,W⟩:=IG hr z;obtain⟨w,D⟩:=Js (W cs' S ρ st.nx) d b;have y:E9 C.T h t n l'=some (.sl h.nx 0 n n 0,h.push<|.cells g e (0,0)):=by
    have f:zl (n*i.size) 16777216=true:=M;simp only[E9,G,K,f,I,m,yq,we,k,IC]
   rw[y];obtain⟨L,O,U⟩:=DF cs st;have A:=OK.new (F:=F1) (ρ:=ρ) (st:=Br cs st) P (o:=.arr false e s el) (x:=.cells g e (0,0)) (n:=n) (v:=.sl (Br cs st).nx s.sz 0 n none) (v':=.sl h.nx 0 n n 0) rfl ⟨_,_,rfl,D.mono<|fun _ _ h=>h,ze _,w⟩ (Oy<|.inl rfl);obtain⟨v',h',F',ρ',q1,q2,q3,q4,q5,q6,q7,q8⟩:=A;rw[L]at q2;exact⟨v',h',F',ρ',q1,q2,q3,(by rw[L]at q4;exact(Le.bW R).trans q4),q5.trans O,q6.trans U,q7,q8⟩
  rename_i el d;simp only[AU]at a;obtain⟨rfl,rfl⟩:=a;have q:=zd m;have r:=zd E;have u:Bf F ρ st.nx (Ko (i.zero.map X0) n) (Ff i.zero<|n*i.size):=by
   rw[<-q,H5];exact KI _ _
  obtain⟨g,k,z⟩:=JL hr J u j;have b:g.length=n*s.sz:=by
   rw[<-r];rw[MO k];simp[Ff]
  obtain⟨w,D⟩:=Js z d b;have y:E9 C.T h t n l'=some (.sl h.nx 0 n n 0,h.push<|.cells g e (0,0)):=by
   have f:zl (n*i.size) 16777216=true:=M;simp only[E9,G,K,f,I,m,yq,we,k,IC]
  rw[y];exact OK.new hr (o:=.arr false e s el) (n:=n) rfl ⟨_,_,rfl,D.mono<|fun _ _ h=>h,ze _,w⟩ (Oy<|.inl rfl)
end
section
variable {B:Nat}{h0:H0}{F:Fz}{ρ:En}{N:Nat}{C:Ctx}{st st':AL}{fr:Fr}{h h':H}
theorem Eb{x:Operand}{k:PV->PO}{v:PV}:(v1 st x k).To v st'↔∃p,QX st x=some p/\(k p).To v st':=by
 unfold v1;cases QX st x with
 |none=>simp
 |some p=>simp
theorem kT(c:FP F ρ N st fr){x:Option Operand}{k:Option PV->PO}{v:PV}(a:(o1 st x k).To v st'):∃p y,Wm C fr x=some y/\Uf F ρ N p y/\(k p).To v st':=by
 unfold o1 at a;cases x with
 |none=>exact⟨none,none,rfl,rfl,a⟩
 |some x=>
  obtain⟨p,b,d⟩:=Eb.1 a;obtain⟨y,g1,g2⟩:=Cj (C:=C) c b;exact⟨some p,some y,by simp[Wm,g1],⟨y,rfl,g2⟩,d⟩
theorem dR(hr:SR B h0 F ρ st.nx st.ob h){b:Builtin}{ts:Array TypeId}{ps:List PV}{xs:List V}(c:Bf F ρ st.nx ps xs){v:PV}(a:(IJ C.T b ts ps st).To v st'):
  OK B h0 F ρ st h (match b with| .append| .clear=>FF ps| .unsafeString=>Abc ps|_=>[]) (EC C h b ts xs) v st':=by
 unfold IJ at a;split at a
 case h_8=>simp at a
 case h_7=>exact zU hr c a
 case h_6=>exact vF hr c a
 case h_5=>exact wQ hr c a
 case h_1=>exact Ac3 hr c a
 case h_2=>exact pF hr c a
 case h_3=>exact Aca (g:=fF) hr (fun k x y=>by simp[fF,imax]) c a
 case h_4=>exact Aca (g:=oW) hr (fun k x y=>by simp[oW,EZ]) c a
theorem qB(hr:Rel B h0 F ρ st fr h){o:Oper}{v:PV}(e:(pop o.op C.T st).To v st'):
  ∃P,OK B h0 F ρ st h P (GI C fr h o) v st'/\∀sp I,G6 sp st o.op=some I->∀i∈P,i∈I:=by
 have nil:∀ {d:Option OR} {op:Op},OK B h0 F ρ st h [] d v st'->∃P,OK B h0 F ρ st h P d v st'/\∀sp I,G6 sp st op=some I->∀i∈P,i∈I:=fun h=>⟨[],h,fun _ _ _ i M=>by cases M⟩
 have A:∀ {x p},QX st x=some p->∃y,ev C fr x=some y/\PR F ρ st.nx p y:=fun hp=>Cj hr.fp hp
 unfold pop at e;rw[Dc];unfold G1;cases W:o.op<;>rw[W]at e<;>simp only[JV,Mj]at e<;>simp only
 case move x|assign x=>
  simp only[XM,K4]at e;obtain⟨G,rfl⟩:=e;obtain⟨y,E,D⟩:=A G;refine nil ?_;rw[E];exact zg hr.sr rfl D
 case pick c a b=>
  simp only[nX,Eb]at e;obtain⟨p,G,q,L,r,h3,e⟩:=e;obtain⟨x,E,D⟩:=A G;obtain⟨y,g3,g4⟩:=A L;obtain⟨z,g5,g6⟩:=A h3;obtain⟨t,rfl,R⟩:=AbH hr.sr D g4 g6 e;refine nil ?_;rw[E];simp only;cases t
  ·simpa [g5]using R
  ·simpa [g3]using R
 case alloc t=>exact nil<|rK hr.sr e
 case box t x=>
  simp only[xT,Eb]at e;obtain⟨p,G,e⟩:=e;obtain⟨y,E,D⟩:=A G;split at e
  case h_2=>simp at e
  rename_i cs Z;cases V:Det.KZ (J8 st) cs with
  |false=>rw[V]at e;simp at e
  |true=>
  rw[V]at e;simp only[we,AU]at e;obtain⟨rfl,rfl⟩:=e;refine nil ?_;rw[E];exact Ady hr.sr D Z (by rw[<-FL];exact V)
 case build t ps=>
  simp only[Yf]at e;split at e
  case h_2=>simp at e
  rename_i l O;obtain⟨l',E,D⟩:=PG (C:=C) hr.fp O;refine nil ?_;rw[E];exact uF hr.sr D e
 case buildSlice t n ps=>
  simp only[UQ]at e;split at e
  case h_2=>simp at e
  rename_i l O;obtain⟨l',E,D⟩:=PG (C:=C) hr.fp O;refine nil ?_;rw[E];exact lE hr.sr D e
 case load t x=>
  simp only[iS,Eb]at e;obtain⟨p,G,e⟩:=e;obtain⟨y,E,D⟩:=A G;refine nil ?_;rw[E];exact mL hr.sr D e
 case store t x y=>
  simp only[ZG,Eb]at e;obtain⟨p,G,q,L,e⟩:=e;obtain⟨a,E,D⟩:=A G;obtain⟨b,g3,g4⟩:=A L;obtain⟨id,hid,R⟩:=tP hr.sr D g4 e;refine⟨[id],by rw[E,g3];exact R,fun sp I g=>?_⟩;simp only[G6,G]at g;rcases hid with⟨off,rfl⟩|⟨sz,j,off,rfl⟩<;>(simp only[zj]at g;subst g;intro i M;exact M)
 case nilCheck x=>
  simp only[Qk,Eb]at e;obtain⟨p,G,e⟩:=e;obtain⟨y,E,D⟩:=A G;rw[E];split at e
  case h_4=>simp at e
  case h_1=>
   rename_i id off;cases O:Is (st.obj id)with
   |false=>rw[O]at e;simp at e
   |true=>
    rw[O]at e;simp only[we,AU]at e;obtain⟨rfl,rfl⟩:=e;obtain⟨b,n,k1⟩:=hr.sr.live O;have J:=D;simp only[PR]at J;obtain rfl:=J.2 b n k1;exact nil<|zg hr.sr rfl D
  case h_2=>
   rename_i id sz j off;cases O:Is (st.obj id)with
   |false=>rw[O]at e;simp at e
   |true=>
    rw[O]at e;simp only[we,AU]at e;obtain⟨rfl,rfl⟩:=e;obtain⟨b,n,k1⟩:=hr.sr.live O;have J:=D;simp only[PR]at J;obtain rfl:=J.2 b n k1;exact nil<|zg hr.sr rfl D
  case h_3=>
   simp only[AU]at e;obtain⟨rfl,rfl⟩:=e;have J:=D;simp only[PR]at J;obtain⟨b,o',cs,rfl,_⟩:=J;exact nil<|zg hr.sr rfl D
 case binOp op t x y t2=>
  simp only[zR,Eb]at e;obtain⟨p,G,q,L,e⟩:=e;obtain⟨a,E,D⟩:=A G;obtain⟨b,g3,g4⟩:=A L;refine nil ?_;rw[E,g3];split at e
  case h_2=>exact Adc hr.sr D g4 e
  rename_i r S;simp only[AU]at e;obtain⟨rfl,rfl⟩:=e;unfold xP at S;split at S
  case h_3=>cases S
  all_goals
   rename_i m hu;cases Y:(ZY x||ZY y)with
   |false=>rw[Y]at S;cases S
   |true=>
    rw[Y]at S;cases S;simp only[PR]at D g4;subst D g4;exact zg hr.sr (by simp only[Nh,sS,hu,Y,we,Bx])<|Iz _
 case unOp op t x=>
  simp only[Ac8,Eb]at e;obtain⟨p,G,e⟩:=e;obtain⟨y,E,D⟩:=A G;refine nil ?_;rw[E];exact AeG hr.sr D e
 case convert s d x=>
  simp only[nU,Eb]at e;obtain⟨p,G,e⟩:=e;obtain⟨y,E,D⟩:=A G;refine nil ?_;rw[E];exact Abu hr.sr D e
 case makeFunc f a b=>
  simp only[jN]at e;split at e
  case h_2=>simp at e
  rename_i x y hx hy;simp only[AU]at e;obtain⟨rfl,rfl⟩:=e;obtain⟨u,E,D⟩:=Fg (C:=C) hr.fp hx;obtain⟨w,g3,g4⟩:=Fg (C:=C) hr.fp hy;refine nil ?_;rw[E,g3];exact zg hr.sr rfl (by unfold PR;exact⟨_,_,rfl,D,g4⟩)
 case makeMap t r=>
  simp only[Yr]at e;split at e
  case h_2=>simp at e
  refine nil ?_;exact qW hr.sr e
 case lookup t x i ok=>
  simp only[VC,Eb]at e;obtain⟨p,G,q,L,e⟩:=e;obtain⟨a,E,D⟩:=A G;obtain⟨b,g3,g4⟩:=A L;refine nil ?_;rw[E,g3];exact kE hr.sr D g4 e
 case mapUpdate t m k x|insert t m k x=>
  simp only[Ql,Eb]at e;obtain⟨p,G,q,L,r,h3,e⟩:=e;obtain⟨a,E,D⟩:=A G;obtain⟨b,g3,g4⟩:=A L;obtain⟨c,g5,g6⟩:=A h3;obtain⟨id,rfl,R⟩:=fT hr.sr D g4 g6 e;refine⟨[id],by rw[E,g3,g5];exact R,fun sp I g=>?_⟩;simp only[G6,G,zj]at g;subst g;intro i M;exact M
 case makeSlice t l c=>
  simp only[iA,Eb]at e;obtain⟨p,G,q,L,e⟩:=e;obtain⟨a,E,D⟩:=A G;obtain⟨b,g3,g4⟩:=A L;refine nil ?_;rw[E,g3];exact AaA hr.sr D g4 e
 case slice t x lo M mx=>
  simp only[ZV,Eb]at e;obtain⟨p,G,e⟩:=e;obtain⟨a,E,D⟩:=A G;obtain⟨l,l',k1,k2,e⟩:=kT (C:=C) hr.fp e;obtain⟨m,m',k3,k4,e⟩:=kT (C:=C) hr.fp e;obtain⟨n,n',k5,k6,e⟩:=kT (C:=C) hr.fp e;refine nil ?_;rw[E,k1,k3,k5];exact sY hr.sr D k2 k4 k6 e
 case fieldAddr t x f=>
  simp only[Zo,Eb]at e;obtain⟨p,G,e⟩:=e;obtain⟨y,E,D⟩:=A G;refine nil ?_;rw[E];exact wF hr.sr D e
 case field t x f=>
  simp only[Yh,Eb]at e;obtain⟨p,G,e⟩:=e;obtain⟨y,E,D⟩:=A G;refine nil ?_;rw[E];exact tK hr.sr D e
 case indexAddr t x i=>
  simp only[YL,Eb]at e;obtain⟨p,G,q,L,e⟩:=e;obtain⟨a,E,D⟩:=A G;obtain⟨b,g3,g4⟩:=A L;refine nil ?_;rw[E,g3];exact wZ hr.sr D g4 e
 case index t x i=>
  simp only[Yi,Eb]at e;obtain⟨p,G,q,L,e⟩:=e;obtain⟨a,E,D⟩:=A G;obtain⟨b,g3,g4⟩:=A L;refine nil ?_;rw[E,g3];exact tC hr.sr D g4 e
 case extract x i=>
  simp only[Rd,Eb]at e;obtain⟨p,G,e⟩:=e;obtain⟨y,E,D⟩:=A G;refine nil ?_;rw[E];exact cK hr.sr D e
 case range t x=>
  simp only[Ys,Eb]at e;obtain⟨p,G,e⟩:=e;obtain⟨y,E,D⟩:=A G;refine nil ?_;rw[E];exact tL hr.sr D e
 case next x i=>
  simp only[nR,Eb]at e;obtain⟨p,G,e⟩:=e;obtain⟨y,E,D⟩:=A G;obtain⟨rfl,id,off,rfl,R⟩:=Abd hr.sr D e;refine⟨[id],by rw[E];exact R,fun sp I g=>?_⟩;simp only[G6]at g;cases g
 case call c=>
  simp only[S9]at e;split at e
  case h_1=>simp at e
  rename_i args K;obtain⟨args',E,D⟩:=Fg (C:=C) hr.fp K;split at e
  case h_2=>simp at e
  case h_1=>
   rename_i b U;split at e
   case h_1=>
    obtain⟨id,qs,rfl,R⟩:=nP hr.sr D e;refine⟨[id],by rw[U,E];exact R,fun sp I g=>?_⟩;simp only[G6,U,K,zj]at g;subst g;intro i M;exact M
   case h_2=>
   have:=dR hr.sr D e;refine⟨_,by rw[U,E];exact this,fun sp I g=>?_⟩;simp only[G6,U,K]at g;cases b<;>simp only at g ⊢<;>try (first|(intro i M;cases M;done)|(cases g;done))
   case append=>
    cases args with
    |nil=>simp[FF]
    |cons p ps=>cases p<;>simp only[zj]at g<;>subst g<;>(intro i M;exact M)
   case unsafeString=>
    cases args with
    |nil=>simp[Abc]
    |cons p ps=>cases p<;>first|(cases g;done)|(cases g;intro i M;exact M)
end
section
variable {B:Nat}{h0:H0}{F:Fz}{ρ:En}{N:Nat}{X:AT}{st st':AL}{fr:Fr}{h h':H}{Q:PV->Ob->Prop}{n:Nat}
@[simp] theorem Dm(st:AL)(t:Nat)(p:PV)(s:Nat):(st.set t p).get s=if s=t then p else st.get s:=by
 unfold AL.get AL.set;simp only[PM.Dm];split<;>rfl
theorem Rel.set(hr:Rel B h0 F ρ st fr h){t:Nat}{p:PV}{x:V}(hp:PR F ρ st.nx p x):Rel B h0 F ρ (st.set t p) ⟨fr.n,fr.m.set t<|some x⟩ h:=by
 refine⟨⟨hr.fp.n,fun s=>?_⟩,hr.sr⟩;rw[Dm];unfold Fr.get;simp only[PM.Dm];split
 ·exact hp
 ·exact hr.fp.slot s
theorem Rel.note(hr:Rel B h0 F ρ st fr h){t:Nat}{p:PV}(hp:PR F ρ st.nx p (fr.get t)):Rel B h0 F ρ (st.set t p) fr h:=by
 refine⟨⟨hr.fp.n,fun s=>?_⟩,hr.sr⟩;rw[Dm];split
 ·rename_i e;subst e;exact hp
 ·exact hr.fp.slot s
theorem Rel.put(hr:Rel B h0 F ρ st fr h){d:Option Nat}{p:PV}{x:V}(hp:PR F ρ st.nx p x)(a:st.put d p=some st'):∃fr',fr.put d x=some fr'/\Rel B h0 F ρ st' fr' h/\st'.nx=st.nx/\st'.ob=st.ob:=by
 unfold AL.put at a;unfold Fr.put;cases d with
 |none=>cases a;exact⟨fr,rfl,hr,rfl,rfl⟩
 |some t=>
  simp only at a ⊢;have c:st.n=fr.n:=hr.fp.n;rw[c]at a;cases b:zr t fr.n with
  |false=>rw[b]at a;cases a
  |true=>
   rw[b]at a;simp only[we,zj]at a;subst a;exact⟨_,rfl,hr.set hp,rfl,rfl⟩
structure Dx(B:Nat)(h0:H0)(F:Fz)(ρ:En)(N:Nat)(h:H)(st':AL)(fr':Fr)(h':H)(F':Fz)(ρ':En):Prop where
 rel:Rel B h0 F' ρ' st' fr' h'
 le:Le F ρ N F' ρ' st'.nx
 nx:h.nx<=h'.nx
theorem Dx.refl(hr:Rel B h0 F ρ st fr h):Dx B h0 F ρ st.nx h st fr h F ρ:=⟨hr,yf,ze _⟩
theorem Dx.trans{F' f:Fz}{ρ' c:En}{e:AL}{fr' d:Fr}{g:H}(a:Dx B h0 F ρ N h st' fr' h' F' ρ')(b:Dx B h0 F' ρ' st'.nx h' e d g f c):Dx B h0 F ρ N h e d g f c:=
 ⟨b.rel,a.le.trans b.le,yt a.nx b.nx⟩
def Acf(X:AT)(ρ:En)(h:H)(args':List V):Cal->Cl->Prop
 | .fn g,c=>c=.fn g args'/\X.C.prim g=none/\∃i,X.C.fn g=some i
 | .rnd id,c=>∃b n ls,ρ id=some (b,n)/\h.get b=some (.loop ls)/\args'.length=ls.ps.size/\c=.rnd b ls (GL ls.ps.toList args' ls.fr)
inductive Ny (X:AT) (ρ:En) (h:H) (args':List V):Cal->List (V×H)->Prop where
 |Bl {g:Cal} {c:Cl} {l:List (V×H)} {M:Nat}:Acf X ρ h args' g c->(∀m,M<=m->Det.Bl X.C m c h=some l)->Ny X ρ h args' g l
 |prim {g:FuncId} {q:List V->H->Option (V×H)} {x:V×H}:X.C.prim g=some q->q args' h=some x->Ny X ρ h args' (.fn g) [x]
def FD(B:Nat)(h0:H0)(X:AT)(nd:Bool)(call:Gi):Prop:=
 ∀ {Q:PV->Ob->Prop} {n:Nat} {g:Cal} {args:List PV} {st:AL} {k:PV->AL->Tr},Ev X Q n (call g args st k)->∀ {F:Fz} {ρ:En} {fr:Fr} {h:H} {args':List V},Rel B h0 F ρ st fr h->Bf F ρ st.nx args args'->
  ∃l,Ny X ρ h args' g l/\(nd=false->∃x,l=[x])/\
   ∀x∈l,∃n',n'<=n/\∃r st',Ev X Q n' (k r st')/\∃F' ρ',PR F' ρ' st'.nx r x.1/\Dx B h0 F ρ st.nx h st' fr x.2 F' ρ'/\(∀a,g=.fn a->∀sp,X.sp a=some sp->∀b,b<h.nx->x.2.get b=h.get b)
theorem Ev.Fc{c:Bool}{a b:Tr}(e:Ev X Q n (.ite c a b)):(c=true/\Ev X Q n a)\/(c=false/\Ev X Q n b):=by
 cases e with
 |ite d f=>
  cases c with
  |true=>exact .inl ⟨rfl,d rfl⟩
  |false=>exact .inr ⟨rfl,f rfl⟩
theorem Ev.Uv{a b:Tr}(e:Ev X Q n (.both a b)):Ev X Q n a/\Ev X Q n b:=by
 cases e with
 |both c d=>exact⟨c,d⟩
theorem Ev.AF:¬Ev X Q n .fail:=fun h=>by cases h
theorem Ev.Zt{v:PV}{ob:Ob}(a:Ev X Q n (.leaf v ob)):Q v ob:=by
 cases a with
 |leaf h=>exact h
theorem Nr(hr:Rel B h0 F ρ st fr h){ops:Array Oper}{o:Oper}{yes no:AL->Tr}(a:Ev X Q n (guarded ops o st yes no)):
  ∃g,Rel B h0 F ρ g fr h/\g.nx=st.nx/\g.ob=st.ob/\((Bd fr ops o=true/\Ev X Q n (yes g))\/(Bd fr ops o=false/\Ev X Q n (no g))):=by
 unfold guarded at a;unfold Bd;cases u:o.guard with
 |none=>rw[u]at a;exact⟨st,hr,rfl,rfl,.inl ⟨rfl,a⟩⟩
 |some v=>
  obtain⟨j,f⟩:=v;rw[u]at a;simp only at a ⊢;cases s:(ops[j]?).bind (·.dst)with
  |none=>rw[s]at a;exact wh a Ev.AF
  |some t=>
   rw[s]at a;simp only at a ⊢;rw[show st.n=fr.n from hr.fp.n]at a;cases q:zr t fr.n with
   |false=>rw[q]at a;exact wh a Ev.AF
   |true=>
    rw[q]at a;simp only[we]at a ⊢;have i:=hr.fp.slot t;split at a
    case h_1=>
     rename_i b e;rw[e]at i;rw[O8 i];refine⟨st,hr,rfl,rfl,?_⟩;cases k:(b==f)with
     |true=>rw[k]at a;exact .inl ⟨k,a⟩
     |false=>rw[k]at a;exact .inr ⟨k,a⟩
    case h_2=>
     rename_i b e;rw[e]at i;have m:=HU i;have note:∀c:Bool,b=c->Rel B h0 F ρ (st.set t<|.bl c) fr h:=by
      rintro c rfl;exact hr.note (by rw[m];exact Iz _)
     rw[m];cases f with
     |true=>
      simp only[we]at a;rcases a.Fc with⟨d,a⟩|⟨d,a⟩
      ·exact⟨_,note true d,rfl,rfl,.inl ⟨by rw[show b=true from d];rfl,a⟩⟩
      ·exact⟨_,note false d,rfl,rfl,.inr ⟨by rw[show b=false from d];rfl,a⟩⟩
     |false=>
      simp only[wg]at a;rcases a.Fc with⟨d,a⟩|⟨d,a⟩
      ·exact⟨_,note true d,rfl,rfl,.inr ⟨by rw[show b=true from d];rfl,a⟩⟩
      ·exact⟨_,note false d,rfl,rfl,.inl ⟨by rw[show b=false from d];rfl,a⟩⟩
    case h_5=>exact wh a Ev.AF
    case h_4=>
     rename_i e;rw[e]at i;simp only[PR]at i;obtain⟨b,m⟩:=i;have note:∀c:Bool,b=c->Rel B h0 F ρ (st.set t<|.bl c) fr h:=by
      rintro c rfl;exact hr.note (by rw[m];exact Iz _)
     obtain⟨r,p⟩:=a.Uv;rw[m];cases b with
     |true=>
      cases f with
      |true=>exact⟨_,note true rfl,rfl,rfl,.inl ⟨rfl,r⟩⟩
      |false=>exact⟨_,note true rfl,rfl,rfl,.inr ⟨rfl,r⟩⟩
     |false=>
      cases f with
      |true=>exact⟨_,note false rfl,rfl,rfl,.inr ⟨rfl,p⟩⟩
      |false=>exact⟨_,note false rfl,rfl,rfl,.inl ⟨rfl,p⟩⟩
    case h_3=>
     rename_i l e;rw[e]at i;simp only[PR]at i;obtain⟨cs,m,_⟩:=i;rw[m];exact⟨st,hr,rfl,rfl,.inr ⟨rfl,a⟩⟩
theorem JI{d:Option Nat}{k:AL->Tr}:∀ {l:PO},Ev X Q n (PZ d k l)->∃u s g,l.To u s/\s.put d u=some g/\Ev X Q n (k g)
 | .bad,e=>wh e Ev.AF
 | .val u s,e=>by
  simp only[PZ]at e;split at e
  ·rename_i s1 m;exact⟨u,s,s1,.val,m,e⟩
  ·exact wh e Ev.AF
 | .ite c a b,e=>by
  simp only[PZ]at e;rcases e.Fc with⟨rfl,f⟩|⟨rfl,f⟩
  ·obtain⟨u,s,s1,i,j⟩:=JI f;exact⟨u,s,s1,.tt i,j⟩
  ·obtain⟨u,s,s1,i,j⟩:=JI f;exact⟨u,s,s1,.ff i,j⟩
inductive vB (X:AT) (fr:Fr) (h:H) (o:Oper):List (V×H)->Prop where
 |val {x:V} {h':H}:GI X.C fr h o=some (.val x h')->vB X fr h o [(x,h')]
 |skip {h':H}:GI X.C fr h o=some (.skip h')->vB X fr h o [(.tup [],h')]
 |alts {l:List (V×H)}:GI X.C fr h o=some (.alts l)->vB X fr h o l
 |call {g:FuncId} {args:List V} {l:List (V×H)} {M:Nat}:GI X.C fr h o=some (.enter g args)->(∀m,M<=m->Bl X.C m (.fn g args) h=some l)->vB X fr h o l
 |round {b:Nat} {ls:LS} {f:Fr} {l:List (V×H)} {M:Nat}:GI X.C fr h o=some (.round b ls f)->(∀m,M<=m->Bl X.C m (.rnd b ls f) h=some l)->vB X fr h o l
theorem HI{nd:Bool}{call:Gi}(E:FD B h0 X nd call)(hr:Rel B h0 F ρ st fr h){o:Oper}{k:AL->Tr}(S:Ev X Q n (HL X.C.T call o st k)):
  ∃l,vB X fr h o l/\((nd=false->(∃x,l=[x])/\∀l',GI X.C fr h o≠some (.alts l'))/\((∀id a,Kp st o.op≠ .yes (.rnd id) a)->∀b ls f,GI X.C fr h o≠some (.round b ls f)))/\∀x∈l,∃n',n'<=n/\∃w,Ev X Q n' (k w)/\∃F' ρ' fr',fr.put o.dst x.1=some fr'/\Dx B h0 F ρ st.nx h w fr' x.2 F' ρ'/\
   ∀G,G6 X.sp st o.op=some G->∀b,b<h.nx->x.2.get b=h.get b\/∃id∈G,∃m,ρ id=some (b,m):=by
 unfold HL at S;split at S
 case h_2=>exact wh S Ev.AF
 case h_1=>
  rename_i g args I;unfold Kp at I;split at I
  case h_2=>cases I
  rename_i c z;split at I
  case h_2=>cases I
  rename_i f p;split at I
  case h_3=>cases I
  case h_2=>
   rename_i id ps R J;cases I;obtain⟨fv,f1,V⟩:=Cj (C:=X.C) hr.fp R;obtain⟨av,a1,a2⟩:=Fg (C:=X.C) hr.fp J;simp only[PR]at V;obtain⟨l,hcd,hnd,hall⟩:=E S hr a2;obtain⟨hcd1,hM⟩:=hcd;obtain⟨b,m,ls,c1,c2,c3,rfl⟩:=hcd1;obtain rfl:=V.2 b m c1;have d:GI X.C fr h o=some (.round b ls<|GL ls.ps.toList av ls.fr):=by
    rw[Dc];unfold G1;have P:zf av.length ls.ps.size=true:=by rw[c3];exact z7 _
    simp only[z,p,a1,f1,LL,c2,P,we]
   refine⟨l,.round d hM,⟨fun e=>⟨hnd e,fun l'=>by rw[d];intro h;cases h⟩,fun hno=>?_⟩,fun x L=>?_⟩
   ·exact wh (by unfold Kp;simp only[z,p,R,J])<|hno id args
   obtain⟨n',hn,r,st',y,F',ρ',hp,K,Y⟩:=hall x L;split at y
   case h_2=>exact wh y Ev.AF
   rename_i w A;obtain⟨fr',v,U,W,Z⟩:=K.rel.put hp A;refine⟨n',hn,w,y,F',ρ',fr',v,⟨U,by rw[W];exact K.le,K.nx⟩,fun G j b P=>?_⟩;simp only[z,G6,p,R]at j;cases j
  rename_i g' first cap ps R J
  cases I;obtain⟨fv,f1,V⟩:=Cj (C:=X.C) hr.fp R;obtain⟨av,a1,a2⟩:=Fg (C:=X.C) hr.fp J;simp only[PR]at V;obtain⟨fa,fb,rfl,f3,f4⟩:=V;have M:Bf F ρ st.nx (first++ps++cap) (fa++av++fb):=(f3.append a2).append f4;obtain⟨l,hcd,hnd,hall⟩:=E S hr M;have D:vB X fr h o l/\(∀l',GI X.C fr h o≠some (.alts l'))/\∀b ls f,GI X.C fr h o≠some (.round b ls f):=by
   cases hcd with
   |Bl I hM=>
    obtain⟨rfl,O,i,hfn⟩:=I;have d:GI X.C fr h o=some (.enter g'<|fa++av++fb):=by
     rw[Dc];unfold G1;simp only[z,p,a1,f1,LL,O,hfn]
    exact⟨.call d hM,fun l'=>(by rw[d];intro h;cases h),fun b ls f=>(by rw[d];intro h;cases h)⟩
   |prim hq L=>
    rename_i q x;have d:GI X.C fr h o=some (.val x.1 x.2):=by
     rw[Dc];unfold G1;simp only[z,p,a1,f1,LL,hq,L,FA]
    exact⟨.val d,fun l'=>(by rw[d];intro h;cases h),fun b ls f=>(by rw[d];intro h;cases h)⟩
  refine⟨l,D.1,⟨fun e=>⟨hnd e,D.2.1⟩,fun _=>D.2.2⟩,fun x L=>?_⟩;obtain⟨n',hn,r,st',y,F',ρ',hp,K,Y⟩:=hall x L;split at y
  case h_2=>exact wh y Ev.AF
  rename_i w A;obtain⟨fr',v,U,W,Z⟩:=K.rel.put hp A;refine⟨n',hn,w,y,F',ρ',fr',v,⟨U,by rw[W];exact K.le,K.nx⟩,fun G j b P=>?_⟩;simp only[z,G6,p,R]at j;cases hs:X.sp g' with
  |none=>rw[hs]at j;cases j
  |some sp=>exact .inl<|Y g' rfl sp hs b P
 case h_3=>
  obtain⟨u,s,w,h1,h2,h3⟩:=JI S;obtain⟨tch,⟨v',h',F',ρ',v,U,W,Z,g5,g6,g7,g8⟩,htch⟩:=qB (C:=X.C) hr h1;have hrs:Rel B h0 F' ρ' s fr h':=⟨⟨by rw[g6];exact hr.fp.n,fun t=>by
   have:s.get t=st.get t:=by unfold AL.get;rw[g5]
   rw[this];exact(hr.fp.slot t).mono Z⟩,W⟩
  obtain⟨fr',k1,k2,k3,k4⟩:=hrs.put U h2;refine⟨[(v',h')],?_,⟨fun _=>⟨⟨_,rfl⟩,fun l'=>by rcases v with v|⟨v,_⟩<;>rw[v]<;>intro h<;>cases h⟩,fun _ b ls f=>by rcases v with v|⟨v,_⟩<;>rw[v]<;>intro h<;>cases h⟩,fun x L=>?_⟩
  ·rcases v with v|⟨v,rfl⟩
   ·exact .val v
   ·exact .skip v
  ·cases zk.1 L;refine⟨n,ze _,w,h3,F',ρ',fr',k1,⟨k2,by rw[k3];exact Z,g7⟩,fun G j b P=>?_⟩;rcases g8 b P with e|⟨id,hi,m,e⟩
   ·exact .inl e
   ·exact .inr ⟨id,htch _ _ j id hi,m,e⟩
theorem AaZ{α a:Type}{f:α->Option (List a)}{x:α}:bl [x] f=f x:=by
 unfold bl;cases f x<;>rfl
theorem KT{α o:Type}{f:Nat->Nat->α->Option (List o)}{P:o->Prop}{nd:Bool}{l:List α}(c:nd=false->∃x,l=[x])(h:∀a∈l,∃r M,(∀m,M<=m->∀q,M<=q->f m q a=some r)/\(nd=false->∃x,r=[x])/\∀y∈r,P y):
  ∃r M,(∀m,M<=m->∀q,M<=q->bl l (f m q)=some r)/\(nd=false->∃x,r=[x])/\∀y∈r,P y:=by
 cases nd with
 |false=>
  obtain⟨x,rfl⟩:=c rfl;obtain⟨r,M,g,i,h3⟩:=h x<|zk.2 rfl;exact⟨r,M,fun m k q j=>by rw[AaZ];exact g m k q j,i,h3⟩
 |true=>
  clear c;suffices hs:∃r M,(∀m,M<=m->∀q,M<=q->bl l (f m q)=some r)/\∀y∈r,P y by
   obtain⟨r,M,g,i⟩:=hs;exact⟨r,M,g,fun e=>(by cases e),i⟩
  induction l with
  |nil=>exact⟨[],0,fun _ _ _ _=>rfl,fun y d=>by cases d⟩
  |cons a l s=>
   obtain⟨r,M,g,_,i⟩:=h a List.mem_cons_self;obtain⟨r2,M2,h3,h4⟩:=s<|fun x p=>h x<|List.mem_cons_of_mem _ p;cases l with
   |nil=>exact⟨r,M,fun m k q j=>(by simp only[bl,g m k q j]),i⟩
   |cons b l=>
    refine⟨r++r2,max M M2,fun m k q j=>?_,fun y d=>?_⟩
    ·unfold bl;rw[g m ae q ae];simp only;rw[h3 m ae q ae]
    ·rcases List.mem_append.1 d with d|d
     ·exact i y d
     ·exact h4 y d
theorem OE{d:Option Nat}{P:Fr×H->Prop}:∀ {l:List (V×H)},(∀x∈l,∃fr',fr.put d x.1=some fr'/\P (fr',x.2))->∃r,HR fr d l=some r/\(∀y∈r,P y)/\((∃x,l=[x])->∃y,r=[y])
 |[],_=>⟨[],rfl,fun y a=>(by cases a),fun⟨x,h⟩=>by cases h⟩
 |x::l,h=>by
  obtain⟨fr',b,c⟩:=h x List.mem_cons_self;obtain⟨r,h3,h4,_⟩:=OE (l:=l)<|fun y a=>h y<|List.mem_cons_of_mem _ a;refine⟨(fr',x.2)::r,?_,fun y a=>?_,fun⟨z,e⟩=>?_⟩
  ·obtain⟨v,f⟩:=x;unfold HR;rw[b];simp only;rw[h3]
  ·rcases List.mem_cons.1 a with rfl|a
   ·exact c
   ·exact h4 y a
  ·cases e;cases h3;exact⟨_,rfl⟩
theorem vB.AeI{l:List (V×H)}{o:Oper}{ops:Array Oper}(a:vB X fr h o l)(c:Bd fr ops o=true){P:Fr×H->Prop}(hp:∀x∈l,∃fr',fr.put o.dst x.1=some fr'/\P (fr',x.2)):
  ∃r M,(∀m,M<=m->step1 X.C (Bl X.C m) ops o fr h=some r)/\((∃x,l=[x])->∃y,r=[y])/\∀y∈r,P y:=by
 obtain⟨r,e,j,k⟩:=OE hp;cases a with
 |@val x h' a=>
  obtain⟨fr',i,q⟩:=hp _<|zk.2 rfl;exact⟨[(fr',h')],0,fun m _=>(by simp only[step1,c,we,IW,a,i]),fun _=>⟨_,rfl⟩,fun y s=>by cases zk.1 s;exact q⟩
 |@skip h' a=>
  obtain⟨fr',i,q⟩:=hp _<|zk.2 rfl;exact⟨[(fr',h')],0,fun m _=>(by simp only[step1,c,we,IW,a,i]),fun _=>⟨_,rfl⟩,fun y s=>by cases zk.1 s;exact q⟩
 |alts a=>exact⟨r,0,fun m _=>by simp only[step1,c,we,IW,a,e],k,j⟩
 |@call g args l M a d=>exact⟨r,M,fun m p=>by simp only[step1,c,we,IW,a,d m p,e],k,j⟩
 |@round b ls f l M a d=>exact⟨r,M,fun m p=>by simp only[step1,c,we,IW,a,d m p,e],k,j⟩
theorem Z7{T:B6}{h:H}{s d:TypeId}{b off:Nat}:F9 T h s d (.ptr b off)=none:=by
 unfold F9;split<;>first|rfl|(rename_i e;cases e)
theorem jQ(hr:Rel B h0 F ρ st fr h){o:Oper}{v:PV}(a:AbO X.C.T st o.op=some v):OK B h0 F ρ st h [] (IW X.C fr h o) v st:=by
 have fin:∀ {s d:TypeId} {x:Operand} {b off:Nat} {u:V},o.op=.convert s d x->ev X.C fr x=some (.ptr b off)->BF X.C.T h s d (.ptr b off)=some u->PR F ρ st.nx v u->OK B h0 F ρ st h [] (IW X.C fr h o) v st:=by
  intro s d x b off u f j g A;have l:GI X.C fr h o=none:=by
   rw[Dc];unfold G1;rw[f];simp only[j,Z7];rfl
  refine zg hr.sr (v':=u) ?_ A;unfold IW;rw[l,f];simp only[j,g]
 unfold AbO at a;split at a
 case h_2=>cases a
 rename_i s d x f;split at a
 case h_3=>cases a
 case h_1=>
  rename_i t id off m q p;split at a
  case h_2=>cases a
  rename_i i tb cs r w;cases c:(zr 0 i.size&&zr off (Det.EN cs))with
  |false=>rw[c]at a;cases a
  |true=>
   rw[c]at a;cases a;obtain⟨y,j,g⟩:=Cj (C:=X.C) hr.fp p;obtain⟨b,n,z,k1,k2,⟨bs,fz,rfl,k4,_⟩,_⟩:=hr.sr.at w;have k:=g;simp only[PR]at k;obtain rfl:=k.2 b n k1;refine fin f j ?_ g;unfold BF;rw[m,q];simp only[r,k2];rw[Db,k4.len]at c;rw[c];rfl
 case h_2=>
  rename_i u id off m q p;split at a
  case h_2=>cases a
  rename_i i e cs r w;cases c:(zr 0 i.size&&zl i.size (Det.EN cs)&&zf e u&&zf off 0)with
  |false=>rw[c]at a;cases a
  |true=>
   rw[c]at a;cases a;obtain⟨y,j,g⟩:=Cj (C:=X.C) hr.fp p;obtain⟨b,n,z,k1,k2,⟨bs,fz,rfl,k4,_⟩,_⟩:=hr.sr.at w;have k:=g;simp only[PR]at k;obtain rfl:=k.2 b n k1;have h0:off=0:=by
    simp only[zc]at c;exact zd c.2
   subst h0;refine fin f j (u:=.ptr b 0) ?_ g;unfold BF;rw[m,q];simp only[r,k2];rw[Db,k4.len]at c;rw[c];rfl
theorem VW(hr:Rel B h0 F ρ st fr h){o:Oper}{v:PV}{f:AL}(a:Sx X.C.T st o.op=some (v,f)):OK B h0 F ρ st h [] (IW X.C fr h o) v f:=by
 unfold Sx at a;split at a
 case h_2=>cases a
 rename_i s d x c;split at a
 case h_2=>cases a
 rename_i e l p r q;split at a
 case h_2=>cases a
 rename_i A;cases a;obtain⟨y,t,w⟩:=Cj (C:=X.C) hr.fp q;obtain rfl:=FC w;have g:GI X.C fr h o=none:=by
  rw[Dc];unfold G1;rw[c];simp only[t,F9,p,r];rfl
 have q:IW X.C fr h o=FA (some (.sl h.nx 0 l.length l.length 1,h.push<|.cells (l.map fun b=>.int .u8<|.ofNat b.toNat) e (0,0))):=by
  have i:BF X.C.T h s d (.str l)=none:=by unfold BF;rw[p,r]
  unfold IW;rw[g,c];simp only[t,i,SD,p,r,A]
 rw[q];refine OK.new hr.sr (o:=.arr false e (.int .u8)<|l.map fun b=>(b.toNat:Int)) (n:=l.length) rfl ⟨l.map fun b=>y7 .u8<|.ofNat b.toNat,(0,0),rfl,⟨by simp[Sh.sz],fun j u=>?_⟩,ze _,by simp⟩ ?_
 ·have k:j<l.length:=by simpa using u
  have z:((l.map fun b=>y7 .u8<|.ofNat b.toNat).drop<|j*1).take 1=[y7 .u8<|.ofNat (l[j]).toNat]:=by
   rw[ym,zw<|by simpa using k];simp
  show DC _ (.int .u8) _<|((l.map fun b=>y7 .u8<|.ofNat b.toNat).drop<|j*1).take 1;rw[z];simp[DC]
 ·unfold PR;refine⟨zz _,fun b m a=>.inl ⟨ze _,?_,1,.inr rfl,?_⟩⟩
  ·simp[BL]at a;show 0+l.length<=m;omega
  ·simp[BL]at a;rw[<-a.1];simp
theorem W6(hr:Rel B h0 F ρ st fr h){o:Oper}{v:PV}{b:AL}(a:Wp X.C.T st o.op=some (v,b)):OK B h0 F ρ st h [] (IW X.C fr h o) v b:=by
 unfold Wp at a;split at a
 case h_1=>rename_i r c;cases a;exact VW hr c
 case h_2=>
  split at a
  case h_2=>cases a
  rename_i u d;cases a;exact jQ hr d
theorem Vp{nd:Bool}{call:Gi}(p:FD B h0 X nd call){ops:Array Oper}:∀ {l:List Oper} {n:Nat} {st:AL} {F:Fz} {ρ:En} {fr:Fr} {h:H} {k:AL->Tr},Rel B h0 F ρ st fr h->Ev X Q n (prun X.C.T call ops l st k)->
  ∃r M,(∀m,M<=m->SN X.C (Bl X.C m) ops l fr h=some r)/\(nd=false->∃x,r=[x])/\∀x∈r,∃n',n'<=n/\∃c,Ev X Q n' (k c)/\∃F' ρ',Dx B h0 F ρ st.nx h c x.1 x.2 F' ρ'
 |[],n,st,F,ρ,fr,h,k,hr,g=>⟨[(fr,h)],0,fun _ _=>rfl,fun _=>⟨_,rfl⟩,fun x Y=>by cases zk.1 Y;exact⟨n,ze _,st,g,F,ρ,Dx.refl hr⟩⟩
 |o::i,n,st,F,ρ,fr,h,k,hr,g=>by
  unfold prun at g;obtain⟨c,j,e1,e2,w⟩:=Nr hr g;have fin:∀ {l:List (Fr×H)},(∃M,∀m,M<=m->step1 X.C (Bl X.C m) ops o fr h=some l)->(nd=false->∃x,l=[x])->
    (∀y∈l,∃n',n'<=n/\∃a,Ev X Q n' (prun X.C.T call ops i a k)/\∃F' ρ',Dx B h0 F ρ st.nx h a y.1 y.2 F' ρ')->
    ∃r M,(∀m,M<=m->SN X.C (Bl X.C m) ops (o::i) fr h=some r)/\(nd=false->∃x,r=[x])/\∀x∈r,∃n',n'<=n/\∃c,Ev X Q n' (k c)/\∃F' ρ',Dx B h0 F ρ st.nx h c x.1 x.2 F' ρ':=by
   rintro l ⟨M1,Z⟩ J hl;obtain⟨r,M,G,U,S⟩:=KT (f:=fun m _ (x:Fr×H)=>SN X.C (Bl X.C m) ops i x.1 x.2) (P:=fun x=>∃n',n'<=n/\∃c,Ev X Q n' (k c)/\∃F' ρ',Dx B h0 F ρ st.nx h c x.1 x.2 F' ρ') J fun y O=>by
    obtain⟨n1,D,a,q,F1,K,b⟩:=hl y O;obtain⟨r,M,G,S,U⟩:=Vp p b.rel q;refine⟨r,M,fun m hm _ _=>G m hm,S,fun z hz=>?_⟩;obtain⟨n2,hn2,st3,he3,F2,ρ2,hwent2⟩:=U z hz;exact⟨n2,yt hn2 D,st3,he3,F2,ρ2,b.trans hwent2⟩
   refine⟨r,max M M1,fun m hm=>?_,U,S⟩;simp only[SN,Z m ae];exact G m ae m ae
  rcases w with⟨I,g⟩|⟨I,g⟩
  ·unfold xS at g;split at g
   case h_1=>
    rename_i v A hb;split at g
    case h_2=>exact wh g Ev.AF
    rename_i a d;obtain⟨v',h',F',ρ',s,W,g3,g4,g5,g6,g7,g8⟩:=W6 j hb;have hrs:Rel B h0 F' ρ' A fr h':=⟨⟨by rw[g6];exact j.fp.n,fun t=>by
     have:A.get t=c.get t:=by unfold AL.get;rw[g5]
     rw[this];exact(j.fp.slot t).mono g4⟩,g3⟩
    have hpr:∃u,PR F' ρ' A.nx v u/\∀fr',fr.put o.dst u=some fr'->∀m,step1 X.C (Bl X.C m) ops o fr h=some [(fr',h')]:=by
     rcases s with s|⟨s,rfl⟩
     ·exact⟨v',W,fun fr' L m=>by simp only[step1,I,we,s,L]⟩
     ·exact⟨.tup [],W,fun fr' L m=>by simp only[step1,I,we,s,L]⟩
    obtain⟨u,hu,DR⟩:=hpr;obtain⟨fr',L,k2,k3,k4⟩:=hrs.put hu d;refine fin (l:=[(fr',h')]) ⟨0,fun m _=>DR fr' L m⟩ (fun _=>⟨_,rfl⟩) fun y O=>?_
    cases zk.1 O;exact⟨n,ze _,a,g,F',ρ',k2,by rw[k3, <-e1];exact g4,g7⟩
   obtain⟨l,R,hnd,V⟩:=HI p j g;obtain⟨r,M,G,S,U⟩:=R.AeI (ops:=ops) (P:=fun y=>∃n',n'<=n/\∃a,Ev X Q n' (prun X.C.T call ops i a k)/\∃F' ρ',Dx B h0 F ρ st.nx h a y.1 y.2 F' ρ') I fun x Y=>by
    obtain⟨n1,D,a,q,F1,K,E,d,b,_⟩:=V x Y;rw[e1]at b;exact⟨E,d,n1,D,a,q,F1,K,b⟩
   exact fin ⟨M,G⟩ (fun e=>S (hnd.1 e).1) U
  ·unfold MG at g;split at g
   case h_2=>exact wh g Ev.AF
   rename_i a d;obtain⟨E,s,W,g3,g4⟩:=j.put (x:=.tup []) (by simp[PR]) d;refine fin (l:=[(E,h)]) ⟨0,fun m _=>by simp only[step1,I,wg,s]⟩ (fun _=>⟨_,rfl⟩) fun y O=>?_
   cases zk.1 O;exact⟨n,ze _,a,g,F,ρ,W,by rw[g3,e1];exact yf,ze _⟩
end
end Go.Pe
