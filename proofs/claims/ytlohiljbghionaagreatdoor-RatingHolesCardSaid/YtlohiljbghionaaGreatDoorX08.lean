import Derived.Test.YtlohiljbghionaaGreatDoorX07
/- A part of a proof; no law is stated here. -/
noncomputable section
open Bool renaming and_eq_true -> zc, and_self -> yq, or_true -> yz
open Nat renaming eq_of_beq_eq_true -> zd, le_refl -> ze, beq -> zf, mul_le_mul_right -> zh, ble_eq_true_of_le -> zi, ble -> zl, add_mul -> zp, blt -> zr, succ_mul -> zt, zero_mul -> zu, lt_succ_self -> zz, beq_refl -> z7, min_eq_left -> ye, sub_self -> yk, mul_one -> ym, le_trans -> yt, add_assoc -> yx, add_comm -> yy
open Go.Pe.OK renaming pure -> zg
open Option.some renaming injEq -> zj
open List renaming mem_singleton -> zk, replicate -> zn, length_eq_zero_iff -> zo, drop_eq_getElem_cons -> zw, replicate_succ -> zx, all_eq_true -> z6, length_replicate -> ya, getElem?_append_right -> yb, getElem?_append_left -> yc, length_nil -> yd, drop_zero -> yg, getElem?_range -> yj, flatten_cons -> yn, ext_getElem? -> yo, getElem?_map -> yp, getElem_cons_zero -> yu, take_of_length_le -> yv, length_map -> yw
open Option renaming map_eq_some_iff -> zm, map_some -> zq, getD_some -> yh
open Int renaming ofNat -> zy, eq_ofNat_of_zero_le -> yr
open Prod.mk renaming injEq -> z8
open Go.Pe.Le renaming refl -> yf
open List.cons renaming injEq -> yi
open Go.Det.V renaming int -> y7
open Go.Pe renaming Cp -> y8
namespace Go.Pe
open Go.Det
section
variable {B:Nat}{h0:H0}{F:Fz}{ρ:Ey}{N:Nat}{C:Ctx}{st st':AM}{fr:Fr}{h:H}
theorem SR.live(hr:SR B h0 F ρ st.nx st.ob h){id:Nat}(a:II (st.obj id)=true):∃b n,ρ id=some (b,n):=by
 obtain⟨o,c⟩:=Jq a;obtain⟨b,n,_,h1,_⟩:=hr.at c;exact⟨b,n,h1⟩
theorem D4{i:Int}(h:0<=i):∃n:Nat,i=zy n/\i.toNat=n:=⟨i.toNat,(Int.toNat_of_nonneg h).symm,rfl⟩
theorem D2{a b:Nat}(h:a<b):zr a b=true:=zi h
theorem pY(hr:SR B h0 F ρ st.nx st.ob h){t:TypeId}{p q:PV}{x y:V}(g:PR F ρ st.nx p x)(R:PR F ρ st.nx q y){v:PV}(a:(SQ C.T t p q st).To v st'):
  OK B h0 F ρ st h [] (BG h<|Dn C.T t x y) v st':=by
 unfold SQ at a;split at a
 case h_3=>simp at a
 case h_2=>
  rename_i w e k i I;obtain rfl:=C2 R;split at a
  case h_2=>simp at a
  rename_i G r;split at a
  case h_4=>simp at a
  case h_1=>
   rename_i id off;simp only[PR]at g;split at a
   case h_3=>exact wh a (by simp)
   case h_1=>
    rename_i Y te s l O;cases D:(zf off 0&&zf G.size s.sz)with
    |false=>rw[D]at a;simp at a
    |true=>
     rw[D]at a;rw[zc]at D;have K:=zd D.1;have P:=zd D.2;subst K;simp only[we,BZ,zc,w5]at a;obtain⟨⟨f,c⟩,rfl,rfl⟩:=a;obtain⟨n,rfl,hn⟩:=D4 f;have d:n<w:=by simp at c;exact c
     obtain⟨b,m,_,z,_⟩:=hr.at O;obtain rfl:=g.2 b m z;refine zg hr (v':=.ptr b<|0+n*G.size) ?_ ?_
     ·show BG h (Dn C.T t (.ptr b 0)<|.int k<|zy n)=_;simp only[Dn,I,r,D2 d,we,BG]
     ·simp only[PR];refine⟨g.1,fun b' n' E=>?_⟩;rw[z]at E;cases E;rw[hn,P,Nat.zero_add];rfl
   case h_2=>
    rename_i o _ O;simp only[BZ,zc,w5]at a;obtain⟨⟨f,c⟩,rfl,rfl⟩:=a;obtain⟨n,rfl,hn⟩:=D4 f;have d:n<w:=by simp at c;exact c
    obtain⟨b,m,_,z,_⟩:=hr.at O;obtain rfl:=g.2 b m z;refine zg hr (v':=.ptr b<|off+n*G.size) ?_ ?_
    ·show BG h (Dn C.T t (.ptr b off)<|.int k<|zy n)=_;simp only[Dn,I,r,D2 d,we,BG]
    ·simp only[PR];refine⟨g.1,fun b' n' E=>?_⟩;rw[z]at E;cases E;rw[hn];rfl
  case h_2=>
   rename_i id sz j off;cases J:II (st.obj id)with
   |false=>rw[J]at a;simp at a
   |true=>
    rw[J]at a;simp only[we,BZ,zc,w5]at a;obtain⟨⟨f,c⟩,rfl,rfl⟩:=a;obtain⟨n,rfl,hn⟩:=D4 f;have d:n<w:=by simp at c;exact c
    obtain⟨b,m,z⟩:=hr.live J;simp only[PR]at g;obtain rfl:=g.2 b m z;refine zg hr (v':=.ptr b<|j*sz+off+n*G.size) ?_ ?_
    ·show BG h (Dn C.T t (.ptr b<|j*sz+off)<|.int k<|zy n)=_;simp only[Dn,I,r,D2 d,we,BG]
    ·simp only[PR];refine⟨g.1,fun b' n' E=>?_⟩;rw[z]at E;cases E;rw[hn,yx];rfl
  case h_3=>
   rename_i s y off;simp only[BZ,zc,w5]at a;obtain⟨⟨f,c⟩,rfl,rfl⟩:=a;obtain⟨n,rfl,hn⟩:=D4 f;have d:n<w:=by simp at c;exact c
   simp only[PR]at g;obtain⟨b,o,cs,rfl,z,L,S⟩:=g;refine zg hr (v':=.ptr b<|o+off+n*G.size) ?_ ?_
   ·show BG h (Dn C.T t (.ptr b<|o+off)<|.int k<|zy n)=_;simp only[Dn,I,r,D2 d,we,BG]
   ·simp only[PR];refine⟨b,o,cs,?_,z,L,S⟩;rw[hn,yx];rfl
 case h_1=>
 rename_i e k i I;obtain rfl:=C2 R;split at a
 case h_2=>simp at a
 rename_i G r;split at a
 case h_3=>simp at a
 case h_1=>
  rename_i s l;cases A:zf G.size s.sz with
  |false=>rw[A]at a;simp at a
  |true=>
   rw[A]at a;have A:=zd A;simp only[we,BZ,zc,w5]at a;obtain⟨⟨f,c⟩,rfl,rfl⟩:=a;obtain⟨n,rfl,hn⟩:=D4 f;have d:n<l.length:=by simp at c;exact c
   simp only[PR,DC]at g;obtain⟨u,M,g⟩:=g;obtain rfl:x=u:=by simpa using M
   rcases g with⟨rfl,_⟩|⟨b,off,cap,o,U,rfl,z,L,S,_,W⟩
   ·simp at d
   ·refine zg hr (v':=.ptr b<|off+n*G.size) ?_ ?_
    ·show BG h (Dn C.T t (.sl b off l.length cap o)<|.int k<|zy n)=_;simp only[Dn,I,r,D2 d,we,BG]
    ·simp only[PR];refine⟨b,off+n*s.sz,U,by rw[A];rfl,L,?_,?_⟩
     ·have:(n+1)*s.sz<=l.length*s.sz:=zh _ d;rw[zt]at this;omega
     ·have:=W n d;rw[hn,show l.getD n s.Hv=l[n]from by simp[d]];exact this
 case h_2=>
  rename_i id sz off len cap;cases A:(zf G.size sz&&II (st.obj id))with
  |false=>rw[A]at a;simp at a
  |true=>
   rw[A]at a;simp only[zc]at A;obtain⟨A,J⟩:=A;have A:=zd A;simp only[we,BZ,zc,w5]at a;obtain⟨⟨f,c⟩,rfl,rfl⟩:=a;obtain⟨n,rfl,hn⟩:=D4 f;have d:n<len:=by simp at c;exact c
   obtain⟨b,m,z⟩:=hr.live J;simp only[PR]at g;rcases g.2 b m z with⟨_,_,o,_,rfl⟩|⟨Z,_⟩
   ·refine zg hr (v':=.ptr b<|off*sz+n*G.size) ?_ ?_
    ·show BG h (Dn C.T t (.sl b (off*sz) len _ o)<|.int k<|zy n)=_;simp only[Dn,I,r,D2 d,we,BG]
    ·simp only[PR];refine⟨g.1,fun b' n' E=>?_⟩;rw[z]at E;cases E;rw[A,hn];show V.ptr b (off*sz+n*sz)=.ptr b ((n+off)*sz+0);rw[zp,yy<|n*sz];rfl
   ·omega
theorem uT(hr:SR B h0 F ρ st.nx st.ob h){t:TypeId}{p q:PV}{x y:V}(o:PR F ρ st.nx p x)(E:PR F ρ st.nx q y){v:PV}(b:(Xn C.T t p q st).To v st'):
  OK B h0 F ρ st h [] (BG h<|Ia C.T t x y) v st':=by
 unfold Xn at b;split at b
 case h_3=>simp at b
 case h_2=>
  rename_i j e ps k i A;obtain rfl:=C2 E;split at b
  case h_2=>simp at b
  rename_i d D G f;simp only[P2,zc,w5]at b;obtain⟨⟨g,a⟩,l,rfl⟩:=b;obtain⟨n,rfl,hn⟩:=D4 g;have c:n<j:=by simp at a;exact a
  simp only[PR]at o;obtain⟨cs,rfl,w⟩:=o;rw[MS,hn]at l;have hp:=w.drop<|n*D.size;have m:Ia C.T t (.agg cs) (.int k<|zy n)=LM C.T e cs (n*D.size):=by simp only[Ia,A,f,D2 c,we]
  rcases Mu hp l with⟨z,_,_,r⟩|⟨z,u,K,J,r⟩
  ·exact zg hr (by rw[m];simp only[LM,G,f,z,we,BG]) r
  ·have:cs[n*D.size]?=some u:=by
    have:=wi (·[0]?) J;simpa using this
   exact zg hr (by rw[m];simp only[LM,G,f,z,wg,this,BG]) r
 case h_1=>
 rename_i s k i A;obtain rfl:=FL o;obtain rfl:=C2 E;simp only[BZ,zc,w5]at b;obtain⟨⟨g,a⟩,rfl,rfl⟩:=b;obtain⟨n,rfl,hn⟩:=D4 g;have c:n<List.length s:=by simp at a;exact a
 have I:(s:Z)[n]?=some (s:Z)[n]:=List.getElem?_eq_getElem c;refine zg hr (v':=.int .u8 ((s:Z)[n].toNat:Int)) ?_ ?_
 ·show BG h (Ia C.T t (.str s)<|.int k<|zy n)=_;simp only[Ia,A,I,BG]
 ·rw[hn,show List.getD (s:Z) n 0=(s:Z)[n]from by simp[c]];exact Dw _ _
theorem cU(hr:SR B h0 F ρ st.nx st.ob h){p:PV}{x:V}(b:PR F ρ st.nx p x){i:Nat}{v:PV}(a:(P7 p i st).To v st'):OK B h0 F ρ st h [] (BG h<|HF x i) v st':=by
 unfold P7 at a;split at a
 case h_2=>simp at a
 rename_i ps;split at a
 case h_2=>simp at a
 rename_i q c;simp only[AW]at a;obtain⟨rfl,rfl⟩:=a;simp only[PR]at b;obtain⟨cs,rfl,hps⟩:=b;obtain⟨u,h1,h2⟩:=hps.get c;exact zg hr (by simp only[HF,h1,BG]) h2
def UP(F:Fz)(ρ:Ey)(N:Nat):Option PV->Option V->Prop
 |none,x=>x=none
 |some p,x=>∃v,x=some v/\PR F ρ N p v
theorem Eh{o:Option PV}{x:Option V}{d:Nat}{c:Bool}{n:Nat}(a:UP F ρ N o x)(hp:pb o d=some (c,n))(b:c=true){y:Nat}(e:n<=y):CO x y d=some n:=by
 unfold pb at hp;split at hp
 ·cases hp;simp only[UP]at a;subst a;rfl
 ·cases hp;simp only[UP]at a;obtain⟨v,rfl,f⟩:=a;obtain rfl:=C2 f;simp only[w5]at b;obtain⟨m,rfl,hm⟩:=D4 b;rw[hm]at e;show(bif zl m y then some m else none)=_;rw[zi e,hm];rfl
 ·cases hp
theorem UP.isNone{o:Option PV}{x:Option V}(a:UP F ρ N o x):(o=none↔x=none):=by
 cases o with
 |none=>simp only[UP]at a;simp[a]
 |some p=>simp only[UP]at a;obtain⟨v,rfl,_⟩:=a;simp
theorem M8{T:Ce}{t e:TypeId}{g:TI}{b off len cap o m c l:Nat}{lo d mx:Option V}(j:T.und t=some (.slice e))(a:T.inf e=some g)(i:CO mx cap cap=some m)(p:CO d m len=some c)
  (k:CO lo c 0=some l) (f:d=none->mx=none):
  DP T t (.sl b off len cap o) lo d mx=bif zf m l then(bif zf (Ki mx o) 0 then some (.sl b off (c-l) (m-l) 0)else some .esl)
   else bif zf (Ki mx o) 0||zf (Ki mx o) g.size then some (.sl b (off+l*g.size) (c-l) (m-l)<|Ki mx o)else none:=by
 cases d with
 |some x=>cases mx<;>simp only[DP,j,a,i,p,k]
 |none=>
  cases f rfl;simp only[DP,j,a,i,p,k]
theorem iL(hr:SR B h0 F ρ st.nx st.ob h){t:TypeId}{p:PV}{x:V}{lo hi mx:Option PV}{a b c:Option V}(E:PR F ρ st.nx p x)(P:UP F ρ st.nx lo a)(r:UP F ρ st.nx hi b)(k:UP F ρ st.nx mx c)
  {v:PV} (d:(Ut C.T t p lo hi mx st).To v st'):OK B h0 F ρ st h [] (BG h<|DP C.T t x a b c) v st':=by
 unfold Ut at d;split at d
 case h_3=>simp at d
 case h_1=>
  rename_i S;split at d
  case h_2=>simp at d
  rename_i s;obtain rfl:=FL E;split at d
  case h_2=>simp at d
  rename_i c1 l c2 j f g;simp only[BZ,zc,w5]at d;obtain⟨⟨⟨⟨Y,M⟩,W⟩,J⟩,rfl,rfl⟩:=d;simp only[UP]at k;subst k;have K:=Eh P f Y W;have w:=Eh r g M J;exact zg hr (by simp only[DP,S,K,w,BG];rfl)<|KW _
 case h_2=>
  rename_i e S;split at d
  case h_2=>simp at d
  rename_i ti y;split at d
  case h_4=>simp at d
  case h_1=>
   rename_i s xs;cases D:zf ti.size s.sz with
   |false=>rw[D]at d;simp at d
   |true=>
    rw[D]at d;have D:=zd D;simp only[we]at d;split at d
    case h_2=>simp at d
    rename_i c1 l c2 j f g;simp only[BZ,zc,w5]at d;obtain⟨⟨⟨⟨Y,M⟩,W⟩,J⟩,rfl,rfl⟩:=d;simp only[UP]at k;subst k;have K:=Eh P f Y W;simp only[PR,DC]at E;obtain⟨u,hu1,E⟩:=E;obtain rfl:x=u:=by simpa using hu1
    rcases E with⟨rfl,rfl|rfl|rfl⟩|⟨bb,off,cap,o,bs,rfl,R,h2,h3,h5,h4⟩
    ·have w:=Eh r g M J;simp only[yd]at w J;refine zg hr (v':=.nils) (by simp only[DP,S,show CO none 0 0=some 0 from rfl,show lJ b none=CO b 0 0 from by cases b<;>rfl,K,w,y,BG]) ?_;simp[PR,DC]
    ·have w:=Eh r g M J;simp only[yd]at w J;refine zg hr (v':=.esl) (by simp only[DP,S,show CO none 0 0=some 0 from rfl,show lJ b none=CO b 0 0 from by cases b<;>rfl,K,w,y,BG,Qy,wg]) ?_;simp[PR,DC]
    ·have w:=Eh r g M J;simp only[yd]at w J;refine zg hr (v':=.es0) (by simp only[DP,S,show CO none 0 0=some 0 from rfl,show lJ b none=CO b 0 0 from by cases b<;>rfl,K,w,y,BG]) ?_;simp[PR,DC]
    ·have w:CO b cap xs.length=some j:=Eh r g M<|yt J R;have I:=M8 (b:=bb) (off:=off) (len:=xs.length) (cap:=cap) (o:=o) (mx:=none) S y rfl w K (fun _=>rfl);have A:((xs.drop l).take<|Nat.sub j l).length=j-l:=by
      have:Nat.sub j l=j-l:=rfl;rw[this];simp;omega
     by_cases hcl:cap=l
     ·have U:j=l:=ae
      have hemp:(xs.drop l).take (Nat.sub j l)=[]:=by
       apply List.eq_nil_of_length_eq_zero;rw[A];omega
      rw[hemp];by_cases Z:o=0
      ·refine zg hr (v':=.sl bb off (j-l) (cap-l) 0) ?_ ?_
       ·have:Ki none o=0:=Z;rw[I,this,hcl,z7];rfl
       ·simp only[PR,DC];exact⟨_,rfl,.inr ⟨bb,off,cap-l,0,bs,by simp[U],by simp,h2,by simp;omega,.inl rfl,fun i hi=>by simp at hi⟩⟩
      ·refine zg hr (v':=.esl) ?_ ?_
       ·have R:zf (Ki none o) 0=false:=by rw[Bw];simp[Ki,Z]
        rw[I,R,hcl,z7];rfl
       ·simp[PR,DC]
     ·refine zg hr (v':=.sl bb (off+l*ti.size) (j-l) (cap-l) o) ?_ ?_
      ·have f:zf cap l=false:=by rw[Bw];simp[hcl]
       have Z:(zf (Ki none o) 0||zf (Ki none o) ti.size)=true:=by
        rcases h5 with rfl|rfl
        ·rfl
        ·rw[D];show(zf s.sz 0||zf s.sz s.sz)=true;rw[z7,yz]
       rw[I,f,Z];rfl
      ·simp only[PR,DC];refine⟨_,rfl,.inr ⟨bb,off+l*ti.size,cap-l,o,bs,by rw[A],by rw[A];omega,h2,?_,h5,fun i hi=>?_⟩⟩
       ·rw[A,D];have:(l+(j-l))*s.sz<=xs.length*s.sz:=zh _ ae;rw[zp]at this;omega
       ·rw[A]at hi;have hi2:l+i<xs.length:=ae
        have:=h4 (l+i) hi2;rw[List.getElem_take,List.getElem_drop,D];rw[zp, <-yx]at this;exact this
  case h_2=>
   rename_i id sz off len cap;cases D:(zf ti.size sz&&II (st.obj id))with
   |false=>rw[D]at d;simp at d
   |true=>
    rw[D]at d;simp only[zc]at D;obtain⟨D,hl⟩:=D;have D:=zd D;simp only[we]at d;have hno:¬(hi=none/\mx≠none):=by
     rintro⟨rfl,hm⟩;cases mx with
     |none=>exact hm rfl
     |some _=>simp at d
    split at d
    case h_1=>simp at d
    split at d
    case h_2=>simp at d
    rename_i c1 l c2 j c3 m f g hb3;simp only[BZ,zc,w5]at d;obtain⟨⟨⟨⟨⟨⟨⟨Y,M⟩,W⟩,J⟩,k5⟩,k6⟩,k7⟩,rfl,rfl⟩:=d;have K:=Eh P f Y J;have e3:=Eh k hb3 W k6;have w:=Eh r g M k5;have hno':b=none->c=none:=by
     intro hbn;cases hcc:c with
     |none=>rfl
     |some z=>
      exfalso;apply hno;exact⟨r.isNone.2 hbn,fun e=>by have:=k.isNone.1 e;rw[this]at hcc;cases hcc⟩
    obtain⟨b0,n0,R⟩:=hr.live hl;simp only[PR]at E;rcases E.2 b0 n0 R with⟨g1,g2,o,g3,rfl⟩|⟨rfl,rfl,g2,g3⟩
    ·have I:=M8 (b:=b0) (off:=off*sz) (len:=len) (cap:=cap.getD len) (o:=o) S y e3 w K hno';have hoz:Ki c o=0\/Ki c o=sz:=by
      unfold Ki;cases c with
      |none=>exact g3
      |some _=>exact .inl rfl
     by_cases L:m=l
     ·have U:j-l=0:=ae
      by_cases Z:Ki c o=0
      ·refine zg hr (v':=.sl b0 (off*sz) (j-l) (m-l) 0) ?_ ?_
       ·rw[I,Z,L,z7];rfl
       ·unfold PR;refine⟨E.1,fun b' n' G=>.inr ?_⟩;rw[R]at G;cases G;refine⟨U,?_,?_,.inr ⟨off*sz,by rw[U,L,yk],zh _<|Nat.le_add_right _ _⟩⟩
        ·show some (m-l)=some 0;rw[L,yk]
        ·show off+l<=n0;omega
      ·refine zg hr (v':=.esl) ?_ ?_
       ·have hb0:zf (Ki c o) 0=false:=by rw[Bw];simp[Z]
        rw[I,hb0,L,z7];rfl
       ·unfold PR;refine⟨E.1,fun b' n' G=>.inr ?_⟩;rw[R]at G;cases G;refine⟨U,?_,?_,.inl rfl⟩
        ·show some (m-l)=some 0;rw[L,yk]
        ·show off+l<=n0;omega
     ·refine zg hr (v':=.sl b0 (off*sz+l*ti.size) (j-l) (m-l)<|Ki c o) ?_ ?_
      ·have f:zf m l=false:=by rw[Bw];simp[L]
       have Z:(zf (Ki c o) 0||zf (Ki c o) ti.size)=true:=by
        rcases hoz with e|e
        ·rw[e];rfl
        ·rw[e,D,z7,yz]
       rw[I,f,Z];rfl
      ·unfold PR;refine⟨E.1,fun b' n' G=>.inl ?_⟩;rw[R]at G;cases G;refine⟨?_,?_,Ki c o,hoz,?_⟩
       ·show j-l<=m-l;omega
       ·show off+l+(m-l)<=n0;omega
       ·show V.sl b0 (off*sz+l*ti.size) (j-l) (m-l) (Ki c o)=.sl b0 ((off+l)*sz) (j-l) (m-l) (Ki c o);rw[D,zp]
    ·simp only[yh]at k6 k7 e3;obtain rfl:m=0:=ae
     obtain rfl:j=0:=ae
     obtain rfl:l=0:=ae
     have hc:c=none:=by
      cases mx with
      |none=>exact k
      |some _=>simp[has]at k7
     subst hc;rcases g3 with rfl|⟨O,rfl,g4⟩
     ·refine zg hr (v':=.esl) (by simp only[DP,S,y,show CO none 0 0=some 0 from rfl,show lJ b none=CO b 0 0 from by cases b<;>rfl,w,K,BG,Qy,wg]) ?_;unfold PR;exact⟨E.1,fun b' n' G=>.inr ⟨by rfl,by rfl,by rw[R]at G;cases G;exact g2,.inl rfl⟩⟩
     ·refine zg hr (v':=.sl b0 O 0 0 0) ?_ ?_
      ·rw[M8 (mx:=none) S y rfl w K (fun _=>rfl)];rfl
      ·unfold PR;refine⟨E.1,fun b' n' G=>.inr ⟨rfl,rfl,?_,.inr ⟨O,?_,?_⟩⟩⟩
       ·rw[R]at G;cases G;exact g2
       ·rw[R]at G;cases G;rfl
       ·show O<=(off+0)*sz;exact g4
  case h_3=>
   split at d
   case h_3=>simp at d
   case h_2=>
    rename_i c1 l c2 j q f g;split at d
    case h_2=>simp at d
    rename_i p' c3 m hb3;simp only[BZ,zc,w5]at d;obtain⟨⟨⟨⟨⟨⟨Y,M⟩,k5⟩,W⟩,J⟩,k6⟩,rfl,rfl⟩:=d;have K:=Eh P f Y W;have w:=Eh r g M (show j<=0 by omega);have e3:=Eh k hb3 k5 k6;simp only[PR]at E;subst E;cases b with
    |none=>simp[UP]at r
    |some b=>exact zg hr (v':=.nils) (by simp only[DP,S,e3,show lJ (some b) c=CO (some b) 0 0 from by cases c<;>rfl,w,K,y,BG]) (by simp[PR])
   rename_i c1 l c2 j f g;simp only[BZ,zc,w5]at d;obtain⟨⟨⟨⟨Y,M⟩,W⟩,J⟩,rfl,rfl⟩:=d;simp only[UP]at k;subst k;have K:=Eh P f Y W;have w:=Eh r g M J;simp only[PR]at E;subst E;exact zg hr (v':=.nils) (by simp only[DP,S,show CO none 0 0=some 0 from rfl,show lJ b none=CO b 0 0 from by cases b<;>rfl,K,w,y,BG]) (by simp[PR])
theorem wT(hr:SR B h0 F ρ st.nx st.ob h){t:TypeId}{p q:PV}{x y:V}(c:PR F ρ st.nx p x)(a:PR F ρ st.nx q y){v:PV}(b:(kP C.T t p q st).To v st'):
  OK B h0 F ρ st h [] (BG h<|Dn C.T t x y) v st':=pY hr c.lz a b
theorem sY(hr:SR B h0 F ρ st.nx st.ob h){t:TypeId}{p:PV}{x:V}{lo g mx:Option PV}{a b c:Option V}(i:PR F ρ st.nx p x)(d:UP F ρ st.nx lo a)(f:UP F ρ st.nx g b)(e:UP F ρ st.nx mx c)
  {v:PV} (j:(iO C.T t p lo g mx st).To v st'):OK B h0 F ρ st h [] (BG h<|DP C.T t x a b c) v st':=iL hr i.lz d f e j
theorem MR.len{ks vs:Sh}{l:List (ks.T×vs.T)}{es:List (V×V×Nat)}(h:MR F ks vs l es):l.length=es.length:=by
 induction h with
 |nil=>rfl
 |cons _ _ _ a=>simp[a]
theorem AbD(hr:SR B h0 F ρ st.nx st.ob h){ts:Array TypeId}{ps:List PV}{xs:List V}(d:Bi F ρ st.nx ps xs){v:PV}(c:(VP C.T ts ps st).To v st'):OK B h0 F ρ st h [] (BG h<|Gn C.T h ts xs) v st':=by
 unfold VP at c;split at c
 case h_2=>simp at c
 rename_i t p a;simp only[Bi]at d;obtain⟨x,g,rfl,d,rfl⟩:=d;split at c
 case h_6=>simp at c
 case h_1=>
  rename_i s e;simp only[AW]at c;obtain⟨rfl,rfl⟩:=c;obtain rfl:=FL d;exact zg hr (by simp only[Gn,a,e,BG];rfl)<|Dw _ _
 case h_2=>
  rename_i s l e;simp only[AW]at c;obtain⟨rfl,rfl⟩:=c;simp only[PR,DC]at d;obtain⟨u,hu1,d⟩:=d;obtain rfl:x=u:=by simpa using hu1
  rcases d with⟨rfl,rfl|rfl|rfl⟩|⟨b,off,cap,o,j,rfl,_⟩
  ·exact zg hr (by simp only[Gn,a,e,BG];rfl)<|Dw _ _
  ·exact zg hr (by simp only[Gn,a,e,BG];rfl)<|Dw _ _
  ·exact zg hr (by simp only[Gn,a,e,BG];rfl)<|Dw _ _
  ·exact zg hr (by simp only[Gn,a,e,BG];rfl)<|Dw _ _
 case h_3=>
  rename_i id sz off len cap e;cases f:II (st.obj id)with
  |false=>rw[f]at c;simp at c
  |true=>
   rw[f]at c;simp only[we,AW]at c;obtain⟨rfl,rfl⟩:=c;obtain⟨b,n,h1⟩:=hr.live f;simp only[PR]at d;rcases d.2 b n h1 with⟨_,_,o,_,rfl⟩|⟨rfl,_,_,rfl|⟨_,rfl,_⟩⟩
   ·exact zg hr (by simp only[Gn,a,e,BG];rfl)<|Dw _ _
   ·exact zg hr (by simp only[Gn,a,e,BG];rfl)<|Dw _ _
   ·exact zg hr (by simp only[Gn,a,e,BG];rfl)<|Dw _ _
 case h_4=>
  rename_i e;simp only[AW]at c;obtain⟨rfl,rfl⟩:=c;simp only[PR]at d;subst d;exact zg hr (by simp only[Gn,a,e,BG];rfl)<|Dw _ _
 case h_5=>
  rename_i id e;split at c
  case h_2=>simp at c
  rename_i ks vs l i;simp only[AW]at c;obtain⟨rfl,rfl⟩:=c;obtain⟨b,n,y,h1,h2,⟨es,clk,rfl,h3⟩,_⟩:=hr.at i;simp only[PR]at d;obtain rfl:=d.2 b n h1;have f:l.length=es.length:=h3.len;refine zg hr (v':=i64 es.length) (by simp only[Gn,a,e,h2,BG]) ?_;rw[<-f];exact Dw _ _
theorem AcM(hr:SR B h0 F ρ st.nx st.ob h){ts:Array TypeId}{ps:List PV}{xs:List V}(a:Bi F ρ st.nx ps xs){v:PV}(b:(sV C.T ts ps st).To v st'):OK B h0 F ρ st h [] (BG h<|Gn C.T h ts xs) v st':=AbD hr a.lz b
theorem Ac9(hr:SR B h0 F ρ st.nx st.ob h){f:Int->Int->Int}{g:V->V->Option V}(o:∀k x y,g (.int k x) (.int k y)=some (.int k<|f x y)){ps:List PV}{xs:List V}(b:Bi F ρ st.nx ps xs){v:PV}
  (c:(OI f ps st).To v st'):OK B h0 F ρ st h [] (BG h<|GK g xs) v st':=by
 have key:∀(ps:List PV) (xs:List V) (k:IntKind) (x z:Int),Bi F ρ st.nx ps xs->pmm f k x ps=some z->dfold g (.int k x) xs=some (.int k z):=by
  intro ps;induction ps with
  |nil=>intro xs k x z b a;simp at b;subst b;simp only[pmm,zj]at a;subst a;rfl
  |cons p ps q=>
   intro xs k x z b a;simp only[Bi]at b;obtain⟨u,l,rfl,j,i⟩:=b;unfold pmm at a;split at a
   case h_1=>rename_i e;cases e
   case h_2=>
    rename_i e;cases e;rename_i m y;cases d:(k==m)with
    |false=>rw[d]at a;cases a
    |true=>
     rw[d]at a;have d:=wj.1 d;subst d;obtain rfl:=C2 j;simp only[dfold,o];exact q l k _ z i a
   case h_3=>cases a
 unfold OI at c;split at c
 case h_2=>simp at c
 rename_i k x r;split at c
 case h_2=>simp at c
 rename_i z a;simp only[AW]at c;obtain⟨rfl,rfl⟩:=c;simp only[Bi]at b;obtain⟨u,l,rfl,j,i⟩:=b;obtain rfl:=C2 j;exact zg hr (v':=.int k z) (by simp only[GK,key r l k x z i a,BG])<|Dw _ _
theorem OK.new(hr:SR B h0 F ρ st.nx st.ob h){o:Obj}{x:O}{n:Nat}(d:o.frozen=false)(c:aT F (B0 ρ st.nx<|some (h.nx,n)) (st.nx+1) n o x){v:PV}{v':V}
  (a:PR F (B0 ρ st.nx<|some (h.nx,n)) (st.nx+1) v v'):OK B h0 F ρ st h [] (FI<|some (v',h.push x)) v (st.push o):=by
 refine⟨v',h.push x,F,_,.inl rfl,a,hr.push d c,Le.new _,rfl,rfl,Nat.le_succ _,fun b e=>.inl ?_⟩;rw[H.BV,wc ae]
theorem Li{n:Nat}:PR F (B0 ρ N<|some (h.nx,n)) (N+1) (.ptr N 0) (.ptr h.nx 0):=by
 unfold PR;exact⟨zz _,fun b m a=>by simp[B0]at a;rw[a.1]⟩
theorem Abx{F:Fz}:∀ {s:Sh} {v:V},isZ s v=true->DC F s s.Hv [v]
 | .bool,.bool b,h=>by
  have:b=false:=by simpa [isZ]using h
  subst this;simp[DC,Sh.Hv]
 | .int k,.int a n,h=>by
  unfold isZ at h;rw[zc,w5,w5]at h;obtain⟨rfl,rfl⟩:=h;simp[DC,Sh.Hv]
theorem xK{T:Ce}{t:TypeId}{s:Sh}{n:Nat}(h:Abs T t=some (s,n)):∃i,T.inf t=some i/\n=i.zero.length/\(∀v∈i.zero,isZ s v=true)/\s.sz=1:=by
 unfold Abs at h;split at h
 case h_2=>cases h
 rename_i i e d;split at h
 case h_2=>cases h
 rename_i c b;cases a:(zl 32 (Det.ET i.zero)&&Det.LZ (isZ c) i.zero)with
 |false=>rw[a]at h;cases h
 |true=>
  rw[a]at h;cases h;rw[zc,F4]at a;refine⟨i,d,Da ..,z6.1 a.2,?_⟩;unfold zsh at b;split at b<;>first|(cases b;rfl)|cases b
theorem vP(hr:SR B h0 F ρ st.nx st.ob h){t:TypeId}{v:PV}(c:(SZ t C.T st).To v st'):OK B h0 F ρ st h [] (FI<|Ha C.T h t) v st':=by
 unfold SZ oI at c;split at c
 case h_1=>
  rename_i s n g;simp only[AW]at c;obtain⟨rfl,rfl⟩:=c;obtain⟨i,f,rfl,hall,hs⟩:=xK g;have:Ha C.T h t=some (.ptr h.nx 0,h.push<|.cells i.zero t (0,0)):=by simp[Ha,f,Jn]
  rw[this];refine OK.new hr (o:=.arr false t s<|zn i.zero.length s.Hv) (n:=i.zero.length) rfl ⟨_,_,rfl,⟨by rw[ya,hs,ym],fun j k=>?_⟩,ze _,ya ..⟩ Li;have d:j<i.zero.length:=by simpa using k
  have:=hall i.zero[j]<|List.getElem_mem d;rw[List.getElem_replicate,hs,ym,zw d];exact Abx this
 split at c
 case h_2=>exact wh c (by simp)
 rename_i cs a;rw[Option.bind_eq_some_iff]at a;obtain⟨i,f,a⟩:=a;cases b:LZ V.ok i.zero with
 |false=>rw[b]at a;cases a
 |true=>
 rw[b]at a;cases a;rw[F4]at b;simp only[AW]at c;obtain⟨rfl,rfl⟩:=c;have:Ha C.T h t=some (.ptr h.nx 0,h.push<|.cells i.zero t (0,0)):=by simp[Ha,f,Jn]
 rw[this];cases zR C.T t with
 |true=>exact OK.new hr (o:=.tbox t<|i.zero.map W1) (n:=0) rfl ⟨_,_,rfl,EL _,ze _,fun u e=>z6.1 b u e⟩ Li
 |false=>exact OK.new hr (o:=.box<|i.zero.map W1) (n:=0) rfl ⟨_,_,_,rfl,EL _,ze _,fun u e=>z6.1 b u e⟩ Li
theorem Aed(hr:SR B h0 F ρ st.nx st.ob h){t:TypeId}{p:PV}{x:V}(b:PR F ρ st.nx p x){cs:List PV}(a:pcs st p=some cs)(d:cs.all (Ks st)=true):OK B h0 F ρ st h [] (FI<|some<|bY h t x) (.ptr st.nx 0) (st.push<|.box cs):=
 OK.new hr (o:=.box cs) (n:=0) rfl ⟨_,_,_,rfl,(OX hr b a).mono<|Le.new _,ze _,fun u c=>V.MX<|z6.1 (K2 hr d<|OX hr b a) u c⟩ Li
theorem JC(hr:SR B h0 F ρ st.nx st.ob h){place:Nat->Option (Nat×Nat)}:∀ {l:List (Nat×PV)} {l':List (Nat×V)},PRn F ρ st.nx l l'->∀ {cs:List PV} {xs:List V},Bi F ρ st.nx cs xs->∀ {out:List PV},Si st place cs l=some out->
  ∃j,IX place xs l'=some j/\Bi F ρ st.nx out j:=by
 intro l l' k;induction k with
 |nil=>intro cs xs b out a;cases a;exact⟨xs,rfl,b⟩
 |@cons i p v l l' hp _ m=>
  intro cs xs b out a;unfold Si at a;unfold IX;split at a
  case h_1=>cases a
  rename_i off size f;split at a
  case h_2=>cases a
  rename_i vs e;cases c:(zf (Det.ET vs) size&&zl (Nat.add off size) (Det.ET cs))with
  |false=>rw[c]at a;cases a
  |true=>
   rw[c]at a;have g:=OX hr hp e;rw[Da,Da,g.len,b.len]at c;have d:(zf v.cells.length size&&zl (off+size) xs.length)=true:=c;rw[f];simp only[d,we];have:=g.CJ off b;rw[JQ v.cells]at this;exact m this a
theorem yH(hr:SR B h0 F ρ st.nx st.ob h){t:TypeId}{l:List (Nat×PV)}{l':List (Nat×V)}(k:PRn F ρ st.nx l l'){v:PV}(g:(ov st<|Xk C.T st t l).To v st'):OK B h0 F ρ st h [] (BG h<|KT C.T t l') v st':=by
 simp only[LB]at g;obtain⟨a,rfl⟩:=g;unfold Xk at a;split at a
 case h_3=>cases a
 case h_1=>
  rename_i i fs d c;split at a
  case h_2=>cases a
  rename_i pl b;rw[zm]at a;obtain⟨out,f,rfl⟩:=a;obtain⟨ys,g1,g2⟩:=JC hr k (EL i.zero) f;exact zg hr (v':=.agg ys) (by simp only[KT,d,c,b,g1,zq,BG]) (by unfold PR;exact⟨_,rfl,g2⟩)
 case h_2=>
  rename_i i o e d c;split at a
  case h_2=>cases a
  rename_i j m;rw[zm]at a;obtain⟨out,f,rfl⟩:=a;obtain⟨ys,g1,g2⟩:=JC hr k (EL i.zero) f;exact zg hr (v':=.agg ys) (by simp only[KT,d,c,m,g1,zq,BG]) (by unfold PR;exact⟨_,rfl,g2⟩)
theorem K9(z:List V):∀n,Bi F ρ N (KQ (z.map W1) n)<|(zn n z).flatten
 |0=>by simp[KQ]
 |n+1=>by
  simp only[KQ,zx,yn];exact(EL z).append<|K9 z n
theorem H5(z:List V):∀n,Fy z (n*z.length)=(zn n z).flatten:=by
 intro n;apply yo;intro i;unfold Fy;by_cases c:z.length=0
 ·have:z=[]:=zo.1 c;subst this;have:(zn n ([]:List V)).flatten=[]:=by induction n with|zero=>rfl|succ n d=>simp[zx]
  rw[this];simp
 ·have e:0<z.length:=Nat.pos_of_ne_zero c;induction n generalizing i with
  |zero=>simp
  |succ n d=>
   rw[zx,yn];by_cases a:i<z.length
   ·rw[yc a,yp,yj<|by rw[zt];omega];simp only[zq,Nat.mod_eq_of_lt a];simp[List.getD_eq_getElem?_getD,a]
   ·rw[yb ae, <-d (i-z.length)];rw[yp,yp];by_cases b:i<(n+1)*z.length
    ·rw[yj b,yj<|by rw[zt]at b;omega];simp only[zq];rw[Nat.mod_eq_sub_mod ae]
    ·rw[List.getElem?_eq_none (by simp;omega),List.getElem?_eq_none<|by simp;rw[zt]at b;omega]
theorem Py{sz n:Nat}{o:Nat}(c:o=0\/o=sz):PR F (B0 ρ N<|some (h.nx,n)) (N+1) (.sl N sz 0 n none) (.sl h.nx 0 n n o):=by
 unfold PR;refine⟨zz _,fun b m a=>.inl ?_⟩;simp[B0]at a;obtain⟨rfl,rfl⟩:=a;exact⟨ze _,by show 0+n<=n;omega,o,c,by rw[zu];rfl⟩
theorem Nq{place:Nat->Option (Nat×Nat)}:∀ {l:List (Nat×V)} {xs a:List V},IX place xs l=some a->a.length=xs.length
 |[],xs,a,h=>by cases h;rfl
 |(i,v)::l,xs,a,h=>by
  unfold IX at h;split at h
  ·cases h
  ·rename_i off size _;cases b:(zf v.cells.length size&&zl (off+size) xs.length)with
   |false=>rw[b]at h;cases h
   |true=>
    rw[b]at h;rw[Nq h,GX]
end
section
variable {B:Nat}{h0:H0}{F:Fz}{ρ:Ey}{N:Nat}{C:Ctx}{st st':AM}{fr:Fr}{h h':H}
theorem Ez.nil{s:Sh}:Ez F s [] []:=⟨by simp,fun i a=>by simp at a⟩
theorem Ez.cons{s:Sh}{x:s.T}{l:List s.T}{a b:List V}(c:DC F s x a)(d:Ez F s l b):Ez F s (x::l) (a++b):=by
 refine⟨by rw[List.length_append,c.len,d.1,List.length_cons,zt];omega,fun i f=>?_⟩;cases i with
 |zero=>
  simp only[zu,yg,yu];rw[<-c.len,List.take_left];exact c
 |succ i=>
  have e:(a++b).drop ((i+1)*s.sz)=b.drop (i*s.sz):=by
   rw[zt,yy,GA, <-c.len,List.drop_left]
  rw[e];exact d.2 i (by simpa using f)
theorem Ez.iZ{s:Sh}{x:s.T}{l:List s.T}{cs:List V}(h:Ez F s (x::l) cs):∃a b,cs=a++b/\DC F s x a/\Ez F s l b:=by
 have h0:=h.2 0 (by simp);simp only[zu,yg,yu]at h0;refine⟨cs.take s.sz,cs.drop s.sz,(List.take_append_drop _ _).symm,h0,?_,fun i c=>?_⟩
 ·rw[List.length_drop,h.1,List.length_cons,zt];omega
 ·have:=h.2 (i+1) (by simpa using c);rw[<-GA,yy, <-zt];exact this
theorem Ez.append{s:Sh}:∀ {l m:List s.T} {a b:List V},Ez F s l a->Ez F s m b->Ez F s (l++m) (a++b)
 |[],m,a,b,h,h'=>by
  have:a=[]:=zo.1 (by rw[h.1];simp);subst this;simpa using h'
 |x::l,m,a,b,h,h'=>by
  obtain⟨c,d,rfl,f,e⟩:=h.iZ;rw[List.append_assoc,List.cons_append];exact Ez.cons f<|e.append h'
theorem Ez.replicate{s:Sh}{z:s.T}{c:List V}(a:DC F s z c):∀n,Ez F s (zn n z)<|(zn n c).flatten
 |0=>Ez.nil
 |n+1=>by
  rw[zx,zx,yn];exact Ez.cons a<|Ez.replicate a n
theorem Ez.S0{s:Sh}:∀ {l:List s.T} {a:List V},Ez F s l a->a.all V.one=true
 |[],a,h=>by
  have:a=[]:=zo.1 (by rw[h.1];simp);subst this;rfl
 |x::l,a,h=>by
  obtain⟨c,d,rfl,e,b⟩:=h.iZ;rw[List.all_append,b.S0,Bool.and_true];exact z6.2 e.S0
theorem Ez.part{s:Sh}{l:List s.T}{cs:List V}(h:Ez F s l cs){off len:Nat}(f:off+len<=l.length):Ez F s ((l.drop off).take len) ((cs.drop<|off*s.sz).take<|len*s.sz):=by
 have b:(off+len)*s.sz<=l.length*s.sz:=zh _ f;rw[zp]at b;have g:=h.1;refine⟨by simp;rw[ye ae,ye ae],fun i d=>?_⟩;have a:i<len:=by simp at d;omega
 have c:(i+1)*s.sz<=len*s.sz:=zh _ a;rw[zt]at c;rw[List.getElem_take,List.getElem_drop];have:=h.2 (off+i) ae;have e:(((cs.drop<|off*s.sz).take<|len*s.sz).drop<|i*s.sz).take s.sz=(cs.drop<|(off+i)*s.sz).take s.sz:=by
  rw[List.drop_take,List.take_take,List.drop_drop,zp,ye ae]
 rw[e];exact this
theorem AbG(hr:SR B h0 F ρ st.nx st.ob h){t:TypeId}{p q:PV}{x y:V}(I:PR F ρ st.nx p x)(w:PR F ρ st.nx q y){v:PV}(a:(qA C.T t p q st).To v st'):OK B h0 F ρ st h [] (FI<|P8 C.T h t x y) v st':=by
 unfold qA at a;split at a
 case h_2=>simp at a
 rename_i e k l E c L;obtain rfl:=C2 I;obtain rfl:=C2 w;split at a
 case h_2=>simp at a
 rename_i i s M P;cases d:(zr 0 i.zero.length&&zf i.zero.length i.size&&zf i.size s.sz)with
 |false=>rw[d]at a;simp at a
 |true=>
  rw[d]at a;simp only[zc]at d;obtain⟨⟨O,j⟩,u⟩:=d;simp only[we]at a;split at a
  case h_2=>simp at a
  rename_i z A;simp only[BZ,zc,w5]at a;obtain⟨⟨⟨⟨G,J⟩,m⟩,r⟩,rfl,rfl⟩:=a;have f:l=c:=J;subst f;obtain⟨n,rfl,hn⟩:=D4 G;rw[hn]at m ⊢;have D:=zd j;have R:=zd u;have K:P8 C.T h t (.int k<|zy n) (.int E<|zy n)=some (.sl h.nx 0 n n 0,h.push<|.cells (Fy i.zero<|n*i.size) e (0,0)):=by
   have a1:zl n n=true:=zi<|ze _;have a2:zr n 9223372036854775808=true:=D2 (by have:(zy n:Int)<9223372036854775808:=r;simp at this;omega);have a3:zl (i.bytes*n) 281474976710656=true:=zi m;simp only[P8,L,M,a1,a2,a3,O,j,yq,we,Jn]
  rw[K];have g:=C9 (EL (F:=F) (ρ:=ρ) (N:=st.nx) i.zero) A;have b:Ez F s (zn n z) (Fy i.zero<|n*i.size):=by
   rw[<-D,H5];exact Ez.replicate g n
  exact OK.new hr (o:=.arr false e s<|zn n z) (n:=n) rfl ⟨_,_,rfl,b,ze _,by simp⟩ (Py<|.inl rfl)
theorem Xp(hr:SR B h0 F ρ st.nx st.ob h){s:Sh}{p:PV}{x:V}(f:PR F ρ st.nx p x){c:Bool}{l:List s.T}(d:Ol st s p=some (c,l))(G:c=true):
  QC x=some l.length/\(s.sz=1\/PH x=true)/\∃cs,src h s.sz x l.length=some cs/\Ez F s l cs:=by
 unfold Ol at d;split at d
 case h_1=>
  cases d;simp only[PR]at f;subst f;exact⟨rfl,.inr rfl,[],rfl,Ez.nil⟩
 case h_2=>
  rename_i a l';rw[zm]at d;obtain⟨r,w,q⟩:=d;obtain⟨e,he⟩:=CS w;have v:a=s:=by cases e;rfl
  subst v;have:r=l':=by have:=he;cases this;rfl
  subst this;cases q;simp only[PR,DC]at f;obtain⟨u,I,f⟩:=f;obtain rfl:x=u:=by simpa using I
  rcases f with⟨rfl,rfl|rfl|rfl⟩|⟨b,off,cap,o,E,rfl,O,D,m,Y,L⟩
  ·exact⟨rfl,.inr rfl,[],rfl,Ez.nil⟩
  ·exact⟨rfl,.inr rfl,[],rfl,Ez.nil⟩
  ·exact⟨rfl,.inr rfl,[],rfl,Ez.nil⟩
  ·obtain⟨te,fz,R⟩:=hr.frz b E D;suffices hD:Ez F a l ((E.drop off).take<|l.length*a.sz)from⟨rfl,.inr rfl,_,rd_some R m hD.ok,hD⟩
   refine⟨?_,fun i P=>?_⟩
   ·simp;rw[ye ae]
   ·have J:(i+1)*a.sz<=l.length*a.sz:=zh _ P;rw[zt]at J;have e:(((E.drop off).take<|l.length*a.sz).drop<|i*a.sz).take a.sz=(E.drop<|off+i*a.sz).take a.sz:=by
     rw[List.drop_take,List.take_take,List.drop_drop,ye ae]
    rw[e];exact L i P
 case h_3=>
  rename_i id sz off len cap;split at d
  case h_2=>cases d
  rename_i Z te a l' W;cases g:zf sz a.sz with
  |false=>rw[g]at d;cases d
  |true=>
   rw[g]at d;have g:=zd g;simp only[we,zm]at d;obtain⟨r,w,q⟩:=d;obtain⟨e,he⟩:=CS w;have v:a=s:=by cases e;rfl
   subst v;have:r=l':=by have:=he;cases this;rfl
   subst this;cases q;simp only[w5]at G;obtain⟨b,n,y,O,D,⟨cs,fz,rfl,m,L,Y⟩,_⟩:=hr.at W;simp only[PR]at f;have z:((r.drop off).take len).length=len:=by simp;omega
   have k:(off+len)*a.sz<=r.length*a.sz:=zh _ G;rw[zp]at k;rw[z];rcases f.2 b n O with⟨_,_,o,_,rfl⟩|⟨rfl,_,U,rfl|⟨M,rfl,A⟩⟩
   ·refine⟨rfl,.inr rfl,_,rd_some D ?_ ?_,?_⟩
    ·rw[g,m.1];exact k
    ·rw[g];exact(m.part G).ok
    ·rw[g];exact m.part G
   ·refine⟨rfl,.inr rfl,[],rfl,?_⟩;simpa using Ez.nil
   ·refine⟨rfl,.inr rfl,_,rd_some D ?_ ?_,?_⟩
    ·rw[g]at A;rw[m.1];simp at k ⊢;omega
    ·simp
    ·simp;exact Ez.nil
 case h_5=>cases d
 case h_4=>
  rename_i t;rw[zm]at d;obtain⟨r,w,q⟩:=d;obtain⟨e,he⟩:=CS w;have v:s=.int .u8:=by cases e;rfl
  subst v;have:r=List.map (fun b:UInt8=>(b.toNat:Int)) t:=by have:=he;cases this;rfl
  subst this;cases q;obtain rfl:=FL f;refine⟨by simp[QC],.inl rfl,_,rfl,?_⟩;rw[yw,List.take_length];refine⟨by simp[Sh.sz],fun j hj=>?_⟩;have K:j<t.length:=by simpa using hj
  have S:((t.map fun b=>y7 .u8 (b.toNat:Int)).drop<|j*1).take 1=[y7 .u8 ((t[j]).toNat:Int)]:=by
   rw[ym,zw<|by simpa using K];simp
  show DC _ (.int .u8) _<|((t.map fun b=>y7 .u8 (b.toNat:Int)).drop<|j*1).take 1;rw[S];simp[DC]
theorem cV(hr:SR B h0 F ρ st.nx st.ob h){s:Sh}{p:PV}{x:V}(b:PR F ρ st.nx p x){c:Bool}{l:List s.T}(d:P1 st s p=some (c,l))(a:c=true):
  QC x=some l.length/\(s.sz=1\/PH x=true)/\∃cs,src h s.sz x l.length=some cs/\Ez F s l cs:=Xp hr b.lz d a
theorem SR.congr(hr:SR B h0 F ρ N st.ob h)(a:∀c,h'.get c=h.get c)(f:h'.nx=h.nx):SR B h0 F ρ N st.ob h':=
 ⟨fun id o p=>by obtain⟨b,n,x,e,g,q⟩:=hr.obj id o p;exact⟨b,n,x,e,(a b).trans g,q⟩,hr.inj,fun b cs d=>by obtain⟨t,fz,e⟩:=hr.frz b cs d;exact⟨t,fz,(a b).trans e⟩,hr.own,hr.dead,
  fun b d j=>(a b).trans<|hr.old b d j,fun b o d=>by rw[f];exact hr.lt b o<|(a b).symm.trans d,by rw[f];exact hr.le,hr.fo,hr.gl,fun c l=>by obtain⟨i,k,m⟩:=hr.pn c l;exact⟨(a c).trans i,k,m⟩⟩
theorem SR.hZ{ob:Ob}(hr:SR B h0 F ρ N ob h){o:Obj}{x:O}{b n:Nat}(E:h.get b=some x)(g:∀id o m,AR ob id=some o->ρ id≠some (b,m))(J:F b=none)(L:h0.bE B b)(M:b∉h0.pin)(U:o.frozen=false)
  (I:aT F (B0 ρ N<|some (b,n)) (N+1) n o x):SR B h0 F (B0 ρ N<|some (b,n)) (N+1) ((N,o)::ob) h:=by
 have K:Le F ρ N F (B0 ρ N<|some (b,n)) (N+1):=Le.new _;have f:∀j,AR ((N,o)::ob) j=if j=N then some o else AR ob j:=by
  intro j;simp only[AR,Bw];by_cases e:N=j
  ·subst e;simp
  ·rw[wc<|fun h=>e h.symm];simp[e]
 refine⟨fun j oj a=>?_,fun i j oi oj c m A z a t p=>?_,hr.frz,fun id c m l=>?_,fun j a=>?_,hr.old,hr.lt,hr.le,hr.fo,hr.gl,fun c w=>?_⟩
 ·rw[f]at a;by_cases e:j=N
  ·subst e;simp only[wk,zj]at a;subst a;exact⟨b,n,x,by simp[B0],E,I,fun _=>J,fun e=>by rw[U]at e;cases e⟩
  ·rw[wc e]at a;obtain⟨c,m,y,t,p,Z,R⟩:=hr.obj j oj a;exact⟨c,m,y,by simp[B0,e,t],p,Z.mono K,R⟩
 ·rw[f]at z a;have key:∀k ok m,(if k=N then some o else AR ob k)=some ok->B0 ρ N (some (b,n)) k=some (c,m)->(k=N/\c=b)\/(k≠N/\AR ob k=some ok/\ρ k=some (c,m)/\c≠b):=by
   intro k ok m r d;by_cases e:k=N
   ·subst e;simp[B0]at d;exact .inl ⟨rfl,d.1.symm⟩
   ·rw[wc e]at r;simp only[B0,e,vg]at d;exact .inr ⟨e,r,d,fun D=>g k ok m r<|D▸d⟩
  rcases key i oi m z t with⟨u,q⟩|⟨u,q,Y,T⟩<;>rcases key j oj A a p with⟨v,s⟩|⟨v,s,W,S⟩
  ·rw[u,v]
  ·exact wh q S
  ·exact wh s T
  ·exact hr.inj i j oi oj c m A q s Y W
 ·unfold B0 at l;split at l
  ·rename_i e;cases l;subst e;exact⟨zz _,L⟩
  ·have:=hr.own id c m l;exact⟨by omega,this.2⟩
 ·rw[f]at a;by_cases e:j=N
  ·rw[wd e]at a;cases a
  ·rw[wc e]at a;simp[B0,e,hr.dead j a]
 ·obtain⟨P,G,V⟩:=hr.pn c w;refine⟨P,G,fun id m e=>?_⟩;unfold B0 at e;split at e
  ·cases e;exact M w
  ·exact V id m e
theorem O2{off:Nat}{cs:List V}(h:off<=cs.length):CJ off [] cs=cs:=by
 apply yo;intro j;rw[Ht<|by simpa using h];rw[wc<|by simp]
theorem Wg{off:Nat}{vs cs:List V}(h:off+vs.length<=cs.length):CJ off vs cs=cs.take off++(vs++cs.drop (off+vs.length)):=by
 apply yo;intro j;rw[Ht h];by_cases c:j<off
 ·rw[wc ae,yc (by simp;omega),List.getElem?_take_of_lt c]
 ·rw[yb<|by simp;omega];have a:(cs.take off).length=off:=by simp;omega
  rw[a];by_cases b:j<off+vs.length
  ·rw[wd ⟨by omega,b⟩,yc ae]
  ·rw[wc ae,yb ae,List.getElem?_drop];congr 1;omega
theorem Ez.lQ{s:Sh}{l new:List s.T}{cs e:List V}{a:Nat}(h:Ez F s l cs)(i:Ez F s new e)(j:a+new.length<=l.length):
  Ez F s (l.take a++(new++l.drop (a+new.length))) (CJ (a*s.sz) e cs):=by
 have d:=h.1;have c:=i.1;have b:(a+new.length)*s.sz<=l.length*s.sz:=zh _ j;rw[Wg<|by rw[c, <-zp,d];exact b];have g:=h.part (off:=0) (len:=a) ae;have f:=h.part (off:=a+new.length) (len:=l.length-(a+new.length)) ae;rw[zu,yg,yg]at g;rw[yv (by simp),yv<|by rw[List.length_drop,d, <-Nat.sub_mul];exact ze _]at f;rw[c, <-zp];exact g.append<|i.append f
def F7:List PV->List Nat
 | .sl id _ _ _ _::_=>[id]
 |_=>[]
theorem dF{s f:Sh}{x:f.T}{c:Bool}{l:List s.T}(d:P1 st s (.dat f x)=some (c,l)):c=true:=by
 unfold P1 at d;cases f with
 |list a=>
  have d:(D6 (.list a) (.list s) x).map (fun r=>(true,r))=some (c,l):=d;rw[zm]at d;obtain⟨r,_,e⟩:=d;cases e;rfl
 |nlist a=>
  have d:(D6 (.list a) (.list s) x).map (fun r=>(true,r))=some (c,l):=d;rw[zm]at d;obtain⟨r,_,e⟩:=d;cases e;rfl
 |str=>
  have d:(D6 (.list<|.int .u8) (.list s)<|List.map (fun b:UInt8=>(b.toNat:Int)) x).map (fun r=>(true,r))=some (c,l):=d;rw[zm]at d;obtain⟨r,_,e⟩:=d;cases e;rfl
 |_=>cases d
theorem fM(hr:SR B h0 F ρ st.nx st.ob h){ts:Array TypeId}{ps:List PV}{xs:List V}(S:Bi F ρ st.nx ps xs){v:PV}(d:(Tw C.T ts ps st).To v st'):OK B h0 F ρ st h (F7 ps) (FI<|GS C.T h ts xs) v st':=by
 unfold Tw at d;split at d
 case h_2=>simp at d
 rename_i t tx p q hts htx;simp only[Bi]at S;obtain⟨x,_,rfl,S,y,_,rfl,hy,rfl⟩:=S;split at d
 case h_2=>simp at d
 rename_i e ex hu hux;have hss:TS ex=true:=by
  cases hq:TS ex with
  |true=>rfl
  |false=>rw[hq]at d;simp at d
 rw[hss]at d;simp only[we]at d;split at d
 case h_2=>simp at d
 rename_i i s hi hs;cases hc:(zr 0 i.bytes&&zr 0 i.size&&zf i.zero.length i.size&&zf i.size s.sz)with
 |false=>rw[hc]at d;simp at d
 |true=>
  rw[hc]at d;simp only[zc]at hc;obtain⟨⟨⟨c1,c2⟩,c3⟩,c4⟩:=hc;have e4:=zd c4;simp only[we]at d;split at d
  case h_2=>simp at d
  rename_i c new hel;have head:c=true->∃cs,src h i.size y new.length=some cs/\Ez F s new cs/\GS C.T h ts [x,y]=(match x with
      | .nils=>bif zf new.length 0 then some (.nils,h)
       else bif zl ((3*new.length+2000)*i.bytes) 562949953421312 then some (.sl h.nx 0 new.length new.length i.size,Jn h e cs)else none
      | .es0=>bif zf new.length 0 then some (.es0,h)
       else bif zl ((3*new.length+2000)*i.bytes) 562949953421312 then some (.sl h.nx 0 new.length new.length i.size,Jn h e cs)else none
      | .esl=>bif zf new.length 0 then some (.esl,h)else none
      | .sl b off len cap o=>
       bif zl (len+new.length) cap then(wr h b (off+len*i.size) cs).map fun h'=>(.sl b off (len+new.length) cap o,h')
       else bif zl ((3*(len+new.length)+2000)*i.bytes) 562949953421312 then
        match src h i.size x len with
        |some old=>
         bif zf o 0 then some (.sl h.nx 0 (len+new.length) (len+new.length) i.size,Jn h e<|old++cs)
         else
          match h.get b with
          |some (.cells _ te fz)=>
           bif zf off 0&&zf o i.size&&zf te e&&zl fz.2 fz.1&&cs.all V.one then some (.sl h.nx 0 (len+new.length) (len+new.length) i.size,(h.kill b).push<|.cells (old++cs) e (0,0))
           else none
          |_=>none
        |none=>none
       else none
      |_=>none):=by
   intro hc;obtain⟨g1,g2,cs,R,g4⟩:=cV hr hy hel hc;rw[<-e4]at R;refine⟨cs,R,g4,?_⟩;have hcond:(zr 0 i.bytes&&zr 0 i.size&&zf i.zero.length i.size&&(zf i.size 1||PH y))=true:=by
    rw[c1,c2,c3];rcases g2 with g2|g2
    ·rw[e4,g2];rfl
    ·rw[g2,yz];rfl
   have hint:isInt ex=false:=by cases ex<;>first|rfl|cases hss
   simp only[GS,hts,htx,hu,hux,g1,hi,hint,hcond,we,R];cases x<;>rfl
  split at d
  case h_3=>simp at d
  case h_1=>
   simp only[PR]at S;subst S;have U:c=true->0<new.length->(3*new.length+2000)*i.bytes<=jY->OK B h0 F ρ st h (F7 [PV.nil,q]) (FI<|GS C.T h ts [.nils,y]) (.sl st.nx s.sz 0 new.length none) (st.push<|.arr false e s new):=by
    intro D Y P;obtain⟨cs,g1,g2,R⟩:=head D;have b1:zf new.length 0=false:=by rw[Bw];simp;intro e;rw[e]at Y;simp at Y
    have b2:zl ((3*new.length+2000)*i.bytes) 562949953421312=true:=zi P;rw[R];simp only[b1,b2,wg,we];exact OK.new hr (o:=.arr false e s new) (n:=new.length) rfl ⟨_,_,rfl,g2,ze _,rfl⟩ (Py<|.inr e4)
   have same:c=true->new.length=0->OK B h0 F ρ st h (F7 [PV.nil,q]) (FI<|GS C.T h ts [.nils,y]) .nil st:=by
    intro D Y;obtain⟨cs,g1,g2,R⟩:=head D;have b1:zf new.length 0=true:=by rw[Y];rfl
    rw[R];simp only[b1,we];exact⟨.nils,h,F,ρ,.inl rfl,by simp[PR],hr,yf,rfl,rfl,ze _,fun _ _=>.inl rfl⟩
   split at d
   case h_1=>
    simp only[AW]at d;obtain⟨rfl,rfl⟩:=d;simp only[P1,Ol,lz,zj,z8]at hel;obtain⟨rfl,rfl⟩:=hel;exact same rfl rfl
   case h_2=>
    have hc':c=true:=by
     exact dF hel
    by_cases hn:0<new.length
    ·rw[w4 hn]at d;cases d with
     |tt d=>
      simp only[BZ,zc,w5]at d;obtain⟨⟨D,P⟩,rfl,rfl⟩:=d;exact U D hn P
    ·rw[w8 hn]at d;cases d with
     |ff d=>
      simp only[AW]at d;obtain⟨rfl,rfl⟩:=d;exact same hc' ae
   case h_3=>
    by_cases hn:0<new.length
    ·rw[w4 hn]at d;cases d with
     |tt d=>
      simp only[BZ,zc,w5]at d;obtain⟨⟨D,P⟩,rfl,rfl⟩:=d;exact U D hn P
    ·rw[w8 hn]at d;cases d with
     |ff d=>
      simp only[BZ]at d;obtain⟨D,rfl,rfl⟩:=d;exact same D ae
   case h_4=>
    simp only[BZ,zc,w5]at d;obtain⟨⟨⟨D,Y⟩,P⟩,rfl,rfl⟩:=d;exact U D Y P
  case h_2=>
   rename_i id sz off len cap;split at d
   case h_2=>simp at d
   rename_i e' f l ho;split at d
   case h_2=>simp at d
   rename_i l' hl';obtain⟨ecast,hcast⟩:=CS hl';have es:f=s:=by cases ecast;rfl
   subst es;have:l'=l:=by have:=hcast;cases this;rfl
   subst this;cases W:(zf e e'&&zf sz f.sz)with
   |false=>rw[W]at d;simp at d
   |true=>
    rw[W]at d;simp only[zc]at W;have ee:=zd W.1;have esz:=zd W.2;subst ee;subst esz;simp only[we]at d;split at d
    case h_2=>
     rename_i k;simp only[BZ,zc,w5]at d;obtain⟨⟨⟨D,Y⟩,P⟩,rfl,rfl⟩:=d;obtain⟨cs,g1,g2,R⟩:=head D;obtain⟨b,n,z,h1,h2,⟨bs,fz,rfl,h3,h4,h5⟩,h6,_⟩:=hr.at ho;simp only[PR]at S;rw[R];have M:cs.all V.one=true:=g2.S0;have hcl:cs.length=new.length*f.sz:=g2.1;have E:=h3.1;have hle:(off+len+new.length)*f.sz<=l'.length*f.sz:=zh _ ae;have hexp:(off+len+new.length)*f.sz=off*f.sz+len*f.sz+new.length*f.sz:=by rw[zp,zp]
     have hsp:=Ez.lQ h3 g2 (a:=off+len) ae;have I:(l'.take (off+len)++(new++l'.drop (off+len+new.length))).length=l'.length:=by simp;omega
     rcases S.2 b n h1 with⟨_,g6,o,g5,rfl⟩|⟨e0,ek,g6,g7⟩
     ·simp only[yh]at g6;have hw:wr h b (off*f.sz+len*i.size) cs=some (h.put b<|.cells (CJ ((off+len)*f.sz) cs bs) e fz):=by
       rw[NK h2 (by rw[e4,hcl,E];omega) h4 M,e4, <-zp]
      have b1:zl (len+new.length) k=true:=zi Y;refine⟨.sl b (off*f.sz) (len+new.length) k o,h.put b<|.cells (CJ ((off+len)*f.sz) cs bs) e fz,F,ρ,.inl ?_,?_,hr.set ho h1 h2 rfl rfl (o':=.arr false e f _) ⟨_,fz,rfl,hsp,h4,I.trans h5⟩,yf,rfl,rfl,ze _,fun c _=>?_⟩
      ·simp only[yh,b1,we,hw,zq,FI]
      ·simp only[PR];refine⟨S.1,fun b' n' L=>.inl ?_⟩;rw[h1]at L;cases L;exact⟨by simpa using Y,by simpa using g6,o,g5,rfl⟩
      ·rw[H.Bt];by_cases e:c=b
       ·exact .inr ⟨id,by simp[F7],n,e▸h1⟩
       ·rw[wc e];exact .inl rfl
     ·cases ek;subst e0;have hn0:new.length=0:=ae
      have G:new=[]:=zo.1 hn0;subst G;have hcs:cs=[]:=zo.1 (by rw[hcl];simp);subst hcs;have hlp:CJ ((off+0)*f.sz) [] bs=bs:=O2 (by rw[E];have:=zh f.sz (show off+0<=l'.length by omega);exact this);have A:∀c,(h.put b<|.cells (CJ ((off+0)*f.sz) [] bs) e fz).get c=h.get c:=by
       intro c;rw[hlp,H.Bt];by_cases e:c=b
       ·rw[wd e,e,h2]
       ·rw[wc e]
      have hset:=hr.set ho h1 h2 rfl rfl (o':=.arr false e f _) (x':=.cells (CJ ((off+0)*f.sz) [] bs) e fz) ⟨_,fz,rfl,hsp,h4,I.trans h5⟩;have hset':SR B h0 F ρ st.nx (D3 st.ob id<|.arr false e f<|l'.take (off+0)++([]++l'.drop (off+0+0))) h:=
       SR.congr (st:=⟨st.n,st.fr,D3 st.ob id _,st.nx⟩) hset (fun c=>(A c).symm) rfl
      have hpr:∀w,(w=.esl\/∃r,w=.sl b r 0 0 0/\r<=off*f.sz)->PR F ρ st.nx (.sl id f.sz off (Nat.add 0 0)<|some 0) w:=by
       intro w hw;simp only[PR];refine⟨S.1,fun b' n' L=>.inr ?_⟩;rw[h1]at L;cases L;exact⟨by simp,by simp,g6,hw⟩
      rcases g7 with rfl|⟨r,rfl,hoff'⟩
      ·exact⟨.esl,h,F,ρ,.inl rfl,hpr _<|.inl rfl,hset',yf,rfl,rfl,ze _,fun _ _=>.inl rfl⟩
      ·have hob:r<=bs.length:=by
        have h7:off*f.sz<=l'.length*f.sz:=zh _ ae;omega
       have hw:wr h b (r+0*i.size) []=some (h.put b<|.cells (CJ (r+0*i.size) [] bs) e fz):=NK h2 (by simpa using hob) h4 rfl;have O:∀c,(h.put b<|.cells (CJ (r+0*i.size) [] bs) e fz).get c=h.get c:=by
        intro c;rw[O2 (by simpa using hob),H.Bt];by_cases e:c=b
        ·rw[wd e,e,h2]
        ·rw[wc e]
       refine⟨.sl b r 0 0 0,h.put b<|.cells (CJ (r+0*i.size) [] bs) e fz,F,ρ,.inl ?_,hpr _<|.inr ⟨r,rfl,hoff'⟩,SR.congr (st:=⟨st.n,st.fr,D3 st.ob id _,st.nx⟩) hset' O rfl,yf,rfl,rfl,ze _,fun c _=>.inl<|O c⟩;simp only[yd,Nat.add_zero,show zl 0 0=true from rfl,we,hw,zq,FI]
    simp only[BZ,zc,w5]at d;obtain⟨⟨⟨⟨D,Y⟩,P⟩,k4⟩,rfl,rfl⟩:=d;subst Y;obtain⟨cs,g1,g2,R⟩:=head D;obtain⟨b,n,z,h1,h2,⟨bs,fz,rfl,h3,h4,h5⟩,h6,_⟩:=hr.at ho;have hFb:=h6 rfl;simp only[PR]at S;have hB:=(hr.own id b n h1).2;have hPb:b∉h0.pin:=fun hp=>(hr.pn b hp).2.2 id n h1
    have hidN:=(hr.own id b n h1).1;obtain⟨_,_,o,g5,rfl⟩:len<=len/\0+len<=n/\∃o,(o=0\/o=f.sz)/\x=.sl b (0*f.sz) len len o:=by
     rcases S.2 b n h1 with g|⟨_,e,_⟩
     ·exact g
     ·cases e
    have E:bs.length=len*i.size:=by rw[h3.1,P,e4]
    have Z:∀j oj m,AR (GJ st.ob id) j=some oj->B0 ρ id none j≠some (b,m):=by
     intro j oj m hj hjr;rw[Et]at hj;split at hj
     ·cases hj
     ·rename_i hne;simp only[B0,hne,vg]at hjr;exact hne<|hr.inj j id oj _ b m n hj ho hjr h1
    have K:=hr.del id;have hle1:Le F ρ st.nx F (B0 ρ id none) st.nx:=Le.Om id;have hnew:Ez F f (l'++new) (bs++cs):=h3.append g2;have I:(l'++new).length=len+new.length:=by rw[List.length_append, <-P]
    have M:cs.all V.one=true:=g2.S0;rw[R];simp only;by_cases hn:new.length=0
    ·
     have G:new=[]:=zo.1 hn;have hcs:cs=[]:=zo.1 (by rw[g2.1,hn,zu]);subst hcs;have b1:zl (len+new.length) len=true:=zi ae;have hw:wr h b (0*f.sz+len*i.size) []=some (h.put b<|.cells (CJ (0*f.sz+len*i.size) [] bs) e fz):=NK h2 (by rw[E];simp) h4 rfl;have A:∀c,(h.put b<|.cells (CJ (0*f.sz+len*i.size) [] bs) e fz).get c=h.get c:=by
      intro c;rw[O2 (by rw[E];simp),H.Bt];by_cases e:c=b
      ·rw[wd e,e,h2]
      ·rw[wc e]
     refine⟨.sl b (0*f.sz) (len+new.length) len o,h.put b<|.cells (CJ (0*f.sz+len*i.size) [] bs) e fz,F,B0 (B0 ρ id none) st.nx<|some (b,n),.inl ?_,?_,?_,hle1.trans<|Le.new _,rfl,rfl,ze _,fun c _=>.inl<|A c⟩
     ·simp only[b1,we,hw,zq,FI]
     ·unfold PR;refine⟨zz _,fun b' n' hb=>.inl ?_⟩;simp[B0]at hb;obtain⟨rfl,rfl⟩:=hb;refine⟨ze _,?_,o,g5,?_⟩
      ·show 0+(len+new.length)<=n;omega
      ·show V.sl b (0*f.sz) (len+new.length) len o=.sl b (0*f.sz) (len+new.length) (len+new.length) o;rw[hn];rfl
     ·refine SR.hZ (ob:=GJ st.ob id) ?_ (x:=.cells bs e fz) ((A b).trans h2) Z hFb hB hPb rfl ⟨bs,fz,rfl,?_,h4,?_⟩
      ·exact SR.congr (st:=⟨st.n,st.fr,GJ st.ob id,st.nx⟩) K A rfl
      ·rw[G,List.append_nil];exact h3
      ·rw[G,List.append_nil];exact h5
    ·
     have b1:zl (len+new.length) len=false:=by
      cases hb:zl (len+new.length) len with
      |false=>rfl
      |true=>have:=Nat.le_of_ble_eq_true hb;omega
     have b2:zl ((3*(len+new.length)+2000)*i.bytes) 562949953421312=true:=zi k4;have hsrc:src h i.size (.sl b (0*f.sz) len len o) len=some bs:=by
      show rd h b (0*f.sz) (len*i.size)=_;rw[rd_some h2 (by rw[E,zu];omega)<|fun u hu=>h3.ok u<|List.mem_of_mem_drop<|List.mem_of_mem_take hu];rw[zu,yg, <-E,List.take_length]
     simp only[b1,b2,wg,we,hsrc];have fin:∀ {J:H},SR B h0 F (B0 ρ id none) st.nx (GJ st.ob id) J->J.nx=h.nx->(∀c,c≠b->J.get c=h.get c)->
       OK B h0 F ρ st h [id] (FI<|some (.sl h.nx 0 (len+new.length) (len+new.length) i.size,J.push<|.cells (bs++cs) e (0,0))) (.sl st.nx f.sz 0 (Nat.add len new.length) none) ((st.QW id).push<|.arr false e f<|l'++new):=by
      intro J hr1 hnx hg;have hp:=hr1.push (o:=.arr false e f<|l'++new) (x:=.cells (bs++cs) e (0,0)) (n:=len+new.length) rfl ⟨_,_,rfl,hnew,ze _,I⟩;refine⟨_,_,F,_,.inl rfl,?_,hp,hle1.trans<|Le.new _,rfl,rfl,by show h.nx<=J.nx+1;omega,fun c hc=>?_⟩
      ·rw[<-hnx];exact Py<|.inr e4
      ·rw[H.BV,wc ae];by_cases e:c=b
       ·exact .inr ⟨id,zk.2 rfl,n,e▸h1⟩
       ·exact .inl<|hg c e
     rcases g5 with rfl|rfl
     ·simp only[z7,we];exact fin K rfl (fun _ _=>rfl)
     ·have b3:zf f.sz 0=false:=by
       rw[<-e4];cases hb:zf i.size 0 with
       |false=>rfl
       |true=>have:=zd hb;rw[this]at c2;cases c2
      have b4:(zf (0*f.sz) 0&&zf f.sz i.size&&zf e e&&zl fz.2 fz.1&&cs.all V.one)=true:=by
       rw[zu,e4,M,zi h4];simp
      simp only[b3,wg,h2,b4,we];exact fin (K.kill Z hFb hB hPb) rfl (fun c hc=>by rw[H.Cr,wc hc])
theorem FF:∀ {s:Sh} {x:s.T} {v:V},DV F s x v->PR F ρ N (Cp s x) v
 | .pair a b,x,v,h=>by obtain⟨cs,rfl,c⟩:=h.1 rfl;unfold Cp PR;exact⟨cs,rfl,Dh c⟩
 | .unit,x,v,h=>by obtain⟨cs,rfl,c⟩:=h.1 rfl;simp only[DC]at c;subst c;unfold Cp PR;exact⟨[],rfl,by simp⟩
 | .int _,x,v,h=>by have:=h.2 rfl;unfold Cp PR;exact this
 | .bool,x,v,h=>by have:=h.2 rfl;unfold Cp PR;exact this
 | .str,x,v,h=>by have:=h.2 rfl;unfold Cp PR;exact this
 | .list _,x,v,h=>by have:=h.2 rfl;unfold Cp PR;exact this
 | .nlist _,x,v,h=>by have:=h.2 rfl;unfold Cp PR;exact this
 | .fnv,x,v,h=>by
  have:=h.2 rfl;simp only[DC,yi,ve]at this;subst this;unfold Cp;cases (x:Option Fn)<;>simp[PR]
 | .ptr s,x,v,h=>by
  have:=h.2 rfl;simp only[DC]at this;obtain⟨b,o,f,c,d,g,e⟩:=this;unfold Cp PR;exact⟨b,o,f,List.singleton_inj.1 c,d,g,e⟩
theorem qZ{s:Sh}{p:PV}{x:s.T}{v:V}(hp:PR F ρ N p v)(b:asV s p=some x):DV F s x v:=by
 unfold asV at b;cases a:(Ma p==s.Rt)with
 |false=>rw[a]at b;cases b
 |true=>
  rw[a]at b;simp only[we]at b;have a:Ma p=s.Rt:=by simpa using a
  refine⟨fun e=>?_,fun e=>?_⟩
  ·rw[e]at a;cases p<;>simp only[Ma]at a<;>try (cases a;done)
   rename_i l;simp only[PR]at hp;obtain⟨cs,rfl,c⟩:=hp;exact⟨cs,rfl,C9 c b⟩
  ·rw[e]at a;have:p.cells=[p]:=by cases p<;>first|rfl|(simp[Ma]at a)
   rw[this]at b;exact C9 (by simpa using hp) b
theorem hO{T:Ce}{t:TypeId}{s:Sh}(h:vS T t=some s):(∃k,s=.int k/\T.und t=some (.int k))\/(s=.str/\T.und t=some .string)\/(s=.bool/\T.und t=some .bool):=by
 unfold vS at h;split at h
 ·rename_i k a;cases h;exact .inl ⟨k,rfl,a⟩
 ·rename_i a;cases h;exact .inr<|.inl ⟨rfl,a⟩
 ·rename_i a;cases h;exact .inr<|.inr ⟨rfl,a⟩
 ·cases h
theorem WU{T:Ce}{t:TypeId}{s:Sh}(b:vS T t=some s){p:PV}{x:s.T}{v:V}(hp:PR F ρ N p v)(a:wQ s p=some x):DV F s x v:=by
 have:=G2 hp a;rcases hO b with⟨k,rfl,_⟩|⟨rfl,_⟩|⟨rfl,_⟩<;>exact⟨fun e=>(by cases e),fun _=>this⟩
theorem Td{T:Ce}{t:TypeId}{s:Sh}(g:vS T t=some s){x:s.T}{v:V}(e:DV F s x v):∃d,T.und t=some d/\Jb T t d v=true/\(∀es,K4 T t v es=Mk T t v es 0)/\∀y u,DV F s y u->kN T t v u=some (Yj s x y):=by
 rcases hO g with⟨k,rfl,a⟩|⟨rfl,a⟩|⟨rfl,a⟩<;>
 ·have b:=e.2 rfl;simp only[DC,yi,ve]at b;subst b;refine⟨_,a,rfl,fun _=>rfl,fun y u f=>?_⟩;have c:=f.2 rfl;simp only[DC,yi,ve]at c;subst c;simp[kN,a,Yj]
theorem Rf{T:Ce}{t:TypeId}{ks vs:Sh}(I:vS T t=some ks){k:ks.T}{p:V}(y:DV F ks k p):∀ {l:List (ks.T×vs.T)} {es:List (V×V×Nat)},MR F ks vs l es->∀i,∃r,Mk T t p es i=some r/\
  (match r with
   |none=>Ei ks vs k l=none/\SX ks vs k l=l/\∀x f c,DV F vs x f->MR F ks vs (Hu ks vs k x l) (es++[(p,f,c)])
   |some (j,u)=>(∃v,Ei ks vs k l=some v/\DV F vs v u)/\i<=j/\MR F ks vs (SX ks vs k l) (es.eraseIdx<|j-i)/\∀x f,DV F vs x f->MR F ks vs (Hu ks vs k x l) (Yk es (j-i) p f)):=by
 intro l es J;induction J with
 |nil=>intro i;exact⟨none,rfl,rfl,rfl,fun x f c m=>.cons y m .nil⟩
 |@cons a b l O G n es q o E M=>
  intro i;obtain⟨d,_,_,_,z⟩:=Td I y;have z:=z a O q;unfold Mk;rw[z];cases g:Yj ks k a with
  |true=>
   refine⟨some (i,G),rfl,⟨b,by simp[Ei,g],o⟩,ze _,?_,fun x f m=>?_⟩
   ·simp only[yk,List.eraseIdx_cons_zero,SX,g,we];exact E
   ·simp only[yk,Hu,g,we,Yk,List.modify_zero_cons];exact .cons y m E
  |false=>
   obtain⟨r,K,A⟩:=M<|i+1;refine⟨r,K,?_⟩;cases r with
   |none=>
    obtain⟨s,w,D⟩:=A;refine⟨by simp only[Ei,g,wg];exact s,by simp only[SX,g,wg,w],fun x f c m=>?_⟩;simp only[Hu,g,wg,List.cons_append];exact .cons q o<|D x f c m
   |some L=>
    obtain⟨j,u⟩:=L;obtain⟨⟨v,s,w⟩,D,k4,k5⟩:=A;have e:j-i=(j-(i+1))+1:=ae
    refine⟨⟨v,by simp only[Ei,g,wg];exact s,w⟩,by omega,?_,fun x f m=>?_⟩
    ·rw[e];simp only[List.eraseIdx_cons_succ,SX,g,wg];exact .cons q o k4
    ·rw[e];simp only[Hu,g,wg,Yk,List.modify_succ_cons];exact .cons q o<|k5 x f m
theorem tA(hr:SR B h0 F ρ st.nx st.ob h){t:TypeId}{v:PV}(a:(XS C.T t st).To v st'):OK B h0 F ρ st h [] (FI<|IV h none) v st':=by
 unfold XS at a;split at a
 case h_2=>simp at a
 split at a
 case h_2=>simp at a
 rename_i ks vs d e;simp only[AW]at a;obtain⟨rfl,rfl⟩:=a;refine OK.new hr (o:=.map ks vs []) (x:=.map [] 0) (n:=0) rfl ⟨[],0,rfl,.nil⟩ ?_;unfold PR;exact⟨zz _,fun b m c=>by simp[B0]at c;rw[c.1]⟩
theorem eW(hr:SR B h0 F ρ st.nx st.ob h){ks vs:Sh}{m:PV}{l:List (ks.T×vs.T)}{x:V}(c:PR F ρ st.nx m x)(a:mK st ks vs m=some l):∃es,entries h x=some es/\MR F ks vs l es:=by
 unfold mK at a;split at a
 ·cases a;simp only[PR]at c;subst c;exact⟨[],rfl,.nil⟩
 ·rename_i id;split at a
  case h_2=>cases a
  rename_i d g l' i;obtain⟨e,f⟩:=CS a;simp only[Sh.list.injEq,Sh.pair.injEq]at e;obtain⟨rfl,rfl⟩:=e;obtain rfl:l'=l:=f;obtain⟨b,n,o,h1,h2,⟨es,clk,rfl,h4⟩,_⟩:=hr.at i;simp only[PR]at c;obtain rfl:=c.2 b n h1;exact⟨es,by simp[entries,h2],h4⟩
 ·cases a
theorem pQ{ks vs:Sh}{ok:Bool}{z:vs.T}{x:ks.T}:∀ {l:List (ks.T×vs.T)} {v:PV},(plk ks vs ok z x st l).To v st'->st=st'/\((Ei ks vs x l=none/\v=bif ok then .tup [Cp vs z,.bl false]else Cp vs z)\/∃w,Ei ks vs x l=some w/\v=bif ok then .tup [Cp vs w,.bl true]else Cp vs w)
 |[],v,d=>by
  unfold plk at d;simp only[AW]at d;exact⟨d.2,.inl ⟨rfl,d.1.symm⟩⟩
 |(a,b)::l,v,d=>by
  unfold plk at d;generalize f:Yj ks x a=c at d;cases d with
  |tt d=>
   simp only[AW]at d;exact⟨d.2,.inr ⟨b,by simp[Ei,f],d.1.symm⟩⟩
  |ff d=>
   obtain⟨g,i⟩:=pQ d;have e:Ei ks vs x ((a,b)::l)=Ei ks vs x l:=by simp[Ei,f]
   rw[e];exact⟨g,i⟩
theorem oW(hr:SR B h0 F ρ st.nx st.ob h){t:TypeId}{p q:PV}{x y:V}(M:PR F ρ st.nx p x)(S:PR F ρ st.nx q y){ok:Bool}{v:PV}(a:(Uo C.T t p q ok st).To v st'):OK B h0 F ρ st h [] (BG h<|Fb C.T h t x y ok) v st':=by
 unfold Uo at a;split at a
 case h_2=>simp at a
 rename_i kt e Y;split at a
 case h_2=>simp at a
 rename_i ks vs i g L J;split at a
 case h_2=>simp at a
 rename_i k l z P O Z;cases b:(vAg i.zv==vs.Rt)with
 |false=>rw[b]at a;simp at a
 |true=>
  rw[b]at a;simp only[we]at a;have o:=WU g S P;obtain⟨es,K,R⟩:=eW hr M O;obtain⟨kd,g1,g2,g3,_⟩:=Td g o;obtain⟨r,r1,r2⟩:=Rf g o R 0;have d:DV F vs z i.zv:=by
   have s:DC F vs z i.zv.cells:=C9 (EL (F:=F) (ρ:=ρ) (N:=st.nx) i.zero) Z;have b:vAg i.zv=vs.Rt:=by simpa using b
   refine⟨fun e=>?_,fun e=>?_⟩
   ·rw[e]at b;cases c:i.zv<;>rw[c]at b<;>simp only[vAg]at b<;>try (cases b;done)
    rw[c]at s;exact⟨_,rfl,s⟩
   ·rw[e]at b;have:i.zv.cells=[i.zv]:=by cases c:i.zv<;>rw[c]at b<;>first|rfl|(simp[vAg]at b)
    rw[<-this];exact s
  unfold Fb;simp only[Y,g1,K,g2,we,g3,r1];cases I:vs.wX with
  |true=>
   rw[I]at a;simp only[we]at a;have D:=pQ a;obtain⟨W,G⟩:=D;subst W;rcases G with⟨U,c⟩|⟨w,A,c⟩
   ·cases r with
    |none=>
     simp only[J];cases ok with
     |true=>exact zg hr rfl (by rw[c];simp only[we,PR];exact⟨_,rfl,_,_,rfl,FF d,_,_,rfl,by simp[PR],rfl⟩)
     |false=>exact zg hr rfl (by rw[c];exact FF d)
    |some E=>
     obtain⟨⟨v',f,_⟩,_⟩:=r2;rw[U]at f;cases f
   ·cases r with
    |none=>rw[r2.1]at A;cases A
    |some E=>
     obtain⟨⟨v',f,m⟩,_⟩:=r2;rw[A]at f;cases f;cases ok with
     |true=>exact zg hr rfl (by rw[c];simp only[we,PR];exact⟨_,rfl,_,_,rfl,FF m,_,_,rfl,by simp[PR],rfl⟩)
     |false=>exact zg hr rfl (by rw[c];exact FF m)
  |false=>
  rw[I]at a;simp only[wg,AW]at a;obtain⟨rfl,rfl⟩:=a;cases r with
  |none=>
   obtain⟨f,_⟩:=r2;simp only[J,f,Option.getD_none,Option.isSome_none];cases ok with
   |true=>exact zg hr rfl (by simp only[we,PR];exact⟨_,rfl,_,_,rfl,FF d,_,_,rfl,D9 _,rfl⟩)
   |false=>exact zg hr rfl (FF d)
  |some E=>
   obtain⟨j,u⟩:=E;obtain⟨⟨v,f,m⟩,_⟩:=r2;simp only[f,yh,Option.isSome_some];cases ok with
   |true=>exact zg hr rfl (by simp only[we,PR];exact⟨_,rfl,_,_,rfl,FF m,_,_,rfl,D9 _,rfl⟩)
   |false=>exact zg hr rfl (FF m)
theorem jN(hr:SR B h0 F ρ st.nx st.ob h){t:TypeId}{p q r:PV}{x y z:V}(K:PR F ρ st.nx p x)(I:PR F ρ st.nx q y)(J:PR F ρ st.nx r z){v:PV}(g:(Ty C.T t p q r st).To v st'):
  ∃id,p=.mp id/\OK B h0 F ρ st h [id] (gE<|HZ C.T h t x y z) v st':=by
 unfold Ty at g;split at g
 case h_2=>simp at g
 rename_i S e id R;split at g
 case h_2=>simp at g
 rename_i ks d vs l i D;split at g
 case h_2=>simp at g
 rename_i k P w L G O;obtain⟨A,E⟩:=CS G;simp only[Sh.list.injEq,Sh.pair.injEq,ve]at A;subst A;obtain rfl:l=P:=E;simp only[AW]at g;obtain⟨rfl,rfl⟩:=g;have j:=WU i I L;have m:=qZ J O;obtain⟨b,n,o,h1,h2,⟨es,clk,rfl,h4⟩,_⟩:=hr.at D;have s:=K;simp only[PR]at s;obtain rfl:=s.2 b n h1;obtain⟨kd,g1,g2,g3,_⟩:=Td i j;obtain⟨r',r1,r2⟩:=Rf i j h4 0;refine⟨id,rfl,?_⟩;have fin:∀f a,MR F d vs (Hu d vs k w l) f->OK B h0 F ρ st h [id] (gE<|some<|h.put b<|.map f a) (.tup []) (st.setObj id<|.map d vs<|Hu d vs k w l):=by
  intro f a M;refine⟨.tup [],_,F,ρ,.inr ⟨rfl,rfl⟩,by simp[PR],hr.set D h1 h2 rfl rfl ⟨f,a,rfl,M⟩,yf,rfl,rfl,ze _,fun c _=>?_⟩;by_cases u:c=b
  ·exact .inr ⟨id,zk.2 rfl,n,u▸h1⟩
  ·exact .inl (by rw[H.Bt,wc u])
 unfold HZ;simp only[R,g1,h2,g2,we,g3,r1];cases r' with
 |none=>exact fin _ _<|r2.2.2 w z clk m
 |some U=>exact fin _ _<|r2.2.2.2 w z m
theorem iN(hr:SR B h0 F ρ st.nx st.ob h){ts:Array TypeId}{ps:List PV}{xs:List V}(p:Bi F ρ st.nx ps xs){v:PV}(a:(Uc C.T ts ps st).To v st'):
  ∃id D,ps=.mp id::D/\OK B h0 F ρ st h [id] (FI<|LL C.T h ts xs) v st':=by
 unfold Uc at a;split at a
 case h_2=>simp at a
 rename_i t id q j;split at a
 case h_2=>simp at a
 rename_i I e G;split at a
 case h_2=>simp at a
 rename_i ks d vs l g s;split at a
 case h_2=>simp at a
 rename_i k E z w;obtain⟨r,u⟩:=CS w;simp only[Sh.list.injEq,Sh.pair.injEq,ve]at r;subst r;obtain rfl:l=E:=u;simp only[AW]at a;obtain⟨rfl,rfl⟩:=a;simp only[Bi]at p;obtain⟨x,xs',rfl,hx1,y,xs'',rfl,hy,rfl⟩:=p;have i:=WU g hy z;obtain⟨b,n,o,h1,h2,⟨es,clk,rfl,h4⟩,_⟩:=hr.at s;obtain rfl:=hx1.2 b n h1;obtain⟨kd,g1,g2,g3,_⟩:=Td g i;obtain⟨r',r1,r2⟩:=Rf g i h4 0;refine⟨id,_,rfl,?_⟩;have fin:∀f,MR F d vs (SX d vs k l) f->OK B h0 F ρ st h [id] (FI<|some (.tup [],h.put b<|.map f clk)) (.tup []) (st.setObj id<|.map d vs<|SX d vs k l):=by
  intro f A;refine⟨.tup [],_,F,ρ,.inl rfl,by simp[PR],hr.set s h1 h2 rfl rfl ⟨f,clk,rfl,A⟩,yf,rfl,rfl,ze _,fun c _=>?_⟩;by_cases m:c=b
  ·exact .inr ⟨id,zk.2 rfl,n,m▸h1⟩
  ·exact .inl (by rw[H.Bt,wc m])
 unfold LL;simp only[j,G,g1,h2,g2,we,g3,r1];cases r' with
 |none=>exact fin es (by rw[r2.2.1];exact h4)
 |some J=>
  have:=r2.2.2.1;simp only[Nat.sub_zero]at this;exact fin _ this
theorem SR.same(hr:SR B h0 F ρ st.nx st.ob h){id b n:Nat}{o o':Obj}{x:O}(i:st.obj id=some o)(k:ρ id=some (b,n))(f:h.get b=some x)(g:o.frozen=false)(d:o'.frozen=false)
  (j:aT F ρ st.nx n o' x):SR B h0 F ρ st.nx (D3 st.ob id o') h:=by
 have a:∀c,h.get c=(h.put b x).get c:=by
  intro c;rw[H.Bt];by_cases e:c=b
  ·rw[wd e,e,f]
  ·rw[wc e]
 exact SR.congr (st:=⟨st.n,st.fr,D3 st.ob id o',st.nx⟩) (hr.set i k f g d j) a rfl
theorem rA(hr:SR B h0 F ρ st.nx st.ob h){ts:Array TypeId}{ps:List PV}{xs:List V}(j:Bi F ρ st.nx ps xs){v:PV}(d:(W2 C.T ts ps st).To v st'):OK B h0 F ρ st h (F7 ps) (FI<|Gf C.T h ts xs) v st':=by
 unfold W2 at d;split at d
 case h_2=>simp at d
 rename_i t p g;simp only[Bi]at j;obtain⟨x,_,rfl,j,rfl⟩:=j;split at d
 case h_2=>simp at d
 rename_i e q;split at d
 case h_3=>simp at d
 case h_1=>
  simp only[AW]at d;obtain⟨rfl,rfl⟩:=d;simp only[PR]at j;subst j;exact⟨.tup [],h,F,ρ,.inl (by simp[Gf,g,q,FI]),by simp[PR],hr,yf,rfl,rfl,ze _,fun _ _=>.inl rfl⟩
 rename_i id sz off len cap;split at d
 case h_2=>simp at d
 rename_i i k s l P A;cases u:(zf sz s.sz&&zr 0 i.zero.length&&zf i.zero.length s.sz&&Det.LZ V.one i.zero)with
 |false=>rw[u]at d;simp at d
 |true=>
  rw[u]at d;simp only[zc,F4]at u;obtain⟨⟨⟨w,S⟩,G⟩,Y⟩:=u;have w:=zd w;have G:=zd G;subst w;simp only[we]at d;split at d
  case h_2=>simp at d
  rename_i z R;simp only[BZ,w5]at d;obtain⟨E,rfl,rfl⟩:=d;obtain⟨b,n,y,h1,h2,⟨bs,fz,rfl,h3,h4,h5⟩,h6,_⟩:=hr.at A;have D:DC F s z i.zero:=C9 (EL (F:=F) (ρ:=ρ) (N:=st.nx) i.zero) R;have f:=Ez.replicate D len;have m:=Ez.lQ h3 f (a:=off) (by simpa using E);rw[ya]at m;have r:(l.take off++(zn len z++l.drop (off+len))).length=l.length:=by simp;omega
  have skip:Gf C.T h ts [x]=some (.tup [],h)->len=0->OK B h0 F ρ st h (F7 [.sl id s.sz off len cap]) (FI<|Gf C.T h ts [x]) (.tup []) (st.setObj id<|.arr false k s<|l.take off++(zn len z++l.drop (off+len))):=by
   intro O h0;subst h0;have el:l.take off++(zn 0 z++l.drop (off+0))=l:=by simp
   refine⟨.tup [],h,F,ρ,.inl (by rw[O];rfl),by simp[PR],hr.same A h1 h2 rfl rfl (o':=.arr false k s _) ⟨bs,fz,rfl,?_,h4,?_⟩,yf,rfl,rfl,ze _,fun _ _=>.inl rfl⟩
   ·rw[el];exact h3
   ·rw[el];exact h5
  simp only[PR]at j;rcases j.2 b n h1 with⟨_,L,o,W,rfl⟩|⟨J,U,L,rfl|⟨I,rfl,_⟩⟩
  ·by_cases h0:len=0
   ·exact skip (by simp[Gf,g,q,h0]) h0
   ·have M:wr h b (off*s.sz) (Fy i.zero<|len*i.zero.length)=some (h.put b<|.cells (CJ (off*s.sz) ((zn len i.zero).flatten) bs) k fz):=by
     rw[H5];refine NK h2 ?_ h4 ?_
     ·rw[f.1,ya, <-zp,h3.1];exact zh _ E
     ·exact f.S0
    have K:zf len 0=false:=by rw[Bw];simp[h0]
    refine⟨.tup [],h.put b<|.cells (CJ (off*s.sz) ((zn len i.zero).flatten) bs) k fz,F,ρ,.inl ?_,by simp[PR],hr.set A h1 h2 rfl rfl (o':=.arr false k s _) ⟨_,fz,rfl,m,h4,r.trans h5⟩,yf,rfl,rfl,ze _,fun c _=>?_⟩
    ·simp only[Gf,g,q,K,wg,P,S,we,M,zq,FI]
    ·rw[H.Bt];by_cases e:c=b
     ·exact .inr ⟨id,by simp[F7],n,e▸h1⟩
     ·rw[wc e];exact .inl rfl
  ·exact skip (by simp[Gf,g,q]) J
  ·exact skip (by simp[Gf,g,q]) J
theorem vA(hr:SR B h0 F ρ st.nx st.ob h){t:TypeId}{p:PV}{x:V}(c:PR F ρ st.nx p x){v:PV}(a:(Xi C.T t p st).To v st'):OK B h0 F ρ st h [] (FI<|Ic C.T h t x) v st':=by
 unfold Xi at a;split at a
 case h_2=>simp at a
 rename_i s b;simp only[AW]at a;obtain⟨rfl,rfl⟩:=a;obtain rfl:=FL c;have d:Ic C.T h t (.str s)=some (.ptr h.nx 0,h.push<|.siter s 0):=by simp[Ic,TU,b]
 rw[d];exact OK.new hr (o:=.siter s 0) (n:=0) rfl rfl Li
theorem Ab8(hr:SR B h0 F ρ st.nx st.ob h){p:PV}{x:V}(g:PR F ρ st.nx p x){i:Bool}{v:PV}(a:(oK p i st).To v st'):i=true/\∃id off,p=.ptr id off/\OK B h0 F ρ st h [id] (FI<|NN h x i) v st':=by
 unfold oK at a;split at a
 case h_2=>simp at a
 rename_i id;split at a
 case h_2=>simp at a
 rename_i s pos j;obtain⟨b,n,y,f,d,k,m,_⟩:=hr.at j;simp only[aT]at k;subst k;simp only[PR]at g;obtain rfl:=g.2 b n f;refine⟨rfl,id,0,rfl,?_⟩;by_cases hp:pos<s.length
 ·rw[w4 hp]at a;cases a with
  |tt a=>
   simp only[AW]at a;obtain⟨rfl,rfl⟩:=a;have l:NN h (.ptr b 0) true=some (.tup [.bool true,i64 pos,.int .i32<|rune s pos],h.put b<|.siter s<|pos+Kr s pos):=by
    simp only[NN,d,HH,w4 hp,we];rfl
   refine⟨_,_,F,ρ,.inl (by rw[l];rfl),?_,hr.set j f d rfl rfl (o':=.siter s _) rfl,yf,rfl,rfl,ze _,fun c _=>?_⟩
   ·simp[PR,DC,i64]
   ·rw[H.Bt];by_cases e:c=b
    ·exact .inr ⟨id,zk.2 rfl,n,e▸f⟩
    ·rw[wc e];exact .inl rfl
 ·rw[w8 hp]at a;cases a with
  |ff a=>
   simp only[AW]at a;obtain⟨rfl,rfl⟩:=a;refine⟨.tup [.bool false],h,F,ρ,.inl ?_,by simp[PR],hr,yf,rfl,rfl,ze _,fun _ _=>.inl rfl⟩;simp only[NN,d,HH,w8 hp,wg,FI]
end
section
variable {B:Nat}{h0:H0}{F:Fz}{ρ:Ey}{N:Nat}{C:Ctx}{st st':AM}{h:H}
def Aa3:List PV->List Nat
 | .eptr id _ _ _::_=>[id]
 |_=>[]
theorem xA(hr:SR B h0 F ρ st.nx st.ob h){ps:List PV}{xs:List V}(c:Bi F ρ st.nx ps xs){v:PV}(a:(Yh ps st).To v st'):OK B h0 F ρ st h [] (BG h<|O4 xs) v st':=by
 unfold Yh at a;split at a
 case h_2=>simp at a
 rename_i id sz off len;cases d:II (st.obj id)with
 |false=>rw[d]at a;simp at a
 |true=>
  rw[d]at a;simp only[we,BZ,w5]at a;obtain⟨i,rfl,rfl⟩:=a;obtain⟨o,ho⟩:=YB d;obtain⟨b,n,z,g1,_⟩:=hr.at ho;simp only[Bi]at c;obtain⟨x,_,rfl,c,rfl⟩:=c;simp only[PR]at c;obtain⟨_,_,o',_,rfl⟩:len<=len/\off+len<=n/\∃o,(o=0\/o=sz)/\x=.sl b (off*sz) len len o:=by
   rcases c.2 b n g1 with g|⟨_,e,_⟩
   ·exact g
   ·cases e
  refine zg hr (v':=.ptr b<|off*sz) ?_ ?_
  ·have:zr 0 len=true:=by rw[Nat.blt_eq];exact i
   simp only[O4,this,we];rfl
  ·simp only[PR];refine⟨c.1,fun b' n' f=>?_⟩;rw[g1]at f;cases f;rfl
theorem gF{k:IntKind}:∀ {l:List Int} {cs:List V},Ez F (.int k) l cs->cs=l.map (y7 k):=by
 intro l cs a;have d:cs.length=l.length:=by rw[a.1];simp[Sh.sz]
 apply List.ext_getElem
 ·rw[yw];exact d
 ·intro i b f;have c:i<l.length:=ae
  have:=a.2 i c;have e:(cs.drop<|i*Sh.sz (.int k)).take (Sh.sz<|.int k)=[cs[i]]:=by
   rw[show Sh.sz (.int k)=1 from rfl,ym,zw b];rfl
  rw[e]at this;simpa [DC]using this
theorem PE:∀ {l:List Int},RY l=true->GL (l.map<|y7 .u8)=some (W6 l)
 |[],_=>rfl
 |x::l,h=>by
  unfold RY at h;rw[List.all_cons,zc,zc,w5,w5]at h;have b:=PE (l:=l) h.2;obtain⟨n,rfl⟩:=yr h.1.1;have c:zr n 256=true:=by rw[Nat.blt_eq];omega
  have a:Ti (.int .u8 (n:Int))=some (UInt8.ofNat n):=by
   show(bif zr n 256 then some (UInt8.ofNat n)else none)=_;rw[c];rfl
  rw[List.map_cons];unfold GL;rw[a,b];rfl
theorem Xy{l:List Int}(h:RY l=true)(n:Nat):RY (l.take n)=true:=by
 unfold RY at*;rw[z6]at*;exact fun x a=>h x<|List.mem_of_mem_take a
theorem Ach(hr:SR B h0 F ρ st.nx st.ob h){ts:Array TypeId}{ps:List PV}{xs:List V}(k:Bi F ρ st.nx ps xs){v:PV}(a:(gG C.T ts.toList ps st).To v st'):OK B h0 F ρ st h (Aa3 ps) (FI<|R4 C.T h ts.toList xs) v st':=by
 unfold gG at a;split at a
 case h_2=>simp at a
 rename_i pt it id sz i n E;split at a
 case h_2=>simp at a
 rename_i e q s l hu L;split at a
 case h_2=>simp at a
 rename_i ti u hi A;cases G:(zf ti.size 1&&zf e q)with
 |false=>rw[G]at a;simp at a
 |true=>
  rw[G]at a;simp only[we,BZ,zc,w5]at a;obtain⟨⟨⟨⟨⟨O,w⟩,M⟩,K⟩,R⟩,rfl,rfl⟩:=a;subst O;obtain⟨es,he⟩:=CS A;have P:s=.int .u8:=by cases es;rfl
  subst P;have:u=l:=by have:=he;cases this;rfl
  subst this;obtain⟨m,rfl⟩:=yr<|Int.le_of_lt w;simp only[Int.toNat_natCast]at M K;obtain⟨b,n',z,h1,h2,⟨cs,fz,rfl,h3,h4,h5⟩,h6,_⟩:=hr.at L;have t:=h6 rfl;simp only[Bi]at k;obtain⟨x,_,rfl,k,y,_,rfl,hy,rfl⟩:=k;obtain rfl:=C2 hy;simp only[PR]at k;obtain rfl:=k.2 b n' h1;have W:=(hr.own id b n' h1).2;have I:b∉h0.pin:=fun hp=>(hr.pn b hp).2.2 id n' h1
  have d:∀j oj m,AR (GJ st.ob id) j=some oj->B0 ρ id none j≠some (b,m):=by
   intro j oj m r f;rw[Et]at r;split at r
   ·cases r
   ·rename_i p;simp only[B0,p,vg]at f;exact p<|hr.inj j id oj _ b m n' r L f h1
  have g:=hr.del id;have o:=gF h3;have D:cs.take m=(u.take m).map (y7 .u8):=by rw[o,List.map_take]
  have Z:=PE<|Xy R m;have hd:R4 C.T h ts.toList [.ptr b<|0*sz+0,.int .i64 (m:Int)]=some (.str<|W6<|u.take m,h.kill b):=by
   rw[zu];unfold R4;rw[E];show(match C.T.und pt,h.get b with
    |some (.pointer e),some (.cells cs q fz)=>(match C.T.inf e,GL (cs.take m)with
     |some i,some l=>bif zf i.size 1&&zf e q&&zr 0 m&&zl m cs.length&&zl m 9223372036854775807&&zl fz.2 fz.1 then some (V.str l,h.kill b)else none
     |_,_=>none)
    |_,_=>none)=_
   rw[hu,h2];show(match C.T.inf e,GL (cs.take m)with
    |some i,some l=>bif zf i.size 1&&zf e q&&zr 0 m&&zl m cs.length&&zl m 9223372036854775807&&zl fz.2 fz.1 then some (V.str l,h.kill b)else none
    |_,_=>none)=_
   rw[hi,D,Z];have w:(0:Int)<(m:Int):=w;have S:zr 0 m=true:=by rw[Nat.blt_eq];omega
   have Y:zl m cs.length=true:=zi (by rw[o,yw];exact M);have U:zl m 9223372036854775807=true:=zi K;have c4:zl fz.2 fz.1=true:=zi h4;simp only[G,S,Y,U,c4,yq,we]
  rw[hd];refine⟨_,_,F,B0 ρ id none,.inl rfl,KW _,g.kill d t W I,Le.Om id,rfl,rfl,ze _,fun c _=>?_⟩;rw[H.Cr];by_cases J:c=b
  ·exact .inr ⟨id,zk.2 rfl,n',J▸h1⟩
  ·rw[wc J];exact .inl rfl
end
section
variable {B:Nat}{h0:H0}{C:Ctx}{F F1 F':Fz}{ρ:Ey}{N:Nat}{st st':AM}{fr:Fr}{h h':H}
def PC(F:Fz)(p:PV)(v:V):Prop:=∀ρ N,PR F ρ N p v
def M0(F:Fz)(ps:List PV)(vs:List V):Prop:=∀ρ N,Bi F ρ N ps vs
theorem Le.dV(a:∀b cs,F b=some cs->F1 b=some cs):Le F ρ N F1 ρ N:=⟨a,fun _ _=>.inl rfl,ze _⟩
theorem PC.mono(a:∀b cs,F b=some cs->F1 b=some cs){p:PV}{v:V}(hp:PC F p v):PC F1 p v:=fun ρ N=>(hp ρ N).mono<|Le.dV a
theorem M0.cons{p:PV}{ps:List PV}{v:V}{vs:List V}(b:PC F p v)(a:M0 F ps vs):M0 F (p::ps) (v::vs):=fun ρ N=>(A6 ..).2 ⟨b ρ N,a ρ N⟩
theorem M0.dc{s:Sh}{ps:List PV}{vs:List V}{x:s.T}(hp:M0 F ps vs)(a:Dr s ps=some x):DC F s x vs:=C9 (hp (fun _=>none) 0) a
theorem PC.Cp:∀ {s:Sh} {x:s.T} {cs:List V},DC F s x cs->(s.Rt=true->PC F (Cp s x) (.agg cs))/\(s.Rt=false->∀v,cs=[v]->PC F (Cp s x) v)
 | .pair a b,x,cs,h=>⟨fun _ ρ N=>by unfold y8 PR;exact⟨cs,rfl,Dh h⟩,fun e=>by cases e⟩
 | .unit,x,cs,h=>⟨fun _ ρ N=>by simp only[DC]at h;subst h;unfold y8 PR;exact⟨[],rfl,by simp⟩,fun e=>by cases e⟩
 | .int _,x,cs,h=>⟨fun e=>(by cases e),fun _ v c ρ N=>by subst c;unfold y8 PR;exact h⟩
 | .bool,x,cs,h=>⟨fun e=>(by cases e),fun _ v c ρ N=>by subst c;unfold y8 PR;exact h⟩
 | .str,x,cs,h=>⟨fun e=>(by cases e),fun _ v c ρ N=>by subst c;unfold y8 PR;exact h⟩
 | .list _,x,cs,h=>⟨fun e=>(by cases e),fun _ v c ρ N=>by subst c;unfold y8 PR;exact h⟩
 | .nlist _,x,cs,h=>⟨fun e=>(by cases e),fun _ v c ρ N=>by subst c;unfold y8 PR;exact h⟩
 | .fnv,x,cs,h=>⟨fun e=>(by cases e),fun _ v c ρ N=>by
   subst c;simp only[DC,yi,ve]at h;subst h;unfold y8;cases (x:Option Fn)<;>simp[PR]⟩
 | .ptr s,x,cs,h=>⟨fun e=>(by cases e),fun _ v c ρ N=>by
   subst c;simp only[DC]at h;obtain⟨b,o,i,f,d,j,g⟩:=h;unfold y8 PR;exact⟨b,o,i,List.singleton_inj.1 f,d,j,g⟩⟩
theorem SR.Ad1{ob a:Ob}(hr:SR B h0 F ρ N ob h)(c:∀j,AR a j=AR ob j):SR B h0 F ρ N a h:=
 ⟨fun id o g=>hr.obj id o<|c id▸g,fun id id' o o' b n n' f e=>hr.inj id id' o o' b n n' (c id▸f)<|c id'▸e,hr.frz,hr.own,fun id d=>hr.dead id<|c id▸d,hr.old,hr.lt,hr.le,hr.fo,hr.gl,hr.pn⟩
theorem AbL{s:Sh}{l:List s.T}{cs:List V}{b:Nat}(g:F b=some cs)(e:Ez F s l cs){off len:Nat}(d:off+len<=l.length){cap o:Nat}(c:len<=cap)(k:o=0\/o=s.sz):
  DC F (.list s) ((l.drop off).take len) [.sl b (off*s.sz) len cap o]:=by
 have a:((l.drop off).take len).length=len:=by simp;omega
 simp only[DC];refine⟨_,rfl,.inr ⟨b,off*s.sz,cap,o,cs,by rw[a],by rw[a];exact c,g,?_,k,fun i f=>?_⟩⟩
 ·rw[a,e.1, <-zp];exact zh _ d
 ·rw[a]at f;have j:=e.2 (off+i) ae;have m:((l.drop off).take len)[i]=l[off+i]'ae:=by simp
  rw[m, <-zp];exact j
theorem LA(st:AM)(p:PV):(BK st p).nx=st.nx/\(BK st p).fr=st.fr/\(BK st p).n=st.n:=by
 unfold BK;split
 ·split<;>exact⟨rfl,rfl,rfl⟩
 ·exact⟨rfl,rfl,rfl⟩
theorem DK:∀(ps:List PV) (st:AM),(By ps st).nx=st.nx/\(By ps st).fr=st.fr/\(By ps st).n=st.n
 |[],_=>⟨rfl,rfl,rfl⟩
 |p::ps,st=>by
  obtain⟨b,a,c⟩:=DK ps<|BK st p;obtain⟨g1,g2,g3⟩:=LA st p;exact⟨b.trans g1,a.trans g2,c.trans g3⟩
theorem IM:∀(ps a:List PV) (st:AM),By (ps++a) st=By a (By ps st)
 |[],_,_=>rfl
 |p::ps,a,st=>IM ps a<|BK st p
def Ep:Option Obj->Option Obj->Prop
 |some (.arr _ e s l),o=>∃fz,o=some (.arr fz e s l)
 |a,b=>b=a
theorem Ep.refl(o:Option Obj):Ep o o:=by
 cases o with
 |none=>rfl
 |some o=>cases o<;>first|rfl|exact⟨_,rfl⟩
theorem Ny(st:AM)(p:PV)(j:Nat):Ep (st.obj j) ((BK st p).obj j):=by
 unfold BK;split
 case h_2=>exact Ep.refl _
 split
 case h_2=>exact Ep.refl _
 rename_i id _ _ _ _ _ fz e s l a;show Ep (AR st.ob j)<|AR (D3 st.ob id<|.arr true e s l) j;rw[Hj _ _ _ _<|by show(st.obj id).isSome=true;rw[a];rfl];split
 ·rename_i b;subst b;show Ep (st.obj j) _;rw[a];exact⟨_,rfl⟩
 ·exact Ep.refl _
theorem gJ{st st':AM}(h:∀id,Ep (st.obj id)<|st'.obj id)(p:PV):B3 st' p=B3 st p:=by
 unfold B3;cases p<;>try rfl
 rename_i id sz off len cap;have:=h id;cases a:st.obj id with
 |none=>rw[a]at this;simp only[a,show st'.obj id=none from this]
 |some o=>
  rw[a]at this;cases o with
  |arr fz e s l=>
   obtain⟨fz',b⟩:=this;simp only[a,b]
  |box _=>simp only[a,show st'.obj id=_ from this]
  |tbox _ _=>simp only[a,show st'.obj id=_ from this]
  |map _ _ _=>simp only[a,show st'.obj id=_ from this]
  |siter _ _=>simp only[a,show st'.obj id=_ from this]
  |lp _ _ _ _ _ _ _ _=>simp only[a,show st'.obj id=_ from this]
theorem MQ{st st':AM}(h:∀id,Ep (st.obj id)<|st'.obj id):∀ps:List PV,Dl st' ps=Dl st ps
 |[]=>rfl
 |p::ps=>by unfold Dl;rw[gJ h p,MQ h ps]
theorem Ep.trans{a b c:Option Obj}(f:Ep a b)(d:Ep b c):Ep a c:=by
 cases a with
 |none=>have:b=none:=f;subst this;exact d
 |some o=>
  cases o with
  |arr fz e s l=>obtain⟨fz',rfl⟩:=f;exact d
  |box _=>have:b=_:=f;subst this;exact d
  |tbox _ _=>have:b=_:=f;subst this;exact d
  |map _ _ _=>have:b=_:=f;subst this;exact d
  |siter _ _=>have:b=_:=f;subst this;exact d
  |lp _ _ _ _ _ _ _ _=>have:b=_:=f;subst this;exact d
theorem NU:∀(ps:List PV) (st:AM) (id:Nat),Ep (st.obj id)<|(By ps st).obj id
 |[],_,_=>Ep.refl _
 |p::ps,st,id=>(Ny st p id).trans<|NU ps (BK st p) id
theorem VL{st st':AM}(h:∀id,Ep (st.obj id)<|st'.obj id)(s:Sh)(p:PV):EB st' s p=EB st s p:=by
 unfold EB;rw[MQ h]
theorem MN{st st':AM}(h:∀id,Ep (st.obj id)<|st'.obj id):∀(l:List Sh) (ps:List PV),DD st' l ps=DD st l ps
 |[],[]=>rfl
 |[],_::_=>rfl
 |[a],[p]=>VL h a p
 |[a],[]=>rfl
 |[a],_::_::_=>rfl
 |a::b::l,[]=>rfl
 |a::b::l,p::ps=>by unfold DD;rw[VL h a p,MN h (b::l) ps]
theorem NO(hr:SR B h0 F ρ st.nx st.ob h){p:PV}{v:V}(hp:PR F ρ st.nx p v):
  ∃F1,SR B h0 F1 ρ (BK st p).nx (BK st p).ob h/\(∀b cs,F b=some cs->F1 b=some cs)/\∀x,B3 st p=some (true,x)->PC F1 x v:=by
 have same:∀ {q:PV},(∀x,B3 st q=some (true,x)->PC F x v)->BK st q=st->∃F1,SR B h0 F1 ρ (BK st q).nx (BK st q).ob h/\(∀b cs,F b=some cs->F1 b=some cs)/\∀x,B3 st q=some (true,x)->PC F1 x v:=
  fun D R=>⟨F,by rw[R];exact hr,fun _ _ h=>h,D⟩
 cases p with
 |sl id sz off len cap=>
  cases f:st.obj id with
  |none=>exact same (fun x a=>by simp[B3,f]at a) (by simp[BK,f])
  |some o=>
   cases o with
   |box _=>exact same (fun x a=>by simp[B3,f]at a) (by simp[BK,f])
   |tbox _ _=>exact same (fun x a=>by simp[B3,f]at a) (by simp[BK,f])
   |map _ _ _=>exact same (fun x a=>by simp[B3,f]at a) (by simp[BK,f])
   |siter _ _=>exact same (fun x a=>by simp[B3,f]at a) (by simp[BK,f])
   |lp _ _ _ _ _ _ _ _=>exact same (fun x a=>by simp[B3,f]at a) (by simp[BK,f])
   |arr fz e s l=>
    obtain⟨b,n,x,D,R,⟨cs,fz',rfl,U,h5,h6⟩,h7,h8⟩:=hr.at f;have E:BK st (.sl id sz off len cap)=st.setObj id (.arr true e s l):=by simp[BK,f]
    have r:∀j,AR (D3 st.ob id<|.arr true e s l) j=if j=id then some (.arr true e s l)else AR st.ob j:=fun j=>Hj _ _ _ _ (by show(st.obj id).isSome=true;rw[f];rfl)
    have fin:∀ {G:Fz},G b=some cs->(∀b cs,F b=some cs->G b=some cs)->∀x,B3 st (.sl id sz off len cap)=some (true,x)->PC G x v:=by
     intro G hG Z x a ρ' N';simp only[B3,f]at a;cases t:zf sz s.sz with
     |false=>rw[t]at a;simp at a
     |true=>
      rw[t]at a;simp only[we,zj,z8,w5]at a;obtain⟨A,rfl⟩:=a;have t:=zd t;subst t;unfold PR;simp only[PR]at hp;rcases hp.2 b n D with⟨K,P,o,T,rfl⟩|⟨rfl,rfl,T,rfl|⟨L,rfl,k4⟩⟩
      ·exact AbL hG (U.mono Z) A K T
      ·simp[DC]
      ·simp only[List.take_zero,DC];refine⟨_,rfl,.inr ⟨b,L,0,0,cs,rfl,ze _,hG,?_,.inl rfl,fun i hi=>by simp at hi⟩⟩;simp only[yd,zu,Nat.add_zero];rw[U.1];exact yt k4 (zh _ (by rw[h6];exact T))
    cases M:fz with
    |true=>
     subst M;obtain⟨cs',t',fz2,K,P⟩:=h8 rfl;cases K;refine⟨F,?_,fun _ _ h=>h,fin P<|fun _ _ h=>h⟩;rw[E];refine SR.Ad1 hr fun j=>?_
     show AR (D3 st.ob id _) j=_;rw[r];split
     ·rename_i J;subst J;exact f.symm
     ·rfl
    |false=>
     subst M;have Y:F b=none:=h7 rfl;have d:∀c cs',F c=some cs'->(fun c=>if c=b then some cs else F c) c=some cs':=by
      intro c cs' w;have:c≠b:=fun e=>by rw[e,Y]at w;cases w
      simp[this,w]
     refine⟨fun c=>if c=b then some cs else F c,?_,d,fin (by simp) d⟩;rw[E];have A:Le F ρ st.nx (fun c=>if c=b then some cs else F c) ρ st.nx:=Le.dV d;have z:∀k ok,AR (D3 st.ob id<|.arr true e s l) k=some ok->∃o2,AR st.ob k=some o2:=by
      intro k ok hk;rw[r]at hk;by_cases ek:k=id
      ·exact⟨_,ek▸f⟩
      ·rw[wc ek]at hk;exact⟨ok,hk⟩
     refine⟨fun j oj g=>?_,fun i j oi oj c m m' hi g S W=>?_,fun c cs' w=>?_,hr.own,fun j g=>?_,hr.old,hr.lt,hr.le,fun c cs' w=>?_,hr.gl,hr.pn⟩
     ·have g:AR (D3 st.ob id<|.arr true e s l) j=some oj:=g;rw[r]at g;by_cases J:j=id
      ·subst J;simp only[wk,zj]at g;subst g;refine⟨b,n,_,D,R,⟨cs,fz',rfl,U.mono d,h5,h6⟩,fun e=>(by cases e),fun _=>⟨cs,_,_,rfl,by simp⟩⟩
      ·rw[wc J]at g;obtain⟨c,m,y,S,W,g3,g4,g5⟩:=hr.obj j oj g;have I:c≠b:=fun O=>J<|hr.inj j id oj _ c m n g f S<|O▸D
       exact⟨c,m,y,S,W,g3.mono A,fun e=>by simp[I,g4 e],fun e=>by obtain⟨a1,a2,a3,a4,a5⟩:=g5 e;exact⟨a1,a2,a3,a4,by simp[I,a5]⟩⟩
     ·obtain⟨_,K⟩:=z i oi hi;obtain⟨_,P⟩:=z j oj g;exact hr.inj i j _ _ c m m' K P S W
     ·split at w
      ·rename_i O;cases w;subst O;exact⟨_,_,R⟩
      ·exact hr.frz c cs' w
     ·have g:AR (D3 st.ob id<|.arr true e s l) j=none:=g;rw[r]at g;split at g
      ·cases g
      ·exact hr.dead j g
     ·split at w
      ·rename_i O;subst O;exact .inr (hr.own id c n D).2
      ·exact hr.fo c cs' w
 |dat s x=>exact same (fun y u ρ' N'=>by simp only[B3,zj,z8,true_and]at u;subst u;unfold PR at hp ⊢;exact hp) rfl
 |bl b=>exact same (fun y u ρ' N'=>by simp only[B3,zj,z8,true_and]at u;subst u;unfold PR at hp ⊢;exact hp) rfl
 |nil=>exact same (fun y u ρ' N'=>by simp only[B3,zj,z8,true_and]at u;subst u;unfold PR at hp ⊢;exact hp) rfl
 |Bc s x off=>exact same (fun y u ρ' N'=>by simp only[B3,zj,z8,true_and]at u;subst u;unfold PR at hp ⊢;exact hp) rfl
 |any|ub|yl _|nilp|nilm|nilf|nili|agg _|tup _|ptr _ _|eptr _ _ _ _|mp _|fn _ _ _=>exact same (fun x a=>by simp[B3]at a) rfl
theorem Jy:∀ {ps:List PV} {vs:List V} {st:AM} {F:Fz},SR B h0 F ρ st.nx st.ob h->Bi F ρ st.nx ps vs->
  ∃F1,SR B h0 F1 ρ (By ps st).nx (By ps st).ob h/\(∀b cs,F b=some cs->F1 b=some cs)/\∀xs,Dl st ps=some (true,xs)->M0 F1 xs vs
 |[],vs,st,F,hr,hp=>⟨F,hr,fun _ _ h=>h,fun xs a=>by
  cases a;have l:vs=[]:=by simpa using hp
  subst l;intro ρ' N';simp⟩
 |p::ps,vs,st,F,hr,hp=>by
  simp only[Bi]at hp;obtain⟨v,vs,rfl,q,i⟩:=hp;obtain⟨F1,g1,g2,g3⟩:=NO hr q;have f:Bi F1 ρ (BK st p).nx ps vs:=by rw[(LA st p).1];exact i.mono<|Le.dV g2
  obtain⟨s,j,g,r⟩:=Jy g1 f;refine⟨s,j,fun b cs o=>g b cs<|g2 b cs o,fun xs a=>?_⟩;unfold Dl at a;split at a
  case h_2=>cases a
  rename_i c x d e m k;simp only[zj,z8,zc]at a;obtain⟨⟨rfl,rfl⟩,rfl⟩:=a;exact M0.cons ((g3 x m).mono g) (r e (by rw[MQ<|Ny st p];exact k))
theorem jO(hr:SR B h0 F ρ st.nx st.ob h){t:TypeId}{n:Nat}{l:List (Nat×PV)}{l':List (Nat×V)}(G:PRn F ρ st.nx l l'){v:PV}(a:(Ta C.T t n l st).To v st'):OK B h0 F ρ st h [] (FI<|Fe C.T h t n l') v st':=by
 unfold Ta at a;split at a
 case h_2=>simp at a
 rename_i e K;split at a
 case h_2=>simp at a
 rename_i i s L Y;cases p:(zl (Nat.mul n i.size) 16777216&&zr 0 i.zero.length&&zf i.zero.length i.size&&zf i.size s.sz)with
 |false=>rw[p]at a;simp at a
 |true=>
  rw[p]at a;simp only[zc]at p;obtain⟨⟨⟨E,M⟩,m⟩,I⟩:=p;simp only[we]at a;split at a
  case h_2=>simp at a
  rename_i cs k;split at a
  case h_2=>
   split at a
   case h_2=>simp at a
   rename_i c cs' P;split at a
   case h_2=>simp at a
   rename_i el d;simp only[BZ]at a;obtain⟨rfl,rfl,rfl⟩:=a;have D:=zd m;have z:=zd I;have A:Bi F ρ st.nx (KQ (i.zero.map W1) n) (Fy i.zero<|n*i.size):=by
    rw[<-D,H5];exact K9 _ _
   obtain⟨g,j,r⟩:=JC hr G A k;have b:g.length=n*s.sz:=by
    rw[<-z];rw[Nq j];simp[Fy]
   obtain⟨F1,O,U,S⟩:=Jy hr r;obtain⟨q,u⟩:=JX (S cs' P ρ st.nx) d b;have y:Fe C.T h t n l'=some (.sl h.nx 0 n n 0,h.push<|.cells g e (0,0)):=by
    have f:zl (n*i.size) 16777216=true:=E;simp only[Fe,K,L,f,M,m,yq,we,j,Jn]
   rw[y];obtain⟨J,R,W⟩:=DK cs st;have w:=OK.new (F:=F1) (ρ:=ρ) (st:=By cs st) O (o:=.arr false e s el) (x:=.cells g e (0,0)) (n:=n) (v:=.sl (By cs st).nx s.sz 0 n none) (v':=.sl h.nx 0 n n 0) rfl ⟨_,_,rfl,u.mono<|fun _ _ h=>h,ze _,q⟩ (Py<|.inl rfl);obtain⟨v',h',F',ρ',q1,q2,q3,q4,q5,q6,q7,q8⟩:=w;rw[J]at q2;exact⟨v',h',F',ρ',q1,q2,q3,(by rw[J]at q4;exact(Le.dV U).trans q4),q5.trans R,q6.trans W,q7,q8⟩
  rename_i el d;simp only[AW]at a;obtain⟨rfl,rfl⟩:=a;have D:=zd m;have z:=zd I;have A:Bi F ρ st.nx (KQ (i.zero.map W1) n) (Fy i.zero<|n*i.size):=by
   rw[<-D,H5];exact K9 _ _
  obtain⟨g,j,r⟩:=JC hr G A k;have b:g.length=n*s.sz:=by
   rw[<-z];rw[Nq j];simp[Fy]
  obtain⟨q,u⟩:=JX r d b;have y:Fe C.T h t n l'=some (.sl h.nx 0 n n 0,h.push<|.cells g e (0,0)):=by
   have f:zl (n*i.size) 16777216=true:=E;simp only[Fe,K,L,f,M,m,yq,we,j,Jn]
  rw[y];exact OK.new hr (o:=.arr false e s el) (n:=n) rfl ⟨_,_,rfl,u.mono<|fun _ _ h=>h,ze _,q⟩ (Py<|.inl rfl)
end
section
variable {B:Nat}{h0:H0}{F:Fz}{ρ:Ey}{N:Nat}{C:Ctx}{st st':AM}{fr:Fr}{h h':H}
theorem Eu{x:Operand}{k:PV->PO}{v:PV}:(v1 st x k).To v st'↔∃p,RF st x=some p/\(k p).To v st':=by
 unfold v1;cases RF st x with
 |none=>simp
 |some p=>simp
theorem jB(d:FP F ρ N st fr){x:Option Operand}{k:Option PV->PO}{v:PV}(a:(o1 st x k).To v st'):∃p y,WS C fr x=some y/\UP F ρ N p y/\(k p).To v st':=by
 unfold o1 at a;cases x with
 |none=>exact⟨none,none,rfl,rfl,a⟩
 |some x=>
  obtain⟨p,c,b⟩:=Eu.1 a;obtain⟨y,g1,g2⟩:=Ct (C:=C) d c;exact⟨some p,some y,by simp[WS,g1],⟨y,rfl,g2⟩,b⟩
theorem dJ(hr:SR B h0 F ρ st.nx st.ob h){b:Builtin}{ts:Array TypeId}{ps:List PV}{xs:List V}(c:Bi F ρ st.nx ps xs){v:PV}(a:(IY C.T b ts ps st).To v st'):
  OK B h0 F ρ st h (match b with| .append| .clear=>F7 ps| .unsafeString=>Aa3 ps|_=>[]) (EK C h b ts xs) v st':=by
 unfold IY at a;split at a
 case h_8=>simp at a
 case h_7=>exact Ach hr c a
 case h_6=>exact xA hr c a
 case h_5=>exact rA hr c a
 case h_1=>exact AcM hr c a
 case h_2=>exact fM hr c a
 case h_3=>exact Ac9 (g:=lO) hr (fun k x y=>by simp[lO,imax]) c a
 case h_4=>exact Ac9 (g:=fV) hr (fun k x y=>by simp[fV,E2]) c a
theorem tY(hr:Rel B h0 F ρ st fr h){o:Oper}{v:PV}(e:(pop o.op C.T st).To v st'):
  ∃P,OK B h0 F ρ st h P (GN C fr h o) v st'/\∀sp I,Hq sp st o.op=some I->∀i∈P,i∈I:=by
 have nil:∀ {d:Option OR} {op:Op},OK B h0 F ρ st h [] d v st'->∃P,OK B h0 F ρ st h P d v st'/\∀sp I,Hq sp st op=some I->∀i∈P,i∈I:=fun h=>⟨[],h,fun _ _ _ i M=>by cases M⟩
 have A:∀ {x p},RF st x=some p->∃y,ev C fr x=some y/\PR F ρ st.nx p y:=fun hp=>Ct hr.fp hp
 unfold pop at e;rw[Dc];unfold He;cases V:o.op<;>rw[V]at e<;>simp only[J9,MP]at e<;>simp only
 case move x|assign x=>
  simp only[Yf,LB]at e;obtain⟨G,rfl⟩:=e;obtain⟨y,E,D⟩:=A G;refine nil ?_;rw[E];exact zg hr.sr rfl D
 case pick c a b=>
  simp only[lM,Eu]at e;obtain⟨p,G,q,K,r,W,e⟩:=e;obtain⟨x,E,D⟩:=A G;obtain⟨y,g3,g4⟩:=A K;obtain⟨z,g5,g6⟩:=A W;obtain⟨t,rfl,R⟩:=Acf hr.sr D g4 g6 e;refine nil ?_;rw[E];simp only;cases t
  ·simpa [g5]using R
  ·simpa [g3]using R
 case alloc t=>exact nil<|vP hr.sr e
 case box t x=>
  simp only[zZ,Eu]at e;obtain⟨p,G,e⟩:=e;obtain⟨y,E,D⟩:=A G;split at e
  case h_2=>simp at e
  rename_i cs Z;cases Y:Det.LZ (Ks st) cs with
  |false=>rw[Y]at e;simp at e
  |true=>
  rw[Y]at e;simp only[we,AW]at e;obtain⟨rfl,rfl⟩:=e;refine nil ?_;rw[E];exact Aed hr.sr D Z (by rw[<-F4];exact Y)
 case build t ps=>
  simp only[Zs]at e;split at e
  case h_2=>simp at e
  rename_i l O;obtain⟨l',E,D⟩:=OZ (C:=C) hr.fp O;refine nil ?_;rw[E];exact yH hr.sr D e
 case buildSlice t n ps=>
  simp only[VV]at e;split at e
  case h_2=>simp at e
  rename_i l O;obtain⟨l',E,D⟩:=OZ (C:=C) hr.fp O;refine nil ?_;rw[E];exact jO hr.sr D e
 case load t x=>
  simp only[mQ,Eu]at e;obtain⟨p,G,e⟩:=e;obtain⟨y,E,D⟩:=A G;refine nil ?_;rw[E];exact pF hr.sr D e
 case store t x y=>
  simp only[aH,Eu]at e;obtain⟨p,G,q,K,e⟩:=e;obtain⟨a,E,D⟩:=A G;obtain⟨b,g3,g4⟩:=A K;obtain⟨id,hid,R⟩:=tQ hr.sr D g4 e;refine⟨[id],by rw[E,g3];exact R,fun sp I g=>?_⟩;simp only[Hq,G]at g;rcases hid with⟨off,rfl⟩|⟨sz,j,off,rfl⟩<;>(simp only[zj]at g;subst g;intro i M;exact M)
 case nilCheck x=>
  simp only[QL,Eu]at e;obtain⟨p,G,e⟩:=e;obtain⟨y,E,D⟩:=A G;rw[E];split at e
  case h_4=>simp at e
  case h_1=>
   rename_i id off;cases O:II (st.obj id)with
   |false=>rw[O]at e;simp at e
   |true=>
    rw[O]at e;simp only[we,AW]at e;obtain⟨rfl,rfl⟩:=e;obtain⟨b,n,k1⟩:=hr.sr.live O;have J:=D;simp only[PR]at J;obtain rfl:=J.2 b n k1;exact nil<|zg hr.sr rfl D
  case h_2=>
   rename_i id sz j off;cases O:II (st.obj id)with
   |false=>rw[O]at e;simp at e
   |true=>
    rw[O]at e;simp only[we,AW]at e;obtain⟨rfl,rfl⟩:=e;obtain⟨b,n,k1⟩:=hr.sr.live O;have J:=D;simp only[PR]at J;obtain rfl:=J.2 b n k1;exact nil<|zg hr.sr rfl D
  case h_3=>
   simp only[AW]at e;obtain⟨rfl,rfl⟩:=e;have J:=D;simp only[PR]at J;obtain⟨b,o',cs,rfl,_⟩:=J;exact nil<|zg hr.sr rfl D
 case binOp op t x y t2=>
  simp only[Aao,Eu]at e;obtain⟨p,G,q,K,e⟩:=e;obtain⟨a,E,D⟩:=A G;obtain⟨b,g3,g4⟩:=A K;refine nil ?_;rw[E,g3];split at e
  case h_2=>exact Ads hr.sr D g4 e
  rename_i r S;simp only[AW]at e;obtain⟨rfl,rfl⟩:=e;unfold zO at S;split at S
  case h_3=>cases S
  all_goals
   rename_i m hu;cases hc:(Z4 x||Z4 y)with
   |false=>rw[hc]at S;cases S
   |true=>
    rw[hc]at S;cases S;simp only[PR]at D g4;subst D g4;exact zg hr.sr (by simp only[NB,rJ,hu,hc,we,BG])<|Jg _
 case unOp op t x=>
  simp only[AcO,Eu]at e;obtain⟨p,G,e⟩:=e;obtain⟨y,E,D⟩:=A G;refine nil ?_;rw[E];exact Afo hr.sr D e
 case convert s d x=>
  simp only[nE,Eu]at e;obtain⟨p,G,e⟩:=e;obtain⟨y,E,D⟩:=A G;refine nil ?_;rw[E];exact Acp hr.sr D e
 case makeFunc f a b=>
  simp only[nJ]at e;split at e
  case h_2=>simp at e
  rename_i x y hx hy;simp only[AW]at e;obtain⟨rfl,rfl⟩:=e;obtain⟨u,E,D⟩:=FA (C:=C) hr.fp hx;obtain⟨w,g3,g4⟩:=FA (C:=C) hr.fp hy;refine nil ?_;rw[E,g3];exact zg hr.sr rfl (by unfold PR;exact⟨_,_,rfl,D,g4⟩)
 case makeMap t r=>
  simp only[aJ]at e;split at e
  case h_2=>simp at e
  refine nil ?_;exact tA hr.sr e
 case lookup t x i ok=>
  simp only[UR,Eu]at e;obtain⟨p,G,q,K,e⟩:=e;obtain⟨a,E,D⟩:=A G;obtain⟨b,g3,g4⟩:=A K;refine nil ?_;rw[E,g3];exact oW hr.sr D g4 e
 case mapUpdate t m k x|insert t m k x=>
  simp only[Pt,Eu]at e;obtain⟨p,G,q,K,r,W,e⟩:=e;obtain⟨a,E,D⟩:=A G;obtain⟨b,g3,g4⟩:=A K;obtain⟨c,g5,g6⟩:=A W;obtain⟨id,rfl,R⟩:=jN hr.sr D g4 g6 e;refine⟨[id],by rw[E,g3,g5];exact R,fun sp I g=>?_⟩;simp only[Hq,G,zj]at g;subst g;intro i M;exact M
 case makeSlice t l c=>
  simp only[pP,Eu]at e;obtain⟨p,G,q,K,e⟩:=e;obtain⟨a,E,D⟩:=A G;obtain⟨b,g3,g4⟩:=A K;refine nil ?_;rw[E,g3];exact AbG hr.sr D g4 e
 case slice t x lo M mx=>
  simp only[Ze,Eu]at e;obtain⟨p,G,e⟩:=e;obtain⟨a,E,D⟩:=A G;obtain⟨l,l',k1,k2,e⟩:=jB (C:=C) hr.fp e;obtain⟨m,m',k3,k4,e⟩:=jB (C:=C) hr.fp e;obtain⟨n,n',k5,k6,e⟩:=jB (C:=C) hr.fp e;refine nil ?_;rw[E,k1,k3,k5];exact sY hr.sr D k2 k4 k6 e
 case fieldAddr t x f=>
  simp only[Y1,Eu]at e;obtain⟨p,G,e⟩:=e;obtain⟨y,E,D⟩:=A G;refine nil ?_;rw[E];exact tI hr.sr D e
 case field t x f=>
  simp only[ZT,Eu]at e;obtain⟨p,G,e⟩:=e;obtain⟨y,E,D⟩:=A G;refine nil ?_;rw[E];exact uV hr.sr D e
 case indexAddr t x i=>
  simp only[Y2,Eu]at e;obtain⟨p,G,q,K,e⟩:=e;obtain⟨a,E,D⟩:=A G;obtain⟨b,g3,g4⟩:=A K;refine nil ?_;rw[E,g3];exact wT hr.sr D g4 e
 case index t x i=>
  simp only[Z9,Eu]at e;obtain⟨p,G,q,K,e⟩:=e;obtain⟨a,E,D⟩:=A G;obtain⟨b,g3,g4⟩:=A K;refine nil ?_;rw[E,g3];exact uT hr.sr D g4 e
 case extract x i=>
  simp only[RT,Eu]at e;obtain⟨p,G,e⟩:=e;obtain⟨y,E,D⟩:=A G;refine nil ?_;rw[E];exact cU hr.sr D e
 case range t x=>
  simp only[Z6,Eu]at e;obtain⟨p,G,e⟩:=e;obtain⟨y,E,D⟩:=A G;refine nil ?_;rw[E];exact vA hr.sr D e
 case next x i=>
  simp only[pO,Eu]at e;obtain⟨p,G,e⟩:=e;obtain⟨y,E,D⟩:=A G;obtain⟨rfl,id,off,rfl,R⟩:=Ab8 hr.sr D e;refine⟨[id],by rw[E];exact R,fun sp I g=>?_⟩;simp only[Hq]at g;cases g
 case call c=>
  simp only[TJ]at e;split at e
  case h_1=>simp at e
  rename_i args L;obtain⟨args',E,D⟩:=FA (C:=C) hr.fp L;split at e
  case h_2=>simp at e
  case h_1=>
   rename_i b U;split at e
   case h_1=>
    obtain⟨id,qs,rfl,R⟩:=iN hr.sr D e;refine⟨[id],by rw[U,E];exact R,fun sp I g=>?_⟩;simp only[Hq,U,L,zj]at g;subst g;intro i M;exact M
   case h_2=>
   have:=dJ hr.sr D e;refine⟨_,by rw[U,E];exact this,fun sp I g=>?_⟩;simp only[Hq,U,L]at g;cases b<;>simp only at g ⊢<;>try (first|(intro i M;cases M;done)|(cases g;done))
   case append=>
    cases args with
    |nil=>simp[F7]
    |cons p ps=>cases p<;>simp only[zj]at g<;>subst g<;>(intro i M;exact M)
   case unsafeString=>
    cases args with
    |nil=>simp[Aa3]
    |cons p ps=>cases p<;>first|(cases g;done)|(cases g;intro i M;exact M)
end
section
variable {B:Nat}{h0:H0}{F:Fz}{ρ:Ey}{N:Nat}{X:AT}{st st':AM}{fr:Fr}{h h':H}{Q:PV->Ob->Prop}{n:Nat}
@[simp] theorem Dq(st:AM)(t:Nat)(p:PV)(s:Nat):(st.set t p).get s=if s=t then p else st.get s:=by
 unfold AM.get AM.set;simp only[PM.Dq];split<;>rfl
theorem Rel.set(hr:Rel B h0 F ρ st fr h){t:Nat}{p:PV}{x:V}(hp:PR F ρ st.nx p x):Rel B h0 F ρ (st.set t p) ⟨fr.n,fr.m.set t<|some x⟩ h:=by
 refine⟨⟨hr.fp.n,fun s=>?_⟩,hr.sr⟩;rw[Dq];unfold Fr.get;simp only[PM.Dq];split
 ·exact hp
 ·exact hr.fp.slot s
theorem Rel.note(hr:Rel B h0 F ρ st fr h){t:Nat}{p:PV}(hp:PR F ρ st.nx p (fr.get t)):Rel B h0 F ρ (st.set t p) fr h:=by
 refine⟨⟨hr.fp.n,fun s=>?_⟩,hr.sr⟩;rw[Dq];split
 ·rename_i e;subst e;exact hp
 ·exact hr.fp.slot s
theorem Rel.put(hr:Rel B h0 F ρ st fr h){d:Option Nat}{p:PV}{x:V}(hp:PR F ρ st.nx p x)(a:st.put d p=some st'):∃fr',fr.put d x=some fr'/\Rel B h0 F ρ st' fr' h/\st'.nx=st.nx/\st'.ob=st.ob:=by
 unfold AM.put at a;unfold Fr.put;cases d with
 |none=>cases a;exact⟨fr,rfl,hr,rfl,rfl⟩
 |some t=>
  simp only at a ⊢;have c:st.n=fr.n:=hr.fp.n;rw[c]at a;cases b:zr t fr.n with
  |false=>rw[b]at a;cases a
  |true=>
   rw[b]at a;simp only[we,zj]at a;subst a;exact⟨_,rfl,hr.set hp,rfl,rfl⟩
structure Dx(B:Nat)(h0:H0)(F:Fz)(ρ:Ey)(N:Nat)(h:H)(st':AM)(fr':Fr)(h':H)(F':Fz)(ρ':Ey):Prop where
 rel:Rel B h0 F' ρ' st' fr' h'
 le:Le F ρ N F' ρ' st'.nx
 nx:h.nx<=h'.nx
theorem Dx.refl(hr:Rel B h0 F ρ st fr h):Dx B h0 F ρ st.nx h st fr h F ρ:=⟨hr,yf,ze _⟩
theorem Dx.trans{F' f:Fz}{ρ' d:Ey}{c:AM}{fr' e:Fr}{g:H}(a:Dx B h0 F ρ N h st' fr' h' F' ρ')(b:Dx B h0 F' ρ' st'.nx h' c e g f d):Dx B h0 F ρ N h c e g f d:=
 ⟨b.rel,a.le.trans b.le,yt a.nx b.nx⟩
def AdQ(X:AT)(ρ:Ey)(h:H)(args':List V):Cal->Cl->Prop
 | .fn g,c=>c=.fn g args'/\X.C.prim g=none/\∃i,X.C.fn g=some i
 | .rnd id,c=>∃b n ls,ρ id=some (b,n)/\h.get b=some (.loop ls)/\args'.length=ls.ps.size/\c=.rnd b ls (GM ls.ps.toList args' ls.fr)
inductive NF (X:AT) (ρ:Ey) (h:H) (args':List V):Cal->List (V×H)->Prop where
 |Bp {g:Cal} {c:Cl} {l:List (V×H)} {M:Nat}:AdQ X ρ h args' g c->(∀m,M<=m->Det.Bp X.C m c h=some l)->NF X ρ h args' g l
 |prim {g:FuncId} {q:List V->H->Option (V×H)} {x:V×H}:X.C.prim g=some q->q args' h=some x->NF X ρ h args' (.fn g) [x]
def FJ(B:Nat)(h0:H0)(X:AT)(nd:Bool)(call:Gz):Prop:=
 ∀ {Q:PV->Ob->Prop} {n:Nat} {g:Cal} {args:List PV} {st:AM} {k:PV->AM->Tr},Ev X Q n (call g args st k)->∀ {F:Fz} {ρ:Ey} {fr:Fr} {h:H} {args':List V},Rel B h0 F ρ st fr h->Bi F ρ st.nx args args'->
  ∃l,NF X ρ h args' g l/\(nd=false->∃x,l=[x])/\
   ∀x∈l,∃n',n'<=n/\∃r st',Ev X Q n' (k r st')/\∃F' ρ',PR F' ρ' st'.nx r x.1/\Dx B h0 F ρ st.nx h st' fr x.2 F' ρ'/\(∀a,g=.fn a->∀sp,X.sp a=some sp->∀b,b<h.nx->x.2.get b=h.get b)
theorem Ev.Ff{c:Bool}{a b:Tr}(f:Ev X Q n (.ite c a b)):(c=true/\Ev X Q n a)\/(c=false/\Ev X Q n b):=by
 cases f with
 |ite e d=>
  cases c with
  |true=>exact .inl ⟨rfl,e rfl⟩
  |false=>exact .inr ⟨rfl,d rfl⟩
theorem Ev.Va{a b:Tr}(e:Ev X Q n (.both a b)):Ev X Q n a/\Ev X Q n b:=by
 cases e with
 |both c d=>exact⟨c,d⟩
theorem Ev.AH:¬Ev X Q n .fail:=fun h=>by cases h
theorem Ev.Y6{v:PV}{ob:Ob}(a:Ev X Q n (.leaf v ob)):Q v ob:=by
 cases a with
 |leaf h=>exact h
theorem NM(hr:Rel B h0 F ρ st fr h){ops:Array Oper}{o:Oper}{yes no:AM->Tr}(a:Ev X Q n (guarded ops o st yes no)):
  ∃g,Rel B h0 F ρ g fr h/\g.nx=st.nx/\g.ob=st.ob/\((Bg fr ops o=true/\Ev X Q n (yes g))\/(Bg fr ops o=false/\Ev X Q n (no g))):=by
 unfold guarded at a;unfold Bg;cases s:o.guard with
 |none=>rw[s]at a;exact⟨st,hr,rfl,rfl,.inl ⟨rfl,a⟩⟩
 |some v=>
  obtain⟨j,f⟩:=v;rw[s]at a;simp only at a ⊢;cases u:(ops[j]?).bind (·.dst)with
  |none=>rw[u]at a;exact wh a Ev.AH
  |some t=>
   rw[u]at a;simp only at a ⊢;rw[show st.n=fr.n from hr.fp.n]at a;cases q:zr t fr.n with
   |false=>rw[q]at a;exact wh a Ev.AH
   |true=>
    rw[q]at a;simp only[we]at a ⊢;have i:=hr.fp.slot t;split at a
    case h_1=>
     rename_i b e;rw[e]at i;rw[O0 i];refine⟨st,hr,rfl,rfl,?_⟩;cases k:(b==f)with
     |true=>rw[k]at a;exact .inl ⟨k,a⟩
     |false=>rw[k]at a;exact .inr ⟨k,a⟩
    case h_2=>
     rename_i b e;rw[e]at i;have m:=Ij i;have note:∀c:Bool,b=c->Rel B h0 F ρ (st.set t<|.bl c) fr h:=by
      rintro c rfl;exact hr.note (by rw[m];exact Jg _)
     rw[m];cases f with
     |true=>
      simp only[we]at a;rcases a.Ff with⟨d,a⟩|⟨d,a⟩
      ·exact⟨_,note true d,rfl,rfl,.inl ⟨by rw[show b=true from d];rfl,a⟩⟩
      ·exact⟨_,note false d,rfl,rfl,.inr ⟨by rw[show b=false from d];rfl,a⟩⟩
     |false=>
      simp only[wg]at a;rcases a.Ff with⟨d,a⟩|⟨d,a⟩
      ·exact⟨_,note true d,rfl,rfl,.inr ⟨by rw[show b=true from d];rfl,a⟩⟩
      ·exact⟨_,note false d,rfl,rfl,.inl ⟨by rw[show b=false from d];rfl,a⟩⟩
    case h_5=>exact wh a Ev.AH
    case h_4=>
     rename_i e;rw[e]at i;simp only[PR]at i;obtain⟨b,m⟩:=i;have note:∀c:Bool,b=c->Rel B h0 F ρ (st.set t<|.bl c) fr h:=by
      rintro c rfl;exact hr.note (by rw[m];exact Jg _)
     obtain⟨r,p⟩:=a.Va;rw[m];cases b with
     |true=>
      cases f with
      |true=>exact⟨_,note true rfl,rfl,rfl,.inl ⟨rfl,r⟩⟩
      |false=>exact⟨_,note true rfl,rfl,rfl,.inr ⟨rfl,r⟩⟩
     |false=>
      cases f with
      |true=>exact⟨_,note false rfl,rfl,rfl,.inr ⟨rfl,p⟩⟩
      |false=>exact⟨_,note false rfl,rfl,rfl,.inl ⟨rfl,p⟩⟩
    case h_3=>
     rename_i l e;rw[e]at i;simp only[PR]at i;obtain⟨cs,m,_⟩:=i;rw[m];exact⟨st,hr,rfl,rfl,.inr ⟨rfl,a⟩⟩
theorem J6{d:Option Nat}{k:AM->Tr}:∀ {l:PO},Ev X Q n (Qc d k l)->∃u s g,l.To u s/\s.put d u=some g/\Ev X Q n (k g)
 | .bad,e=>wh e Ev.AH
 | .val u s,e=>by
  simp only[Qc]at e;split at e
  ·rename_i s1 m;exact⟨u,s,s1,.val,m,e⟩
  ·exact wh e Ev.AH
 | .ite c a b,e=>by
  simp only[Qc]at e;rcases e.Ff with⟨rfl,f⟩|⟨rfl,f⟩
  ·obtain⟨u,s,s1,j,i⟩:=J6 f;exact⟨u,s,s1,.tt j,i⟩
  ·obtain⟨u,s,s1,j,i⟩:=J6 f;exact⟨u,s,s1,.ff j,i⟩
inductive xJ (X:AT) (fr:Fr) (h:H) (o:Oper):List (V×H)->Prop where
 |val {x:V} {h':H}:GN X.C fr h o=some (.val x h')->xJ X fr h o [(x,h')]
 |skip {h':H}:GN X.C fr h o=some (.skip h')->xJ X fr h o [(.tup [],h')]
 |alts {l:List (V×H)}:GN X.C fr h o=some (.alts l)->xJ X fr h o l
 |call {g:FuncId} {args:List V} {l:List (V×H)} {M:Nat}:GN X.C fr h o=some (.enter g args)->(∀m,M<=m->Bp X.C m (.fn g args) h=some l)->xJ X fr h o l
 |round {b:Nat} {ls:LS} {f:Fr} {l:List (V×H)} {M:Nat}:GN X.C fr h o=some (.round b ls f)->(∀m,M<=m->Bp X.C m (.rnd b ls f) h=some l)->xJ X fr h o l
theorem HP{nd:Bool}{call:Gz}(I:FJ B h0 X nd call)(hr:Rel B h0 F ρ st fr h){o:Oper}{k:AM->Tr}(R:Ev X Q n (Ie X.C.T call o st k)):
  ∃l,xJ X fr h o l/\((nd=false->(∃x,l=[x])/\∀l',GN X.C fr h o≠some (.alts l'))/\((∀id a,Kz st o.op≠ .yes (.rnd id) a)->∀b ls f,GN X.C fr h o≠some (.round b ls f)))/\∀x∈l,∃n',n'<=n/\∃v,Ev X Q n' (k v)/\∃F' ρ' fr',fr.put o.dst x.1=some fr'/\Dx B h0 F ρ st.nx h v fr' x.2 F' ρ'/\
   ∀A,Hq X.sp st o.op=some A->∀b,b<h.nx->x.2.get b=h.get b\/∃id∈A,∃m,ρ id=some (b,m):=by
 unfold Ie at R;split at R
 case h_2=>exact wh R Ev.AH
 case h_1=>
  rename_i g args D;unfold Kz at D;split at D
  case h_2=>cases D
  rename_i c z;split at D
  case h_2=>cases D
  rename_i f p;split at D
  case h_3=>cases D
  case h_2=>
   rename_i id ps P J;cases D;obtain⟨fv,f1,W⟩:=Ct (C:=X.C) hr.fp P;obtain⟨av,a1,a2⟩:=FA (C:=X.C) hr.fp J;simp only[PR]at W;obtain⟨l,hcd,hnd,hall⟩:=I R hr a2;obtain⟨hcd1,hM⟩:=hcd;obtain⟨b,m,ls,c1,c2,c3,rfl⟩:=hcd1;obtain rfl:=W.2 b m c1;have d:GN X.C fr h o=some (.round b ls<|GM ls.ps.toList av ls.fr):=by
    rw[Dc];unfold He;have S:zf av.length ls.ps.size=true:=by rw[c3];exact z7 _
    simp only[z,p,a1,f1,Mg,c2,S,we]
   refine⟨l,.round d hM,⟨fun e=>⟨hnd e,fun l'=>by rw[d];intro h;cases h⟩,fun hno=>?_⟩,fun x O=>?_⟩
   ·exact wh (by unfold Kz;simp only[z,p,P,J])<|hno id args
   obtain⟨n',hn,r,st',y,F',ρ',hp,L,U⟩:=hall x O;split at y
   case h_2=>exact wh y Ev.AH
   rename_i v E;obtain⟨fr',w,V,Y,Z⟩:=L.rel.put hp E;refine⟨n',hn,v,y,F',ρ',fr',w,⟨V,by rw[Y];exact L.le,L.nx⟩,fun A j b S=>?_⟩;simp only[z,Hq,p,P]at j;cases j
  rename_i g' first cap ps P J
  cases D;obtain⟨fv,f1,W⟩:=Ct (C:=X.C) hr.fp P;obtain⟨av,a1,a2⟩:=FA (C:=X.C) hr.fp J;simp only[PR]at W;obtain⟨fa,fb,rfl,f3,f4⟩:=W;have M:Bi F ρ st.nx (first++ps++cap) (fa++av++fb):=(f3.append a2).append f4;obtain⟨l,hcd,hnd,hall⟩:=I R hr M;have G:xJ X fr h o l/\(∀l',GN X.C fr h o≠some (.alts l'))/\∀b ls f,GN X.C fr h o≠some (.round b ls f):=by
   cases hcd with
   |Bp D hM=>
    obtain⟨rfl,K,i,hfn⟩:=D;have d:GN X.C fr h o=some (.enter g'<|fa++av++fb):=by
     rw[Dc];unfold He;simp only[z,p,a1,f1,Mg,K,hfn]
    exact⟨.call d hM,fun l'=>(by rw[d];intro h;cases h),fun b ls f=>(by rw[d];intro h;cases h)⟩
   |prim hq O=>
    rename_i q x;have d:GN X.C fr h o=some (.val x.1 x.2):=by
     rw[Dc];unfold He;simp only[z,p,a1,f1,Mg,hq,O,FI]
    exact⟨.val d,fun l'=>(by rw[d];intro h;cases h),fun b ls f=>(by rw[d];intro h;cases h)⟩
  refine⟨l,G.1,⟨fun e=>⟨hnd e,G.2.1⟩,fun _=>G.2.2⟩,fun x O=>?_⟩;obtain⟨n',hn,r,st',y,F',ρ',hp,L,U⟩:=hall x O;split at y
  case h_2=>exact wh y Ev.AH
  rename_i v E;obtain⟨fr',w,V,Y,Z⟩:=L.rel.put hp E;refine⟨n',hn,v,y,F',ρ',fr',w,⟨V,by rw[Y];exact L.le,L.nx⟩,fun A j b S=>?_⟩;simp only[z,Hq,p,P]at j;cases hs:X.sp g' with
  |none=>rw[hs]at j;cases j
  |some sp=>exact .inl<|U g' rfl sp hs b S
 case h_3=>
  obtain⟨u,s,v,h1,h2,h3⟩:=J6 R;obtain⟨tch,⟨v',h',F',ρ',w,V,Y,Z,g5,g6,g7,g8⟩,htch⟩:=tY (C:=X.C) hr h1;have hrs:Rel B h0 F' ρ' s fr h':=⟨⟨by rw[g6];exact hr.fp.n,fun t=>by
   have:s.get t=st.get t:=by unfold AM.get;rw[g5]
   rw[this];exact(hr.fp.slot t).mono Z⟩,Y⟩
  obtain⟨fr',k1,k2,k3,k4⟩:=hrs.put V h2;refine⟨[(v',h')],?_,⟨fun _=>⟨⟨_,rfl⟩,fun l'=>by rcases w with w|⟨w,_⟩<;>rw[w]<;>intro h<;>cases h⟩,fun _ b ls f=>by rcases w with w|⟨w,_⟩<;>rw[w]<;>intro h<;>cases h⟩,fun x O=>?_⟩
  ·rcases w with w|⟨w,rfl⟩
   ·exact .val w
   ·exact .skip w
  ·cases zk.1 O;refine⟨n,ze _,v,h3,F',ρ',fr',k1,⟨k2,by rw[k3];exact Z,g7⟩,fun A j b S=>?_⟩;rcases g8 b S with e|⟨id,hi,m,e⟩
   ·exact .inl e
   ·exact .inr ⟨id,htch _ _ j id hi,m,e⟩
theorem Aa7{α a:Type}{f:α->Option (List a)}{x:α}:bl [x] f=f x:=by
 unfold bl;cases f x<;>rfl
theorem LR{α o:Type}{f:Nat->Nat->α->Option (List o)}{P:o->Prop}{nd:Bool}{l:List α}(c:nd=false->∃x,l=[x])(h:∀a∈l,∃r M,(∀m,M<=m->∀q,M<=q->f m q a=some r)/\(nd=false->∃x,r=[x])/\∀y∈r,P y):
  ∃r M,(∀m,M<=m->∀q,M<=q->bl l (f m q)=some r)/\(nd=false->∃x,r=[x])/\∀y∈r,P y:=by
 cases nd with
 |false=>
  obtain⟨x,rfl⟩:=c rfl;obtain⟨r,M,i,g,h3⟩:=h x<|zk.2 rfl;exact⟨r,M,fun m j q k=>by rw[Aa7];exact i m j q k,g,h3⟩
 |true=>
  clear c;suffices hs:∃r M,(∀m,M<=m->∀q,M<=q->bl l (f m q)=some r)/\∀y∈r,P y by
   obtain⟨r,M,i,g⟩:=hs;exact⟨r,M,i,fun e=>(by cases e),g⟩
  induction l with
  |nil=>exact⟨[],0,fun _ _ _ _=>rfl,fun y d=>by cases d⟩
  |cons a l s=>
   obtain⟨r,M,i,_,g⟩:=h a List.mem_cons_self;obtain⟨r2,M2,h3,h4⟩:=s<|fun x p=>h x<|List.mem_cons_of_mem _ p;cases l with
   |nil=>exact⟨r,M,fun m j q k=>(by simp only[bl,i m j q k]),g⟩
   |cons b l=>
    refine⟨r++r2,max M M2,fun m j q k=>?_,fun y d=>?_⟩
    ·unfold bl;rw[i m ae q ae];simp only;rw[h3 m ae q ae]
    ·rcases List.mem_append.1 d with d|d
     ·exact g y d
     ·exact h4 y d
theorem QU{d:Option Nat}{P:Fr×H->Prop}:∀ {l:List (V×H)},(∀x∈l,∃fr',fr.put d x.1=some fr'/\P (fr',x.2))->∃r,Il fr d l=some r/\(∀y∈r,P y)/\((∃x,l=[x])->∃y,r=[y])
 |[],_=>⟨[],rfl,fun y a=>(by cases a),fun⟨x,h⟩=>by cases h⟩
 |x::l,h=>by
  obtain⟨fr',c,b⟩:=h x List.mem_cons_self;obtain⟨r,h3,h4,_⟩:=QU (l:=l)<|fun y a=>h y<|List.mem_cons_of_mem _ a;refine⟨(fr',x.2)::r,?_,fun y a=>?_,fun⟨z,e⟩=>?_⟩
  ·obtain⟨v,f⟩:=x;unfold Il;rw[c];simp only;rw[h3]
  ·rcases List.mem_cons.1 a with rfl|a
   ·exact b
   ·exact h4 y a
  ·cases e;cases h3;exact⟨_,rfl⟩
theorem xJ.Afp{l:List (V×H)}{o:Oper}{ops:Array Oper}(a:xJ X fr h o l)(c:Bg fr ops o=true){P:Fr×H->Prop}(hp:∀x∈l,∃fr',fr.put o.dst x.1=some fr'/\P (fr',x.2)):
  ∃r M,(∀m,M<=m->step1 X.C (Bp X.C m) ops o fr h=some r)/\((∃x,l=[x])->∃y,r=[y])/\∀y∈r,P y:=by
 obtain⟨r,s,j,q⟩:=QU hp;cases a with
 |@val x h' a=>
  obtain⟨fr',e,k⟩:=hp _<|zk.2 rfl;exact⟨[(fr',h')],0,fun m _=>(by simp only[step1,c,we,Jm,a,e]),fun _=>⟨_,rfl⟩,fun y i=>by cases zk.1 i;exact k⟩
 |@skip h' a=>
  obtain⟨fr',e,k⟩:=hp _<|zk.2 rfl;exact⟨[(fr',h')],0,fun m _=>(by simp only[step1,c,we,Jm,a,e]),fun _=>⟨_,rfl⟩,fun y i=>by cases zk.1 i;exact k⟩
 |alts a=>exact⟨r,0,fun m _=>by simp only[step1,c,we,Jm,a,s],q,j⟩
 |@call g args l M a p=>exact⟨r,M,fun m d=>by simp only[step1,c,we,Jm,a,p m d,s],q,j⟩
 |@round b ls f l M a p=>exact⟨r,M,fun m d=>by simp only[step1,c,we,Jm,a,p m d,s],q,j⟩
theorem bV{T:Ce}{h:H}{s d:TypeId}{b off:Nat}:Gy T h s d (.ptr b off)=none:=by
 unfold Gy;split<;>first|rfl|(rename_i e;cases e)
theorem fW(hr:Rel B h0 F ρ st fr h){o:Oper}{v:PV}(a:AaQ X.C.T st o.op=some v):OK B h0 F ρ st h [] (Jm X.C fr h o) v st:=by
 have fin:∀ {s d:TypeId} {x:Operand} {b off:Nat} {u:V},o.op=.convert s d x->ev X.C fr x=some (.ptr b off)->Bc X.C.T h s d (.ptr b off)=some u->PR F ρ st.nx v u->OK B h0 F ρ st h [] (Jm X.C fr h o) v st:=by
  intro s d x b off u f j g A;have l:GN X.C fr h o=none:=by
   rw[Dc];unfold He;rw[f];simp only[j,bV];rfl
  refine zg hr.sr (v':=u) ?_ A;unfold Jm;rw[l,f];simp only[j,g]
 unfold AaQ at a;split at a
 case h_2=>cases a
 rename_i s d x f;split at a
 case h_3=>cases a
 case h_1=>
  rename_i t id off q p m;split at a
  case h_2=>cases a
  rename_i i tb cs r w;cases c:(zr 0 i.size&&zr off (Det.ET cs))with
  |false=>rw[c]at a;cases a
  |true=>
   rw[c]at a;cases a;obtain⟨y,j,g⟩:=Ct (C:=X.C) hr.fp m;obtain⟨b,n,z,k1,k2,⟨bs,fz,rfl,k4,_⟩,_⟩:=hr.sr.at w;have k:=g;simp only[PR]at k;obtain rfl:=k.2 b n k1;refine fin f j ?_ g;unfold Bc;rw[q,p];simp only[r,k2];rw[Da,k4.len]at c;rw[c];rfl
 case h_2=>
  rename_i u id off q p m;split at a
  case h_2=>cases a
  rename_i i e cs r w;cases c:(zr 0 i.size&&zl i.size (Det.ET cs)&&zf e u&&zf off 0)with
  |false=>rw[c]at a;cases a
  |true=>
   rw[c]at a;cases a;obtain⟨y,j,g⟩:=Ct (C:=X.C) hr.fp m;obtain⟨b,n,z,k1,k2,⟨bs,fz,rfl,k4,_⟩,_⟩:=hr.sr.at w;have k:=g;simp only[PR]at k;obtain rfl:=k.2 b n k1;have h0:off=0:=by
    simp only[zc]at c;exact zd c.2
   subst h0;refine fin f j (u:=.ptr b 0) ?_ g;unfold Bc;rw[q,p];simp only[r,k2];rw[Da,k4.len]at c;rw[c];rfl
theorem U6(hr:Rel B h0 F ρ st fr h){o:Oper}{v:PV}{c:AM}(a:Tj X.C.T st o.op=some (v,c)):OK B h0 F ρ st h [] (Jm X.C fr h o) v c:=by
 unfold Tj at a;split at a
 case h_2=>cases a
 rename_i s d x g;split at a
 case h_2=>cases a
 rename_i e l p k i;split at a
 case h_2=>cases a
 rename_i u;cases a;obtain⟨y,t,w⟩:=Ct (C:=X.C) hr.fp i;obtain rfl:=FL w;have f:GN X.C fr h o=none:=by
  rw[Dc];unfold He;rw[g];simp only[t,Gy,p,k];rfl
 have i:Jm X.C fr h o=FI (some (.sl h.nx 0 l.length l.length 1,h.push<|.cells (l.map fun b=>.int .u8<|.ofNat b.toNat) e (0,0))):=by
  have q:Bc X.C.T h s d (.str l)=none:=by unfold Bc;rw[p,k]
  unfold Jm;rw[f,g];simp only[t,q,Tv,p,k,u]
 rw[i];refine OK.new hr.sr (o:=.arr false e (.int .u8)<|l.map fun b=>(b.toNat:Int)) (n:=l.length) rfl ⟨l.map fun b=>y7 .u8<|.ofNat b.toNat,(0,0),rfl,⟨by simp[Sh.sz],fun j z=>?_⟩,ze _,by simp⟩ ?_
 ·have r:j<l.length:=by simpa using z
  have A:((l.map fun b=>y7 .u8<|.ofNat b.toNat).drop<|j*1).take 1=[y7 .u8<|.ofNat (l[j]).toNat]:=by
   rw[ym,zw<|by simpa using r];simp
  show DC _ (.int .u8) _<|((l.map fun b=>y7 .u8<|.ofNat b.toNat).drop<|j*1).take 1;rw[A];simp[DC]
 ·unfold PR;refine⟨zz _,fun b m a=>.inl ⟨ze _,?_,1,.inr rfl,?_⟩⟩
  ·simp[B0]at a;show 0+l.length<=m;omega
  ·simp[B0]at a;rw[<-a.1];simp
theorem X4(hr:Rel B h0 F ρ st fr h){o:Oper}{v:PV}{b:AM}(a:Yi X.C.T st o.op=some (v,b)):OK B h0 F ρ st h [] (Jm X.C fr h o) v b:=by
 unfold Yi at a;split at a
 case h_1=>rename_i r c;cases a;exact U6 hr c
 case h_2=>
  split at a
  case h_2=>cases a
  rename_i u d;cases a;exact fW hr d
theorem WL{nd:Bool}{call:Gz}(p:FJ B h0 X nd call){ops:Array Oper}:∀ {l:List Oper} {n:Nat} {st:AM} {F:Fz} {ρ:Ey} {fr:Fr} {h:H} {k:AM->Tr},Rel B h0 F ρ st fr h->Ev X Q n (prun X.C.T call ops l st k)->
  ∃r M,(∀m,M<=m->Ug X.C (Bp X.C m) ops l fr h=some r)/\(nd=false->∃x,r=[x])/\∀x∈r,∃n',n'<=n/\∃c,Ev X Q n' (k c)/\∃F' ρ',Dx B h0 F ρ st.nx h c x.1 x.2 F' ρ'
 |[],n,st,F,ρ,fr,h,k,hr,g=>⟨[(fr,h)],0,fun _ _=>rfl,fun _=>⟨_,rfl⟩,fun x hx=>by cases zk.1 hx;exact⟨n,ze _,st,g,F,ρ,Dx.refl hr⟩⟩
 |o::i,n,st,F,ρ,fr,h,k,hr,g=>by
  unfold prun at g;obtain⟨c,j,e1,e2,D⟩:=NM hr g;have fin:∀ {l:List (Fr×H)},(∃M,∀m,M<=m->step1 X.C (Bp X.C m) ops o fr h=some l)->(nd=false->∃x,l=[x])->
    (∀y∈l,∃n',n'<=n/\∃a,Ev X Q n' (prun X.C.T call ops i a k)/\∃F' ρ',Dx B h0 F ρ st.nx h a y.1 y.2 F' ρ')->
    ∃r M,(∀m,M<=m->Ug X.C (Bp X.C m) ops (o::i) fr h=some r)/\(nd=false->∃x,r=[x])/\∀x∈r,∃n',n'<=n/\∃c,Ev X Q n' (k c)/\∃F' ρ',Dx B h0 F ρ st.nx h c x.1 x.2 F' ρ':=by
   rintro l ⟨M1,hM1⟩ G hl;obtain⟨r,M,I,L,K⟩:=LR (f:=fun m _ (x:Fr×H)=>Ug X.C (Bp X.C m) ops i x.1 x.2) (P:=fun x=>∃n',n'<=n/\∃c,Ev X Q n' (k c)/\∃F' ρ',Dx B h0 F ρ st.nx h c x.1 x.2 F' ρ') G fun y J=>by
    obtain⟨n1,q,a,E,F1,R,b⟩:=hl y J;obtain⟨r,M,I,K,L⟩:=WL p b.rel E;refine⟨r,M,fun m hm _ _=>I m hm,K,fun z hz=>?_⟩;obtain⟨n2,hn2,st3,he3,F2,ρ2,hwent2⟩:=L z hz;exact⟨n2,yt hn2 q,st3,he3,F2,ρ2,b.trans hwent2⟩
   refine⟨r,max M M1,fun m hm=>?_,L,K⟩;simp only[Ug,hM1 m ae];exact I m ae m ae
  rcases D with⟨V,g⟩|⟨V,g⟩
  ·unfold zC at g;split at g
   case h_1=>
    rename_i v A hb;split at g
    case h_2=>exact wh g Ev.AH
    rename_i a d;obtain⟨v',h',F',ρ',w,W,g3,Y,g5,g6,g7,g8⟩:=X4 j hb;have hrs:Rel B h0 F' ρ' A fr h':=⟨⟨by rw[g6];exact j.fp.n,fun t=>by
     have:A.get t=c.get t:=by unfold AM.get;rw[g5]
     rw[this];exact(j.fp.slot t).mono Y⟩,g3⟩
    have Z:∃u,PR F' ρ' A.nx v u/\∀fr',fr.put o.dst u=some fr'->∀m,step1 X.C (Bp X.C m) ops o fr h=some [(fr',h')]:=by
     rcases w with w|⟨w,rfl⟩
     ·exact⟨v',W,fun fr' O m=>by simp only[step1,V,we,w,O]⟩
     ·exact⟨.tup [],W,fun fr' O m=>by simp only[step1,V,we,w,O]⟩
    obtain⟨u,hu,DU⟩:=Z;obtain⟨fr',O,k2,k3,k4⟩:=hrs.put hu d;refine fin (l:=[(fr',h')]) ⟨0,fun m _=>DU fr' O m⟩ (fun _=>⟨_,rfl⟩) fun y J=>?_
    cases zk.1 J;exact⟨n,ze _,a,g,F',ρ',k2,by rw[k3, <-e1];exact Y,g7⟩
   obtain⟨l,U,hnd,S⟩:=HP p j g;obtain⟨r,M,I,K,L⟩:=U.Afp (ops:=ops) (P:=fun y=>∃n',n'<=n/\∃a,Ev X Q n' (prun X.C.T call ops i a k)/\∃F' ρ',Dx B h0 F ρ st.nx h a y.1 y.2 F' ρ') V fun x hx=>by
    obtain⟨n1,q,a,E,F1,R,s,d,b,_⟩:=S x hx;rw[e1]at b;exact⟨s,d,n1,q,a,E,F1,R,b⟩
   exact fin ⟨M,I⟩ (fun e=>K (hnd.1 e).1) L
  ·unfold Ni at g;split at g
   case h_2=>exact wh g Ev.AH
   rename_i a d;obtain⟨s,w,W,g3,Y⟩:=j.put (x:=.tup []) (by simp[PR]) d;refine fin (l:=[(s,h)]) ⟨0,fun m _=>by simp only[step1,V,wg,w]⟩ (fun _=>⟨_,rfl⟩) fun y J=>?_
   cases zk.1 J;exact⟨n,ze _,a,g,F,ρ,W,by rw[g3,e1];exact yf,ze _⟩
end
end Go.Pe
