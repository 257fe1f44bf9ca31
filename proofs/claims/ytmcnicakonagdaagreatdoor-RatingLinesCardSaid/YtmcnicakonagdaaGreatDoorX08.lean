import Derived.Test.YtmcnicakonagdaaGreatDoorX07
/- A part of a proof (no law is stated here). Made by program out of texts by AI agents. -/
noncomputable section
open Bool renaming and_eq_true -> zc, and_self -> yr, or_true -> y7
open Nat renaming eq_of_beq_eq_true -> zd, le_refl -> ze, beq -> zf, mul_le_mul_right -> zh, ble_eq_true_of_le -> zi, ble -> zl, add_mul -> zp, blt -> zr, succ_mul -> zt, zero_mul -> zu, lt_succ_self -> zz, beq_refl -> z7, min_eq_left -> ye, sub_self -> yk, mul_one -> yn, le_trans -> yu, add_assoc -> yy, add_comm -> yz
open Go.Pe.OK renaming pure -> zg
open Option.some renaming injEq -> zj
open List renaming mem_singleton -> zk, replicate -> zn, length_eq_zero_iff -> zo, drop_eq_getElem_cons -> zw, replicate_succ -> zx, all_eq_true -> z6, length_replicate -> ya, getElem?_append_right -> yb, getElem?_append_left -> yc, length_nil -> yd, drop_zero -> yg, getElem?_range -> yj, flatten_cons -> yo, ext_getElem? -> yp, getElem?_map -> yq, getElem_cons_zero -> yv, take_of_length_le -> yw, length_map -> yx
open Option renaming map_eq_some_iff -> zm, map_some -> zq, getD_some -> yh
open Int renaming ofNat -> zy, eq_ofNat_of_zero_le -> yt
open Prod.mk renaming injEq -> z8
open Go.Pe.Le renaming refl -> yf
open List.cons renaming injEq -> yi
open Go.Det.V renaming int -> y8
open Go.Pe renaming B5 -> y9
namespace Go.Pe
open Go.Det
section
variable {B:Nat}{h0:H0}{F:Fz}{ρ:D2}{N:Nat}{C:Ctx}{st st':AJ}{fr:Fr}{h:H}
theorem SR.live(hr:SR B h0 F ρ st.nx st.ob h){id:Nat}(hi:HR (st.obj id)=true):∃b n,ρ id=some (b,n):=by
 obtain⟨o,ho⟩:=HU hi;obtain⟨b,n,_,h1,_⟩:=hr.at ho;exact⟨b,n,h1⟩
theorem Ds{i:Int}(h:0<=i):∃n:Nat,i=zy n/\i.toNat=n:=⟨i.toNat,(Int.toNat_of_nonneg h).symm,rfl⟩
theorem Dz{a b:Nat}(h:a<b):zr a b=true:=zi h
theorem eG(hr:SR B h0 F ρ st.nx st.ob h){t:TypeId}{p q:PV}{x y:V}(hx:PR F ρ st.nx p x)(hy:PR F ρ st.nx q y){v:PV}(ht:(SN C.T t p q st).To v st'):
  OK B h0 F ρ st h [] (Bw h (CY C.T t x y)) v st':=by
 unfold SN at ht;split at ht
 case h_3=>simp at ht
 case h_2=>
  rename_i alen e k i hu;obtain rfl:=CG hy;split at ht
  case h_2=>simp at ht
  rename_i ti hti;split at ht
  case h_4=>simp at ht
  case h_1=>
   rename_i id off;simp only[PR]at hx;split at ht
   case h_3=>exact wh ht (by simp)
   case h_1=>
    rename_i fzb te s l ho;cases hcc:(zf off 0&&zf ti.size s.sz)with
    |false=>rw[hcc]at ht;simp at ht
    |true=>
     rw[hcc]at ht;rw[zc]at hcc;have hoff:=zd hcc.1;have hs1:=zd hcc.2;subst hoff;simp only[we,BI,zc,w5]at ht;obtain⟨⟨hi0,hi1⟩,rfl,rfl⟩:=ht;obtain⟨n,rfl,hn⟩:=Ds hi0;have hlt:n<alen:=by simp at hi1;exact hi1
     obtain⟨b,m,_,h1,_⟩:=hr.at ho;obtain rfl:=hx.2 b m h1;refine zg hr (v':=.ptr b (0+n*ti.size)) ?_ ?_
     ·show Bw h (CY C.T t (.ptr b 0) (.int k (zy n)))=_;simp only[CY,hu,hti,Dz hlt,we,Bw]
     ·simp only[PR];refine⟨hx.1,fun b' n' hb=>?_⟩;rw[h1]at hb;cases hb;rw[hn,hs1,Nat.zero_add];rfl
   case h_2=>
    rename_i o _ ho;simp only[BI,zc,w5]at ht;obtain⟨⟨hi0,hi1⟩,rfl,rfl⟩:=ht;obtain⟨n,rfl,hn⟩:=Ds hi0;have hlt:n<alen:=by simp at hi1;exact hi1
    obtain⟨b,m,_,h1,_⟩:=hr.at ho;obtain rfl:=hx.2 b m h1;refine zg hr (v':=.ptr b (off+n*ti.size)) ?_ ?_
    ·show Bw h (CY C.T t (.ptr b off) (.int k (zy n)))=_;simp only[CY,hu,hti,Dz hlt,we,Bw]
    ·simp only[PR];refine⟨hx.1,fun b' n' hb=>?_⟩;rw[h1]at hb;cases hb;rw[hn];rfl
  case h_2=>
   rename_i id sz j off;cases hl:HR (st.obj id)with
   |false=>rw[hl]at ht;simp at ht
   |true=>
    rw[hl]at ht;simp only[we,BI,zc,w5]at ht;obtain⟨⟨hi0,hi1⟩,rfl,rfl⟩:=ht;obtain⟨n,rfl,hn⟩:=Ds hi0;have hlt:n<alen:=by simp at hi1;exact hi1
    obtain⟨b,m,h1⟩:=hr.live hl;simp only[PR]at hx;obtain rfl:=hx.2 b m h1;refine zg hr (v':=.ptr b (j*sz+off+n*ti.size)) ?_ ?_
    ·show Bw h (CY C.T t (.ptr b (j*sz+off)) (.int k (zy n)))=_;simp only[CY,hu,hti,Dz hlt,we,Bw]
    ·simp only[PR];refine⟨hx.1,fun b' n' hb=>?_⟩;rw[h1]at hb;cases hb;rw[hn,yy];rfl
  case h_3=>
   rename_i s y off;simp only[BI,zc,w5]at ht;obtain⟨⟨hi0,hi1⟩,rfl,rfl⟩:=ht;obtain⟨n,rfl,hn⟩:=Ds hi0;have hlt:n<alen:=by simp at hi1;exact hi1
   simp only[PR]at hx;obtain⟨b,o,cs,rfl,h1,h2,h3⟩:=hx;refine zg hr (v':=.ptr b (o+off+n*ti.size)) ?_ ?_
   ·show Bw h (CY C.T t (.ptr b (o+off)) (.int k (zy n)))=_;simp only[CY,hu,hti,Dz hlt,we,Bw]
   ·simp only[PR];refine⟨b,o,cs,?_,h1,h2,h3⟩;rw[hn,yy];rfl
 case h_1=>
 rename_i e k i hu;obtain rfl:=CG hy;split at ht
 case h_2=>simp at ht
 rename_i ti hti;split at ht
 case h_3=>simp at ht
 case h_1=>
  rename_i s l;cases hz:zf ti.size s.sz with
  |false=>rw[hz]at ht;simp at ht
  |true=>
   rw[hz]at ht;have hz:=zd hz;simp only[we,BI,zc,w5]at ht;obtain⟨⟨hi0,hi1⟩,rfl,rfl⟩:=ht;obtain⟨n,rfl,hn⟩:=Ds hi0;have hlt:n<l.length:=by simp at hi1;exact hi1
   simp only[PR,DC]at hx;obtain⟨u,hu1,hx⟩:=hx;obtain rfl:x=u:=by simpa using hu1
   rcases hx with⟨rfl,_⟩|⟨b,off,cap,o,bs,rfl,h1,h2,h3,_,h4⟩
   ·simp at hlt
   ·refine zg hr (v':=.ptr b (off+n*ti.size)) ?_ ?_
    ·show Bw h (CY C.T t (.sl b off l.length cap o) (.int k (zy n)))=_;simp only[CY,hu,hti,Dz hlt,we,Bw]
    ·simp only[PR];refine⟨b,off+n*s.sz,bs,by rw[hz];rfl,h2,?_,?_⟩
     ·have:(n+1)*s.sz<=l.length*s.sz:=zh _ hlt;rw[zt]at this;omega
     ·have:=h4 n hlt;rw[hn,show l.getD n s.GN=l[n]from by simp[hlt]];exact this
 case h_2=>
  rename_i id sz off len cap;cases hz:(zf ti.size sz&&HR (st.obj id))with
  |false=>rw[hz]at ht;simp at ht
  |true=>
   rw[hz]at ht;simp only[zc]at hz;obtain⟨hz,hl⟩:=hz;have hz:=zd hz;simp only[we,BI,zc,w5]at ht;obtain⟨⟨hi0,hi1⟩,rfl,rfl⟩:=ht;obtain⟨n,rfl,hn⟩:=Ds hi0;have hlt:n<len:=by simp at hi1;exact hi1
   obtain⟨b,m,h1⟩:=hr.live hl;simp only[PR]at hx;rcases hx.2 b m h1 with⟨_,_,o,_,rfl⟩|⟨e0,_⟩
   ·refine zg hr (v':=.ptr b (off*sz+n*ti.size)) ?_ ?_
    ·show Bw h (CY C.T t (.sl b (off*sz) len _ o) (.int k (zy n)))=_;simp only[CY,hu,hti,Dz hlt,we,Bw]
    ·simp only[PR];refine⟨hx.1,fun b' n' hb=>?_⟩;rw[h1]at hb;cases hb;rw[hz,hn];show V.ptr b (off*sz+n*sz)=.ptr b ((n+off)*sz+0);rw[zp,yz (n*sz)];rfl
   ·omega
theorem mJ(hr:SR B h0 F ρ st.nx st.ob h){t:TypeId}{p q:PV}{x y:V}(hx:PR F ρ st.nx p x)(hy:PR F ρ st.nx q y){v:PV}(ht:(Wp C.T t p q st).To v st'):
  OK B h0 F ρ st h [] (Bw h (Hj C.T t x y)) v st':=by
 unfold Wp at ht;split at ht
 case h_3=>simp at ht
 case h_2=>
  rename_i alen e ps k i hu;obtain rfl:=CG hy;split at ht
  case h_2=>simp at ht
  rename_i d ti hd hti;simp only[N0,zc,w5]at ht;obtain⟨⟨hi0,hi1⟩,hpk,rfl⟩:=ht;obtain⟨n,rfl,hn⟩:=Ds hi0;have hlt:n<alen:=by simp at hi1;exact hi1
  simp only[PR]at hx;obtain⟨cs,rfl,hps⟩:=hx;rw[Lx,hn]at hpk;have hp:=hps.drop (n*ti.size);have hdx:Hj C.T t (.agg cs) (.int k (zy n))=Li C.T e cs (n*ti.size):=by simp only[Hj,hu,hti,Dz hlt,we]
  rcases Kk hp hpk with⟨ha,_,_,hv⟩|⟨ha,u,us,e',hv⟩
  ·exact zg hr (by rw[hdx];simp only[Li,hd,hti,ha,we,Bw]) hv
  ·have:cs[n*ti.size]?=some u:=by
    have:=wi (·[0]?) e';simpa using this
   exact zg hr (by rw[hdx];simp only[Li,hd,hti,ha,wg,this,Bw]) hv
 case h_1=>
 rename_i s k i hu;obtain rfl:=ER hx;obtain rfl:=CG hy;simp only[BI,zc,w5]at ht;obtain⟨⟨hi0,hi1⟩,rfl,rfl⟩:=ht;obtain⟨n,rfl,hn⟩:=Ds hi0;have hlt:n<List.length s:=by simp at hi1;exact hi1
 have hg:(s:List UInt8)[n]?=some (s:List UInt8)[n]:=List.getElem?_eq_getElem hlt;refine zg hr (v':=.int .u8 ((s:List UInt8)[n].toNat:Int)) ?_ ?_
 ·show Bw h (Hj C.T t (.str s) (.int k (zy n)))=_;simp only[Hj,hu,hg,Bw]
 ·rw[hn,show List.getD (s:List UInt8) n 0=(s:List UInt8)[n]from by simp[hlt]];exact C6 _ _
theorem Yv(hr:SR B h0 F ρ st.nx st.ob h){p:PV}{x:V}(hx:PR F ρ st.nx p x){i:Nat}{v:PV}(ht:(Pw p i st).To v st'):OK B h0 F ρ st h [] (Bw h (GX x i)) v st':=by
 unfold Pw at ht;split at ht
 case h_2=>simp at ht
 rename_i ps;split at ht
 case h_2=>simp at ht
 rename_i q hq;simp only[AR]at ht;obtain⟨rfl,rfl⟩:=ht;simp only[PR]at hx;obtain⟨cs,rfl,hps⟩:=hx;obtain⟨u,h1,h2⟩:=hps.get hq;exact zg hr (by simp only[GX,h1,Bw]) h2
def SW(F:Fz)(ρ:D2)(N:Nat):Option PV->Option V->Prop
 |none,x=>x=none
 |some p,x=>∃v,x=some v/\PR F ρ N p v
theorem DI{o:Option PV}{x:Option V}{d:Nat}{c:Bool}{n:Nat}(hx:SW F ρ N o x)(hp:pb o d=some (c,n))(hc:c=true){y:Nat}(hy:n<=y):G8 x y d=some n:=by
 unfold pb at hp;split at hp
 ·cases hp;simp only[SW]at hx;subst hx;rfl
 ·cases hp;simp only[SW]at hx;obtain⟨v,rfl,hv⟩:=hx;obtain rfl:=CG hv;simp only[w5]at hc;obtain⟨m,rfl,hm⟩:=Ds hc;rw[hm]at hy;show(bif zl m y then some m else none)=_;rw[zi hy,hm];rfl
 ·cases hp
theorem SW.isNone{o:Option PV}{x:Option V}(hx:SW F ρ N o x):(o=none↔x=none):=by
 cases o with
 |none=>simp only[SW]at hx;simp[hx]
 |some p=>simp only[SW]at hx;obtain⟨v,rfl,_⟩:=hx;simp
theorem LL{T:BW}{t e:TypeId}{ti:TI}{b off len cap o m hh l:Nat}{lo hi mx:Option V}(hu:T.und t=some (.slice e))(hti:T.inf e=some ti)(hm:G8 mx cap cap=some m)(hb:G8 hi m len=some hh)
  (hl:G8 lo hh 0=some l) (hno:hi=none->mx=none):
  Dq T t (.sl b off len cap o) lo hi mx=bif zf m l then(bif zf (Jv mx o) 0 then some (.sl b off (hh-l) (m-l) 0)else some .esl)
   else bif zf (Jv mx o) 0||zf (Jv mx o) ti.size then some (.sl b (off+l*ti.size) (hh-l) (m-l) (Jv mx o))else none:=by
 cases hi with
 |some x=>cases mx<;>simp only[Dq,hu,hti,hm,hb,hl]
 |none=>
  cases hno rfl;simp only[Dq,hu,hti,hm,hb,hl]
theorem fS(hr:SR B h0 F ρ st.nx st.ob h){t:TypeId}{p:PV}{x:V}{lo hi mx:Option PV}{a b c:Option V}(hx:PR F ρ st.nx p x)(hlo:SW F ρ st.nx lo a)(hhi:SW F ρ st.nx hi b)(hmx:SW F ρ st.nx mx c)
  {v:PV} (ht:(SI C.T t p lo hi mx st).To v st'):OK B h0 F ρ st h [] (Bw h (Dq C.T t x a b c)) v st':=by
 unfold SI at ht;split at ht
 case h_3=>simp at ht
 case h_1=>
  rename_i hu;split at ht
  case h_2=>simp at ht
  rename_i s;obtain rfl:=ER hx;split at ht
  case h_2=>simp at ht
  rename_i c1 l c2 hh hb1 hb2;simp only[BI,zc,w5]at ht;obtain⟨⟨⟨⟨k1,k2⟩,k3⟩,k4⟩,rfl,rfl⟩:=ht;simp only[SW]at hmx;subst hmx;have e1:=DI hlo hb1 k1 k3;have e2:=DI hhi hb2 k2 k4;exact zg hr (by simp only[Dq,hu,e1,e2,Bw];rfl) (J2 _)
 case h_2=>
  rename_i e hu;split at ht
  case h_2=>simp at ht
  rename_i ti hti;split at ht
  case h_4=>simp at ht
  case h_1=>
   rename_i s xs;cases hz:zf ti.size s.sz with
   |false=>rw[hz]at ht;simp at ht
   |true=>
    rw[hz]at ht;have hz:=zd hz;simp only[we]at ht;split at ht
    case h_2=>simp at ht
    rename_i c1 l c2 hh hb1 hb2;simp only[BI,zc,w5]at ht;obtain⟨⟨⟨⟨k1,k2⟩,k3⟩,k4⟩,rfl,rfl⟩:=ht;simp only[SW]at hmx;subst hmx;have e1:=DI hlo hb1 k1 k3;simp only[PR,DC]at hx;obtain⟨u,hu1,hx⟩:=hx;obtain rfl:x=u:=by simpa using hu1
    rcases hx with⟨rfl,rfl|rfl|rfl⟩|⟨bb,off,cap,o,bs,rfl,h1,h2,h3,h5,h4⟩
    ·have e2:=DI hhi hb2 k2 k4;simp only[yd]at e2 k4;refine zg hr (v':=.nils) (by simp only[Dq,hu,show G8 none 0 0=some 0 from rfl,show hO b none=G8 b 0 0 from by cases b<;>rfl,e1,e2,hti,Bw]) ?_;simp[PR,DC]
    ·have e2:=DI hhi hb2 k2 k4;simp only[yd]at e2 k4;refine zg hr (v':=.esl) (by simp only[Dq,hu,show G8 none 0 0=some 0 from rfl,show hO b none=G8 b 0 0 from by cases b<;>rfl,e1,e2,hti,Bw,P0,wg]) ?_;simp[PR,DC]
    ·have e2:=DI hhi hb2 k2 k4;simp only[yd]at e2 k4;refine zg hr (v':=.es0) (by simp only[Dq,hu,show G8 none 0 0=some 0 from rfl,show hO b none=G8 b 0 0 from by cases b<;>rfl,e1,e2,hti,Bw]) ?_;simp[PR,DC]
    ·have e2:G8 b cap xs.length=some hh:=DI hhi hb2 k2 (yu k4 h1);have hds:=LL (b:=bb) (off:=off) (len:=xs.length) (cap:=cap) (o:=o) (mx:=none) hu hti rfl e2 e1 (fun _=>rfl);have hlen:((xs.drop l).take (Nat.sub hh l)).length=hh-l:=by
      have:Nat.sub hh l=hh-l:=rfl;rw[this];simp;omega
     by_cases hcl:cap=l
     ·have hhl:hh=l:=by omega
      have hemp:(xs.drop l).take (Nat.sub hh l)=[]:=by
       apply List.eq_nil_of_length_eq_zero;rw[hlen];omega
      rw[hemp];by_cases ho:o=0
      ·refine zg hr (v':=.sl bb off (hh-l) (cap-l) 0) ?_ ?_
       ·have:Jv none o=0:=ho;rw[hds,this,hcl,z7];rfl
       ·simp only[PR,DC];exact⟨_,rfl,.inr ⟨bb,off,cap-l,0,bs,by simp[hhl],by simp,h2,by simp;omega,.inl rfl,fun i hi=>by simp at hi⟩⟩
      ·refine zg hr (v':=.esl) ?_ ?_
       ·have h1:zf (Jv none o) 0=false:=by rw[Bn];simp[Jv,ho]
        rw[hds,h1,hcl,z7];rfl
       ·simp[PR,DC]
     ·refine zg hr (v':=.sl bb (off+l*ti.size) (hh-l) (cap-l) o) ?_ ?_
      ·have hb1:zf cap l=false:=by rw[Bn];simp[hcl]
       have ho:(zf (Jv none o) 0||zf (Jv none o) ti.size)=true:=by
        rcases h5 with rfl|rfl
        ·rfl
        ·rw[hz];show(zf s.sz 0||zf s.sz s.sz)=true;rw[z7,y7]
       rw[hds,hb1,ho];rfl
      ·simp only[PR,DC];refine⟨_,rfl,.inr ⟨bb,off+l*ti.size,cap-l,o,bs,by rw[hlen],by rw[hlen];omega,h2,?_,h5,fun i hi=>?_⟩⟩
       ·rw[hlen,hz];have:(l+(hh-l))*s.sz<=xs.length*s.sz:=zh _ (by omega);rw[zp]at this;omega
       ·rw[hlen]at hi;have hi2:l+i<xs.length:=by omega
        have:=h4 (l+i) hi2;rw[List.getElem_take,List.getElem_drop,hz];rw[zp, <-yy]at this;exact this
  case h_2=>
   rename_i id sz off len cap;cases hz:(zf ti.size sz&&HR (st.obj id))with
   |false=>rw[hz]at ht;simp at ht
   |true=>
    rw[hz]at ht;simp only[zc]at hz;obtain⟨hz,hl⟩:=hz;have hz:=zd hz;simp only[we]at ht;have hno:¬(hi=none/\mx≠none):=by
     rintro⟨rfl,hm⟩;cases mx with
     |none=>exact hm rfl
     |some _=>simp at ht
    split at ht
    case h_1=>simp at ht
    split at ht
    case h_2=>simp at ht
    rename_i c1 l c2 hh c3 m hb1 hb2 hb3;simp only[BI,zc,w5]at ht;obtain⟨⟨⟨⟨⟨⟨⟨k1,k2⟩,k3⟩,k4⟩,k5⟩,k6⟩,k7⟩,rfl,rfl⟩:=ht;have e1:=DI hlo hb1 k1 k4;have e3:=DI hmx hb3 k3 k6;have e2:=DI hhi hb2 k2 k5;have hno':b=none->c=none:=by
     intro hbn;cases hcc:c with
     |none=>rfl
     |some z=>
      exfalso;apply hno;exact⟨hhi.isNone.2 hbn,fun e=>by have:=hmx.isNone.1 e;rw[this]at hcc;cases hcc⟩
    obtain⟨b0,n0,h1⟩:=hr.live hl;simp only[PR]at hx;rcases hx.2 b0 n0 h1 with⟨g1,g2,o,g3,rfl⟩|⟨rfl,rfl,g2,g3⟩
    ·have hds:=LL (b:=b0) (off:=off*sz) (len:=len) (cap:=cap.getD len) (o:=o) hu hti e3 e2 e1 hno';have hoz:Jv c o=0\/Jv c o=sz:=by
      unfold Jv;cases c with
      |none=>exact g3
      |some _=>exact .inl rfl
     by_cases hml:m=l
     ·have hhl:hh-l=0:=by omega
      by_cases ho:Jv c o=0
      ·refine zg hr (v':=.sl b0 (off*sz) (hh-l) (m-l) 0) ?_ ?_
       ·rw[hds,ho,hml,z7];rfl
       ·unfold PR;refine⟨hx.1,fun b' n' hb=>.inr ?_⟩;rw[h1]at hb;cases hb;refine⟨hhl,?_,?_,.inr ⟨off*sz,by rw[hhl,hml,yk],zh _ (Nat.le_add_right _ _)⟩⟩
        ·show some (m-l)=some 0;rw[hml,yk]
        ·show off+l<=n0;omega
      ·refine zg hr (v':=.esl) ?_ ?_
       ·have hb0:zf (Jv c o) 0=false:=by rw[Bn];simp[ho]
        rw[hds,hb0,hml,z7];rfl
       ·unfold PR;refine⟨hx.1,fun b' n' hb=>.inr ?_⟩;rw[h1]at hb;cases hb;refine⟨hhl,?_,?_,.inl rfl⟩
        ·show some (m-l)=some 0;rw[hml,yk]
        ·show off+l<=n0;omega
     ·refine zg hr (v':=.sl b0 (off*sz+l*ti.size) (hh-l) (m-l) (Jv c o)) ?_ ?_
      ·have hb1:zf m l=false:=by rw[Bn];simp[hml]
       have ho:(zf (Jv c o) 0||zf (Jv c o) ti.size)=true:=by
        rcases hoz with e|e
        ·rw[e];rfl
        ·rw[e,hz,z7,y7]
       rw[hds,hb1,ho];rfl
      ·unfold PR;refine⟨hx.1,fun b' n' hb=>.inl ?_⟩;rw[h1]at hb;cases hb;refine⟨?_,?_,Jv c o,hoz,?_⟩
       ·show hh-l<=m-l;omega
       ·show off+l+(m-l)<=n0;omega
       ·show V.sl b0 (off*sz+l*ti.size) (hh-l) (m-l) (Jv c o)=.sl b0 ((off+l)*sz) (hh-l) (m-l) (Jv c o);rw[hz,zp]
    ·simp only[yh]at k6 k7 e3;obtain rfl:m=0:=by omega
     obtain rfl:hh=0:=by omega
     obtain rfl:l=0:=by omega
     have hc:c=none:=by
      cases mx with
      |none=>exact hmx
      |some _=>simp[has]at k7
     subst hc;rcases g3 with rfl|⟨off',rfl,g4⟩
     ·refine zg hr (v':=.esl) (by simp only[Dq,hu,hti,show G8 none 0 0=some 0 from rfl,show hO b none=G8 b 0 0 from by cases b<;>rfl,e2,e1,Bw,P0,wg]) ?_;unfold PR;exact⟨hx.1,fun b' n' hb=>.inr ⟨by rfl,by rfl,by rw[h1]at hb;cases hb;exact g2,.inl rfl⟩⟩
     ·refine zg hr (v':=.sl b0 off' 0 0 0) ?_ ?_
      ·rw[LL (mx:=none) hu hti rfl e2 e1 (fun _=>rfl)];rfl
      ·unfold PR;refine⟨hx.1,fun b' n' hb=>.inr ⟨rfl,rfl,?_,.inr ⟨off',?_,?_⟩⟩⟩
       ·rw[h1]at hb;cases hb;exact g2
       ·rw[h1]at hb;cases hb;rfl
       ·show off'<=(off+0)*sz;exact g4
  case h_3=>
   split at ht
   case h_3=>simp at ht
   case h_2=>
    rename_i c1 l c2 hh q hb1 hb2;split at ht
    case h_2=>simp at ht
    rename_i p' c3 m hb3;simp only[BI,zc,w5]at ht;obtain⟨⟨⟨⟨⟨⟨k1,k2⟩,k5⟩,k3⟩,k4⟩,k6⟩,rfl,rfl⟩:=ht;have e1:=DI hlo hb1 k1 k3;have e2:=DI hhi hb2 k2 (show hh<=0 by omega);have e3:=DI hmx hb3 k5 k6;simp only[PR]at hx;subst hx;cases b with
    |none=>simp[SW]at hhi
    |some b=>exact zg hr (v':=.nils) (by simp only[Dq,hu,e3,show hO (some b) c=G8 (some b) 0 0 from by cases c<;>rfl,e2,e1,hti,Bw]) (by simp[PR])
   rename_i c1 l c2 hh hb1 hb2;simp only[BI,zc,w5]at ht;obtain⟨⟨⟨⟨k1,k2⟩,k3⟩,k4⟩,rfl,rfl⟩:=ht;simp only[SW]at hmx;subst hmx;have e1:=DI hlo hb1 k1 k3;have e2:=DI hhi hb2 k2 k4;simp only[PR]at hx;subst hx;exact zg hr (v':=.nils) (by simp only[Dq,hu,show G8 none 0 0=some 0 from rfl,show hO b none=G8 b 0 0 from by cases b<;>rfl,e1,e2,hti,Bw]) (by simp[PR])
theorem oG(hr:SR B h0 F ρ st.nx st.ob h){t:TypeId}{p q:PV}{x y:V}(hx:PR F ρ st.nx p x)(hy:PR F ρ st.nx q y){v:PV}(ht:(bY C.T t p q st).To v st'):
  OK B h0 F ρ st h [] (Bw h (CY C.T t x y)) v st':=eG hr hx.lz hy ht
theorem pO(hr:SR B h0 F ρ st.nx st.ob h){t:TypeId}{p:PV}{x:V}{lo hi mx:Option PV}{a b c:Option V}(hx:PR F ρ st.nx p x)(hlo:SW F ρ st.nx lo a)(hhi:SW F ρ st.nx hi b)(hmx:SW F ρ st.nx mx c)
  {v:PV} (ht:(fF C.T t p lo hi mx st).To v st'):OK B h0 F ρ st h [] (Bw h (Dq C.T t x a b c)) v st':=fS hr hx.lz hlo hhi hmx ht
theorem MR.len{ks vs:Sh}{l:List (ks.T×vs.T)}{es:List (V×V×Nat)}(h:MR F ks vs l es):l.length=es.length:=by
 induction h with
 |nil=>rfl
 |cons _ _ _ ih=>simp[ih]
theorem tI(hr:SR B h0 F ρ st.nx st.ob h){ts:Array TypeId}{ps:List PV}{xs:List V}(hx:Bb F ρ st.nx ps xs){v:PV}(ht:(TB C.T ts ps st).To v st'):OK B h0 F ρ st h [] (Bw h (FH C.T h ts xs)) v st':=by
 unfold TB at ht;split at ht
 case h_2=>simp at ht
 rename_i t p hts;simp only[Bb]at hx;obtain⟨x,xs',rfl,hx,rfl⟩:=hx;split at ht
 case h_6=>simp at ht
 case h_1=>
  rename_i s hu;simp only[AR]at ht;obtain⟨rfl,rfl⟩:=ht;obtain rfl:=ER hx;exact zg hr (by simp only[FH,hts,hu,Bw];rfl) (C6 _ _)
 case h_2=>
  rename_i s l hu;simp only[AR]at ht;obtain⟨rfl,rfl⟩:=ht;simp only[PR,DC]at hx;obtain⟨u,hu1,hx⟩:=hx;obtain rfl:x=u:=by simpa using hu1
  rcases hx with⟨rfl,rfl|rfl|rfl⟩|⟨b,off,cap,o,bs,rfl,_⟩
  ·exact zg hr (by simp only[FH,hts,hu,Bw];rfl) (C6 _ _)
  ·exact zg hr (by simp only[FH,hts,hu,Bw];rfl) (C6 _ _)
  ·exact zg hr (by simp only[FH,hts,hu,Bw];rfl) (C6 _ _)
  ·exact zg hr (by simp only[FH,hts,hu,Bw];rfl) (C6 _ _)
 case h_3=>
  rename_i id sz off len cap hu;cases hl:HR (st.obj id)with
  |false=>rw[hl]at ht;simp at ht
  |true=>
   rw[hl]at ht;simp only[we,AR]at ht;obtain⟨rfl,rfl⟩:=ht;obtain⟨b,n,h1⟩:=hr.live hl;simp only[PR]at hx;rcases hx.2 b n h1 with⟨_,_,o,_,rfl⟩|⟨rfl,_,_,rfl|⟨_,rfl,_⟩⟩
   ·exact zg hr (by simp only[FH,hts,hu,Bw];rfl) (C6 _ _)
   ·exact zg hr (by simp only[FH,hts,hu,Bw];rfl) (C6 _ _)
   ·exact zg hr (by simp only[FH,hts,hu,Bw];rfl) (C6 _ _)
 case h_4=>
  rename_i hu;simp only[AR]at ht;obtain⟨rfl,rfl⟩:=ht;simp only[PR]at hx;subst hx;exact zg hr (by simp only[FH,hts,hu,Bw];rfl) (C6 _ _)
 case h_5=>
  rename_i id hu;split at ht
  case h_2=>simp at ht
  rename_i ks vs l ho;simp only[AR]at ht;obtain⟨rfl,rfl⟩:=ht;obtain⟨b,n,y,h1,h2,⟨es,clk,rfl,h3⟩,_⟩:=hr.at ho;simp only[PR]at hx;obtain rfl:=hx.2 b n h1;have hl:l.length=es.length:=h3.len;refine zg hr (v':=i64 es.length) (by simp only[FH,hts,hu,h2,Bw]) ?_;rw[<-hl];exact C6 _ _
theorem Aak(hr:SR B h0 F ρ st.nx st.ob h){ts:Array TypeId}{ps:List PV}{xs:List V}(hx:Bb F ρ st.nx ps xs){v:PV}(ht:(mF C.T ts ps st).To v st'):OK B h0 F ρ st h [] (Bw h (FH C.T h ts xs)) v st':=tI hr hx.lz ht
theorem zF(hr:SR B h0 F ρ st.nx st.ob h){f:Int->Int->Int}{g:V->V->Option V}(hg:∀k x y,g (.int k x) (.int k y)=some (.int k (f x y))){ps:List PV}{xs:List V}(hx:Bb F ρ st.nx ps xs){v:PV}
  (ht:(Nl f ps st).To v st'):OK B h0 F ρ st h [] (Bw h (FZ g xs)) v st':=by
 have key:∀(ps:List PV) (xs:List V) (k:IntKind) (x z:Int),Bb F ρ st.nx ps xs->zQ f k x ps=some z->dfold g (.int k x) xs=some (.int k z):=by
  intro ps;induction ps with
  |nil=>intro xs k x z hx hz;simp at hx;subst hx;simp only[zQ,zj]at hz;subst hz;rfl
  |cons p ps ih=>
   intro xs k x z hx hz;simp only[Bb]at hx;obtain⟨u,us,rfl,h1,h2⟩:=hx;unfold zQ at hz;split at hz
   case h_1=>rename_i e;cases e
   case h_2=>
    rename_i e;cases e;rename_i k' y;cases hk:(k==k')with
    |false=>rw[hk]at hz;cases hz
    |true=>
     rw[hk]at hz;have hk:=wj.1 hk;subst hk;obtain rfl:=CG h1;simp only[dfold,hg];exact ih us k _ z h2 hz
   case h_3=>cases hz
 unfold Nl at ht;split at ht
 case h_2=>simp at ht
 rename_i k x ys;split at ht
 case h_2=>simp at ht
 rename_i z hz;simp only[AR]at ht;obtain⟨rfl,rfl⟩:=ht;simp only[Bb]at hx;obtain⟨u,us,rfl,h1,h2⟩:=hx;obtain rfl:=CG h1;exact zg hr (v':=.int k z) (by simp only[FZ,key ys us k x z h2 hz,Bw]) (C6 _ _)
theorem OK.new(hr:SR B h0 F ρ st.nx st.ob h){o:Obj}{x:O}{n:Nat}(hf:o.frozen=false)(hx:Yg F (BL ρ st.nx (some (h.nx,n))) (st.nx+1) n o x){v:PV}{v':V}
  (hv:PR F (BL ρ st.nx (some (h.nx,n))) (st.nx+1) v v'):OK B h0 F ρ st h [] (EX (some (v',h.push x))) v (st.push o):=by
 refine⟨v',h.push x,F,_,.inl rfl,hv,hr.push hf hx,Le.new _,rfl,rfl,Nat.le_succ _,fun b hb=>.inl ?_⟩;rw[H.BE,wc (by omega)]
theorem Lt{n:Nat}:PR F (BL ρ N (some (h.nx,n))) (N+1) (.ptr N 0) (.ptr h.nx 0):=by
 unfold PR;exact⟨zz _,fun b m hb=>by simp[BL]at hb;rw[hb.1]⟩
theorem uK{F:Fz}:∀ {s:Sh} {v:V},wS s v=true->DC F s s.GN [v]
 | .bool,.bool b,h=>by
  have:b=false:=by simpa [wS]using h
  subst this;simp[DC,Sh.GN]
 | .int k,.int k' n,h=>by
  unfold wS at h;rw[zc,w5,w5]at h;obtain⟨rfl,rfl⟩:=h;simp[DC,Sh.GN]
theorem nZ{T:BW}{t:TypeId}{s:Sh}{n:Nat}(h:wO T t=some (s,n)):∃i,T.inf t=some i/\n=i.zero.length/\(∀v∈i.zero,wS s v=true)/\s.sz=1:=by
 unfold wO at h;split at h
 case h_2=>cases h
 rename_i i hu hi;split at h
 case h_2=>cases h
 rename_i s' hs;cases hc:(zl 32 (Det.El i.zero)&&Det.KP (wS s') i.zero)with
 |false=>rw[hc]at h;cases h
 |true=>
  rw[hc]at h;cases h;rw[zc,E6]at hc;refine⟨i,hi,CS ..,z6.1 hc.2,?_⟩;unfold zsh at hs;split at hs<;>first|(cases hs;rfl)|cases hs
theorem nE(hr:SR B h0 F ρ st.nx st.ob h){t:TypeId}{v:PV}(ht:(Rk t C.T st).To v st'):OK B h0 F ρ st h [] (EX (GB C.T h t)) v st':=by
 unfold Rk aU at ht;split at ht
 case h_1=>
  rename_i s n hz;simp only[AR]at ht;obtain⟨rfl,rfl⟩:=ht;obtain⟨i,hi,rfl,hall,hs⟩:=nZ hz;have:GB C.T h t=some (.ptr h.nx 0,h.push (.cells i.zero t (0,0))):=by simp[GB,hi,H6]
  rw[this];refine OK.new hr (o:=.arr false t s (zn i.zero.length s.GN)) (n:=i.zero.length) rfl ⟨_,_,rfl,⟨by rw[ya,hs,yn],fun j hj=>?_⟩,ze _,ya ..⟩ Lt;have hj':j<i.zero.length:=by simpa using hj
  have:=hall i.zero[j] (List.getElem_mem hj');rw[List.getElem_replicate,hs,yn,zw hj'];exact uK this
 split at ht
 case h_2=>exact wh ht (by simp)
 rename_i cs hcs;rw[Option.bind_eq_some_iff]at hcs;obtain⟨i,hi,hcs⟩:=hcs;cases hok:KP V.ok i.zero with
 |false=>rw[hok]at hcs;cases hcs
 |true=>
 rw[hok]at hcs;cases hcs;rw[E6]at hok;simp only[AR]at ht;obtain⟨rfl,rfl⟩:=ht;have:GB C.T h t=some (.ptr h.nx 0,h.push (.cells i.zero t (0,0))):=by simp[GB,hi,H6]
 rw[this];cases rO C.T t with
 |true=>exact OK.new hr (o:=.tbox t (i.zero.map Vg)) (n:=0) rfl ⟨_,_,rfl,Eh _,ze _,fun u hu=>z6.1 hok u hu⟩ Lt
 |false=>exact OK.new hr (o:=.box (i.zero.map Vg)) (n:=0) rfl ⟨_,_,_,rfl,Eh _,ze _,fun u hu=>z6.1 hok u hu⟩ Lt
theorem yH(hr:SR B h0 F ρ st.nx st.ob h){t:TypeId}{p:PV}{x:V}(hx:PR F ρ st.nx p x){cs:List PV}(hcs:wV st p=some cs)(hs:cs.all (Jq st)=true):OK B h0 F ρ st h [] (EX (some (YT h t x))) (.ptr st.nx 0) (st.push (.box cs)):=
 OK.new hr (o:=.box cs) (n:=0) rfl ⟨_,_,_,rfl,(Ny hr hx hcs).mono (Le.new _),ze _,fun u hu=>V.LG (z6.1 (JX hr hs (Ny hr hx hcs)) u hu)⟩ Lt
theorem I9(hr:SR B h0 F ρ st.nx st.ob h){place:Nat->Option (Nat×Nat)}:∀ {l:List (Nat×PV)} {l':List (Nat×V)},sS F ρ st.nx l l'->∀ {cs:List PV} {xs:List V},Bb F ρ st.nx cs xs->∀ {out:List PV},QZ st place cs l=some out->
  ∃ys,Ip place xs l'=some ys/\Bb F ρ st.nx out ys:=by
 intro l l' hl;induction hl with
 |nil=>intro cs xs hx out ho;cases ho;exact⟨xs,rfl,hx⟩
 |@cons i p v l l' hp _ ih=>
  intro cs xs hx out ho;unfold QZ at ho;unfold Ip;split at ho
  case h_1=>cases ho
  rename_i off size hpl;split at ho
  case h_2=>cases ho
  rename_i vs hvs;cases hc:(zf (Det.El vs) size&&zl (Nat.add off size) (Det.El cs))with
  |false=>rw[hc]at ho;cases ho
  |true=>
   rw[hc]at ho;have hv:=Ny hr hp hvs;rw[CS,CS,hv.len,hx.len]at hc;have hc':(zf v.cells.length size&&zl (off+size) xs.length)=true:=hc;rw[hpl];simp only[hc',we];have:=hv.Cq off hx;rw[IF v.cells]at this;exact ih this ho
theorem kX(hr:SR B h0 F ρ st.nx st.ob h){t:TypeId}{l:List (Nat×PV)}{l':List (Nat×V)}(hl:sS F ρ st.nx l l'){v:PV}(ht:(ov st (UX C.T st t l)).To v st'):OK B h0 F ρ st h [] (Bw h (JP C.T t l')) v st':=by
 simp only[Kf]at ht;obtain⟨hb,rfl⟩:=ht;unfold UX at hb;split at hb
 case h_3=>cases hb
 case h_1=>
  rename_i i fs hi hu;split at hb
  case h_2=>cases hb
  rename_i pl hpl;rw[zm]at hb;obtain⟨out,ho,rfl⟩:=hb;obtain⟨ys,g1,g2⟩:=I9 hr hl (Eh i.zero) ho;exact zg hr (v':=.agg ys) (by simp only[JP,hi,hu,hpl,g1,zq,Bw]) (by unfold PR;exact⟨_,rfl,g2⟩)
 case h_2=>
  rename_i i nn e hi hu;split at hb
  case h_2=>cases hb
  rename_i j hj;rw[zm]at hb;obtain⟨out,ho,rfl⟩:=hb;obtain⟨ys,g1,g2⟩:=I9 hr hl (Eh i.zero) ho;exact zg hr (v':=.agg ys) (by simp only[JP,hi,hu,hj,g1,zq,Bw]) (by unfold PR;exact⟨_,rfl,g2⟩)
theorem J0(z:List V):∀n,Bb F ρ N (JT (z.map Vg) n) ((zn n z).flatten)
 |0=>by simp[JT]
 |n+1=>by
  simp only[JT,zx,yo];exact(Eh z).append (J0 z n)
theorem HA(z:List V):∀n,EI z (n*z.length)=(zn n z).flatten:=by
 intro n;apply yp;intro i;unfold EI;by_cases hz:z.length=0
 ·have:z=[]:=zo.1 hz;subst this;have:(zn n ([]:List V)).flatten=[]:=by induction n with|zero=>rfl|succ n ih=>simp[zx]
  rw[this];simp
 ·have hpos:0<z.length:=Nat.pos_of_ne_zero hz;induction n generalizing i with
  |zero=>simp
  |succ n ih=>
   rw[zx,yo];by_cases hi:i<z.length
   ·rw[yc hi,yq,yj (by rw[zt];omega)];simp only[zq,Nat.mod_eq_of_lt hi];simp[List.getD_eq_getElem?_getD,hi]
   ·rw[yb (by omega), <-ih (i-z.length)];rw[yq,yq];by_cases h2:i<(n+1)*z.length
    ·rw[yj h2,yj (by rw[zt]at h2;omega)];simp only[zq];rw[Nat.mod_eq_sub_mod (by omega)]
    ·rw[List.getElem?_eq_none (by simp;omega),List.getElem?_eq_none (by simp;rw[zt]at h2;omega)]
theorem OO{sz n:Nat}{o:Nat}(ho:o=0\/o=sz):PR F (BL ρ N (some (h.nx,n))) (N+1) (.sl N sz 0 n none) (.sl h.nx 0 n n o):=by
 unfold PR;refine⟨zz _,fun b m hb=>.inl ?_⟩;simp[BL]at hb;obtain⟨rfl,rfl⟩:=hb;exact⟨ze _,by show 0+n<=n;omega,o,ho,by rw[zu];rfl⟩
theorem LO{place:Nat->Option (Nat×Nat)}:∀ {l:List (Nat×V)} {xs ys:List V},Ip place xs l=some ys->ys.length=xs.length
 |[],xs,ys,h=>by cases h;rfl
 |(i,v)::l,xs,ys,h=>by
  unfold Ip at h;split at h
  ·cases h
  ·rename_i off size _;cases hc:(zf v.cells.length size&&zl (off+size) xs.length)with
   |false=>rw[hc]at h;cases h
   |true=>
    rw[hc]at h;rw[LO h,Ge]
end
section
variable {B:Nat}{h0:H0}{F:Fz}{ρ:D2}{N:Nat}{C:Ctx}{st st':AJ}{fr:Fr}{h h':H}
theorem D3.nil{s:Sh}:D3 F s [] []:=⟨by simp,fun i hi=>by simp at hi⟩
theorem D3.cons{s:Sh}{x:s.T}{l:List s.T}{a b:List V}(ha:DC F s x a)(hb:D3 F s l b):D3 F s (x::l) (a++b):=by
 refine⟨by rw[List.length_append,ha.len,hb.1,List.length_cons,zt];omega,fun i hi=>?_⟩;cases i with
 |zero=>
  simp only[zu,yg,yv];rw[<-ha.len,List.take_left];exact ha
 |succ i=>
  have e:(a++b).drop ((i+1)*s.sz)=b.drop (i*s.sz):=by
   rw[zt,yz,Fs, <-ha.len,List.drop_left]
  rw[e];exact hb.2 i (by simpa using hi)
theorem D3.dI{s:Sh}{x:s.T}{l:List s.T}{cs:List V}(h:D3 F s (x::l) cs):∃a b,cs=a++b/\DC F s x a/\D3 F s l b:=by
 have h0:=h.2 0 (by simp);simp only[zu,yg,yv]at h0;refine⟨cs.take s.sz,cs.drop s.sz,(List.take_append_drop _ _).symm,h0,?_,fun i hi=>?_⟩
 ·rw[List.length_drop,h.1,List.length_cons,zt];omega
 ·have:=h.2 (i+1) (by simpa using hi);rw[<-Fs,yz, <-zt];exact this
theorem D3.append{s:Sh}:∀ {l m:List s.T} {a b:List V},D3 F s l a->D3 F s m b->D3 F s (l++m) (a++b)
 |[],m,a,b,h,h'=>by
  have:a=[]:=zo.1 (by rw[h.1];simp);subst this;simpa using h'
 |x::l,m,a,b,h,h'=>by
  obtain⟨c,d,rfl,h1,h2⟩:=h.dI;rw[List.append_assoc,List.cons_append];exact D3.cons h1 (h2.append h')
theorem D3.replicate{s:Sh}{z:s.T}{c:List V}(hz:DC F s z c):∀n,D3 F s (zn n z) ((zn n c).flatten)
 |0=>D3.nil
 |n+1=>by
  rw[zx,zx,yo];exact D3.cons hz (D3.replicate hz n)
theorem D3.RT{s:Sh}:∀ {l:List s.T} {a:List V},D3 F s l a->a.all V.one=true
 |[],a,h=>by
  have:a=[]:=zo.1 (by rw[h.1];simp);subst this;rfl
 |x::l,a,h=>by
  obtain⟨c,d,rfl,h1,h2⟩:=h.dI;rw[List.all_append,h2.RT,Bool.and_true];exact z6.2 h1.RT
theorem D3.part{s:Sh}{l:List s.T}{cs:List V}(h:D3 F s l cs){off len:Nat}(hl:off+len<=l.length):D3 F s ((l.drop off).take len) ((cs.drop (off*s.sz)).take (len*s.sz)):=by
 have hle:(off+len)*s.sz<=l.length*s.sz:=zh _ hl;rw[zp]at hle;have h1:=h.1;refine⟨by simp;rw[ye (by omega),ye (by omega)],fun i hi=>?_⟩;have hi':i<len:=by simp at hi;omega
 have hi2:(i+1)*s.sz<=len*s.sz:=zh _ hi';rw[zt]at hi2;rw[List.getElem_take,List.getElem_drop];have:=h.2 (off+i) (by omega);have e:(((cs.drop (off*s.sz)).take (len*s.sz)).drop (i*s.sz)).take s.sz=(cs.drop ((off+i)*s.sz)).take s.sz:=by
  rw[List.drop_take,List.take_take,List.drop_drop,zp,ye (by omega)]
 rw[e];exact this
theorem tB(hr:SR B h0 F ρ st.nx st.ob h){t:TypeId}{p q:PV}{x y:V}(hx:PR F ρ st.nx p x)(hy:PR F ρ st.nx q y){v:PV}(ht:(cO C.T t p q st).To v st'):OK B h0 F ρ st h [] (EX (OL C.T h t x y)) v st':=by
 unfold cO at ht;split at ht
 case h_2=>simp at ht
 rename_i e k l k' c hu;obtain rfl:=CG hx;obtain rfl:=CG hy;split at ht
 case h_2=>simp at ht
 rename_i i s hi hs;cases hc:(zr 0 i.zero.length&&zf i.zero.length i.size&&zf i.size s.sz)with
 |false=>rw[hc]at ht;simp at ht
 |true=>
  rw[hc]at ht;simp only[zc]at hc;obtain⟨⟨c2,c3⟩,c4⟩:=hc;simp only[we]at ht;split at ht
  case h_2=>simp at ht
  rename_i z hz;simp only[BI,zc,w5]at ht;obtain⟨⟨⟨⟨k1,k2⟩,k3⟩,k4⟩,rfl,rfl⟩:=ht;have k2':l=c:=k2;subst k2';obtain⟨n,rfl,hn⟩:=Ds k1;rw[hn]at k3 ⊢;have e3:=zd c3;have e4:=zd c4;have hd:OL C.T h t (.int k (zy n)) (.int k' (zy n))=some (.sl h.nx 0 n n 0,h.push (.cells (EI i.zero (n*i.size)) e (0,0))):=by
   have a1:zl n n=true:=zi (ze _);have a2:zr n 9223372036854775808=true:=Dz (by have:(zy n:Int)<9223372036854775808:=k4;simp at this;omega);have a3:zl (i.bytes*n) 281474976710656=true:=zi k3;simp only[OL,hu,hi,a1,a2,a3,c2,c3,yr,we,H6]
  rw[hd];have hzc:=CJ (Eh (F:=F) (ρ:=ρ) (N:=st.nx) i.zero) hz;have hcells:D3 F s (zn n z) (EI i.zero (n*i.size)):=by
   rw[<-e3,HA];exact D3.replicate hzc n
  exact OK.new hr (o:=.arr false e s (zn n z)) (n:=n) rfl ⟨_,_,rfl,hcells,ze _,by simp⟩ (OO (.inl rfl))
theorem UZ(hr:SR B h0 F ρ st.nx st.ob h){s:Sh}{p:PV}{x:V}(hx:PR F ρ st.nx p x){c:Bool}{l:List s.T}(hd:Nd st s p=some (c,l))(hc:c=true):
  Oy x=some l.length/\(s.sz=1\/Ov x=true)/\∃cs,src h s.sz x l.length=some cs/\D3 F s l cs:=by
 unfold Nd at hd;split at hd
 case h_1=>
  cases hd;simp only[PR]at hx;subst hx;exact⟨rfl,.inr rfl,[],rfl,D3.nil⟩
 case h_2=>
  rename_i s' l';rw[zm]at hd;obtain⟨r,h1,h2⟩:=hd;obtain⟨e,he⟩:=Cu h1;have e':s'=s:=by cases e;rfl
  subst e';have:r=l':=by have:=he;cases this;rfl
  subst this;cases h2;simp only[PR,DC]at hx;obtain⟨u,hu1,hx⟩:=hx;obtain rfl:x=u:=by simpa using hu1
  rcases hx with⟨rfl,rfl|rfl|rfl⟩|⟨b,off,cap,o,bs,rfl,g1,g2,g3,g5,g4⟩
  ·exact⟨rfl,.inr rfl,[],rfl,D3.nil⟩
  ·exact⟨rfl,.inr rfl,[],rfl,D3.nil⟩
  ·exact⟨rfl,.inr rfl,[],rfl,D3.nil⟩
  ·obtain⟨te,fz,hg⟩:=hr.frz b bs g2;suffices hD:D3 F s' l ((bs.drop off).take (l.length*s'.sz))from⟨rfl,.inr rfl,_,rd_some hg g3 hD.ok,hD⟩
   refine⟨?_,fun i hi=>?_⟩
   ·simp;rw[ye (by omega)]
   ·have hi2:(i+1)*s'.sz<=l.length*s'.sz:=zh _ hi;rw[zt]at hi2;have e:(((bs.drop off).take (l.length*s'.sz)).drop (i*s'.sz)).take s'.sz=(bs.drop (off+i*s'.sz)).take s'.sz:=by
     rw[List.drop_take,List.take_take,List.drop_drop,ye (by omega)]
    rw[e];exact g4 i hi
 case h_3=>
  rename_i id sz off len cap;split at hd
  case h_2=>cases hd
  rename_i fzb te s' l' ho;cases hz:zf sz s'.sz with
  |false=>rw[hz]at hd;cases hd
  |true=>
   rw[hz]at hd;have hz:=zd hz;simp only[we,zm]at hd;obtain⟨r,h1,h2⟩:=hd;obtain⟨e,he⟩:=Cu h1;have e':s'=s:=by cases e;rfl
   subst e';have:r=l':=by have:=he;cases this;rfl
   subst this;cases h2;simp only[w5]at hc;obtain⟨b,n,y,g1,g2,⟨cs,fz,rfl,g3,g4,g5⟩,_⟩:=hr.at ho;simp only[PR]at hx;have hlen:((r.drop off).take len).length=len:=by simp;omega
   have hle:(off+len)*s'.sz<=r.length*s'.sz:=zh _ hc;rw[zp]at hle;rw[hlen];rcases hx.2 b n g1 with⟨_,_,o,_,rfl⟩|⟨rfl,_,hof,rfl|⟨off',rfl,hoff⟩⟩
   ·refine⟨rfl,.inr rfl,_,rd_some g2 ?_ ?_,?_⟩
    ·rw[hz,g3.1];exact hle
    ·rw[hz];exact(g3.part hc).ok
    ·rw[hz];exact g3.part hc
   ·refine⟨rfl,.inr rfl,[],rfl,?_⟩;simpa using D3.nil
   ·refine⟨rfl,.inr rfl,_,rd_some g2 ?_ ?_,?_⟩
    ·rw[hz]at hoff;rw[g3.1];simp at hle ⊢;omega
    ·simp
    ·simp;exact D3.nil
 case h_5=>cases hd
 case h_4=>
  rename_i t;rw[zm]at hd;obtain⟨r,h1,h2⟩:=hd;obtain⟨e,he⟩:=Cu h1;have e':s=.int .u8:=by cases e;rfl
  subst e';have:r=List.map (fun b:UInt8=>(b.toNat:Int)) t:=by have:=he;cases this;rfl
  subst this;cases h2;obtain rfl:=ER hx;refine⟨by simp[Oy],.inl rfl,_,rfl,?_⟩;rw[yx,List.take_length];refine⟨by simp[Sh.sz],fun j hj=>?_⟩;have hj':j<t.length:=by simpa using hj
  have e1:((t.map fun b=>y8 .u8 (b.toNat:Int)).drop (j*1)).take 1=[y8 .u8 ((t[j]).toNat:Int)]:=by
   rw[yn,zw (by simpa using hj')];simp
  show DC _ (.int .u8) _ (((t.map fun b=>y8 .u8 (b.toNat:Int)).drop (j*1)).take 1);rw[e1];simp[DC]
theorem YF(hr:SR B h0 F ρ st.nx st.ob h){s:Sh}{p:PV}{x:V}(hx:PR F ρ st.nx p x){c:Bool}{l:List s.T}(hd:NH st s p=some (c,l))(hc:c=true):
  Oy x=some l.length/\(s.sz=1\/Ov x=true)/\∃cs,src h s.sz x l.length=some cs/\D3 F s l cs:=UZ hr hx.lz hd hc
theorem SR.congr(hr:SR B h0 F ρ N st.ob h)(hg:∀c,h'.get c=h.get c)(hn:h'.nx=h.nx):SR B h0 F ρ N st.ob h':=
 ⟨fun id o ho=>by obtain⟨b,n,x,h1,h2,h3⟩:=hr.obj id o ho;exact⟨b,n,x,h1,(hg b).trans h2,h3⟩,hr.inj,fun b cs hb=>by obtain⟨t,fz,h1⟩:=hr.frz b cs hb;exact⟨t,fz,(hg b).trans h1⟩,hr.own,hr.dead,
  fun b hb he=>(hg b).trans (hr.old b hb he),fun b o hb=>by rw[hn];exact hr.lt b o ((hg b).symm.trans hb),by rw[hn];exact hr.le,hr.fo,hr.gl,fun c hc=>by obtain⟨g1,g2,g3⟩:=hr.pn c hc;exact⟨(hg c).trans g1,g2,g3⟩⟩
theorem SR.bW{ob:Ob}(hr:SR B h0 F ρ N ob h){o:Obj}{x:O}{b n:Nat}(hg:h.get b=some x)(hfree:∀id o m,AP ob id=some o->ρ id≠some (b,m))(hF:F b=none)(hB:h0.Yw B b)(hP:b∉h0.pin)(hf:o.frozen=false)
  (hx:Yg F (BL ρ N (some (b,n))) (N+1) n o x):SR B h0 F (BL ρ N (some (b,n))) (N+1) ((N,o)::ob) h:=by
 have hl:Le F ρ N F (BL ρ N (some (b,n))) (N+1):=Le.new _;have hget:∀j,AP ((N,o)::ob) j=if j=N then some o else AP ob j:=by
  intro j;simp only[AP,Bn];by_cases e:N=j
  ·subst e;simp
  ·rw[wc (fun h=>e h.symm)];simp[e]
 refine⟨fun j oj hj=>?_,fun i j oi oj c m m' hi hj h1 h2=>?_,hr.frz,fun id c m hb=>?_,fun j hj=>?_,hr.old,hr.lt,hr.le,hr.fo,hr.gl,fun c hc=>?_⟩
 ·rw[hget]at hj;by_cases e:j=N
  ·subst e;simp only[wk,zj]at hj;subst hj;exact⟨b,n,x,by simp[BL],hg,hx,fun _=>hF,fun e=>by rw[hf]at e;cases e⟩
  ·rw[wc e]at hj;obtain⟨c,m,y,h1,h2,h3,h4⟩:=hr.obj j oj hj;exact⟨c,m,y,by simp[BL,e,h1],h2,h3.mono hl,h4⟩
 ·rw[hget]at hi hj;have key:∀k ok m,(if k=N then some o else AP ob k)=some ok->BL ρ N (some (b,n)) k=some (c,m)->(k=N/\c=b)\/(k≠N/\AP ob k=some ok/\ρ k=some (c,m)/\c≠b):=by
   intro k ok m hk hr';by_cases e:k=N
   ·subst e;simp[BL]at hr';exact .inl ⟨rfl,hr'.1.symm⟩
   ·rw[wc e]at hk;simp only[BL,e,ve]at hr';exact .inr ⟨e,hk,hr',fun ec=>hfree k ok m hk (ec▸hr')⟩
  rcases key i oi m hi h1 with⟨e1,e2⟩|⟨e1,e2,e3,e4⟩<;>rcases key j oj m' hj h2 with⟨f1,f2⟩|⟨f1,f2,f3,f4⟩
  ·rw[e1,f1]
  ·exact wh e2 f4
  ·exact wh f2 e4
  ·exact hr.inj i j oi oj c m m' e2 f2 e3 f3
 ·unfold BL at hb;split at hb
  ·rename_i e;cases hb;subst e;exact⟨zz _,hB⟩
  ·have:=hr.own id c m hb;exact⟨by omega,this.2⟩
 ·rw[hget]at hj;by_cases e:j=N
  ·rw[wd e]at hj;cases hj
  ·rw[wc e]at hj;simp[BL,e,hr.dead j hj]
 ·obtain⟨g1,g2,g3⟩:=hr.pn c hc;refine⟨g1,g2,fun id m e=>?_⟩;unfold BL at e;split at e
  ·cases e;exact hP hc
  ·exact g3 id m e
theorem NQ{off:Nat}{cs:List V}(h:off<=cs.length):Cq off [] cs=cs:=by
 apply yp;intro j;rw[GG (by simpa using h)];rw[wc (by simp)]
theorem S1{off:Nat}{vs cs:List V}(h:off+vs.length<=cs.length):Cq off vs cs=cs.take off++(vs++cs.drop (off+vs.length)):=by
 apply yp;intro j;rw[GG h];by_cases h1:j<off
 ·rw[wc (by omega),yc (by simp;omega),List.getElem?_take_of_lt h1]
 ·rw[yb (by simp;omega)];have hm:(cs.take off).length=off:=by simp;omega
  rw[hm];by_cases h2:j<off+vs.length
  ·rw[wd ⟨by omega,h2⟩,yc (by omega)]
  ·rw[wc (by omega),yb (by omega),List.getElem?_drop];congr 1;omega
theorem D3.fR{s:Sh}{l new:List s.T}{cs ns:List V}{a:Nat}(h:D3 F s l cs)(hn:D3 F s new ns)(ha:a+new.length<=l.length):
  D3 F s (l.take a++(new++l.drop (a+new.length))) (Cq (a*s.sz) ns cs):=by
 have h1:=h.1;have h2:=hn.1;have hle:(a+new.length)*s.sz<=l.length*s.sz:=zh _ ha;rw[S1 (by rw[h2, <-zp,h1];exact hle)];have p1:=h.part (off:=0) (len:=a) (by omega);have p2:=h.part (off:=a+new.length) (len:=l.length-(a+new.length)) (by omega);rw[zu,yg,yg]at p1;rw[yw (by simp),yw (by rw[List.length_drop,h1, <-Nat.sub_mul];exact ze _)]at p2;rw[h2, <-zp];exact p1.append (hn.append p2)
def E4:List PV->List Nat
 | .sl id _ _ _ _::_=>[id]
 |_=>[]
theorem Zn{s s':Sh}{x:s'.T}{c:Bool}{l:List s.T}(hd:NH st s (.dat s' x)=some (c,l)):c=true:=by
 unfold NH at hd;cases s' with
 |list a=>
  have hd:(DS (.list a) (.list s) x).map (fun r=>(true,r))=some (c,l):=hd;rw[zm]at hd;obtain⟨r,_,e⟩:=hd;cases e;rfl
 |nlist a=>
  have hd:(DS (.list a) (.list s) x).map (fun r=>(true,r))=some (c,l):=hd;rw[zm]at hd;obtain⟨r,_,e⟩:=hd;cases e;rfl
 |str=>
  have hd:(DS (.list (.int .u8)) (.list s) (List.map (fun b:UInt8=>(b.toNat:Int)) x)).map (fun r=>(true,r))=some (c,l):=hd;rw[zm]at hd;obtain⟨r,_,e⟩:=hd;cases e;rfl
 |_=>cases hd
theorem eW(hr:SR B h0 F ρ st.nx st.ob h){ts:Array TypeId}{ps:List PV}{xs:List V}(hx:Bb F ρ st.nx ps xs){v:PV}(ht:(RX C.T ts ps st).To v st'):OK B h0 F ρ st h (E4 ps) (EX (FR C.T h ts xs)) v st':=by
 unfold RX at ht;split at ht
 case h_2=>simp at ht
 rename_i t tx p q hts htx;simp only[Bb]at hx;obtain⟨x,_,rfl,hx,y,_,rfl,hy,rfl⟩:=hx;split at ht
 case h_2=>simp at ht
 rename_i e ex hu hux;have hss:RC ex=true:=by
  cases hq:RC ex with
  |true=>rfl
  |false=>rw[hq]at ht;simp at ht
 rw[hss]at ht;simp only[we]at ht;split at ht
 case h_2=>simp at ht
 rename_i i s hi hs;cases hc:(zr 0 i.bytes&&zr 0 i.size&&zf i.zero.length i.size&&zf i.size s.sz)with
 |false=>rw[hc]at ht;simp at ht
 |true=>
  rw[hc]at ht;simp only[zc]at hc;obtain⟨⟨⟨c1,c2⟩,c3⟩,c4⟩:=hc;have e4:=zd c4;simp only[we]at ht;split at ht
  case h_2=>simp at ht
  rename_i c new hel;have head:c=true->∃cs,src h i.size y new.length=some cs/\D3 F s new cs/\FR C.T h ts [x,y]=(match x with
      | .nils=>bif zf new.length 0 then some (.nils,h)
       else bif zl ((2*new.length+1000)*i.bytes) 281474976710656 then some (.sl h.nx 0 new.length new.length i.size,H6 h e cs)else none
      | .es0=>bif zf new.length 0 then some (.es0,h)
       else bif zl ((2*new.length+1000)*i.bytes) 281474976710656 then some (.sl h.nx 0 new.length new.length i.size,H6 h e cs)else none
      | .esl=>bif zf new.length 0 then some (.esl,h)else none
      | .sl b off len cap o=>
       bif zl (len+new.length) cap then(wr h b (off+len*i.size) cs).map fun h'=>(.sl b off (len+new.length) cap o,h')
       else bif zl ((2*(len+new.length)+1000)*i.bytes) 281474976710656 then
        match src h i.size x len with
        |some old=>
         bif zf o 0 then some (.sl h.nx 0 (len+new.length) (len+new.length) i.size,H6 h e (old++cs))
         else
          match h.get b with
          |some (.cells _ te fz)=>
           bif zf off 0&&zf o i.size&&zf te e&&zl fz.2 fz.1&&cs.all V.one then some (.sl h.nx 0 (len+new.length) (len+new.length) i.size,(h.kill b).push (.cells (old++cs) e (0,0)))
           else none
          |_=>none
        |none=>none
       else none
      |_=>none):=by
   intro hc;obtain⟨g1,g2,cs,g3,g4⟩:=YF hr hy hel hc;rw[<-e4]at g3;refine⟨cs,g3,g4,?_⟩;have hcond:(zr 0 i.bytes&&zr 0 i.size&&zf i.zero.length i.size&&(zf i.size 1||Ov y))=true:=by
    rw[c1,c2,c3];rcases g2 with g2|g2
    ·rw[e4,g2];rfl
    ·rw[g2,y7];rfl
   have hint:isInt ex=false:=by cases ex<;>first|rfl|cases hss
   simp only[FR,hts,htx,hu,hux,g1,hi,hint,hcond,we,g3];cases x<;>rfl
  split at ht
  case h_3=>simp at ht
  case h_1=>
   simp only[PR]at hx;subst hx;have grow:c=true->0<new.length->(2*new.length+1000)*i.bytes<=wW->OK B h0 F ρ st h (E4 [PV.nil,q]) (EX (FR C.T h ts [.nils,y])) (.sl st.nx s.sz 0 new.length none) (st.push (.arr false e s new)):=by
    intro k1 k2 k3;obtain⟨cs,g1,g2,g3⟩:=head k1;have b1:zf new.length 0=false:=by rw[Bn];simp;intro e;rw[e]at k2;simp at k2
    have b2:zl ((2*new.length+1000)*i.bytes) 281474976710656=true:=zi k3;rw[g3];simp only[b1,b2,wg,we];exact OK.new hr (o:=.arr false e s new) (n:=new.length) rfl ⟨_,_,rfl,g2,ze _,rfl⟩ (OO (.inr e4))
   have same:c=true->new.length=0->OK B h0 F ρ st h (E4 [PV.nil,q]) (EX (FR C.T h ts [.nils,y])) .nil st:=by
    intro k1 k2;obtain⟨cs,g1,g2,g3⟩:=head k1;have b1:zf new.length 0=true:=by rw[k2];rfl
    rw[g3];simp only[b1,we];exact⟨.nils,h,F,ρ,.inl rfl,by simp[PR],hr,yf,rfl,rfl,ze _,fun _ _=>.inl rfl⟩
   split at ht
   case h_1=>
    simp only[AR]at ht;obtain⟨rfl,rfl⟩:=ht;simp only[NH,Nd,lz,zj,z8]at hel;obtain⟨rfl,rfl⟩:=hel;exact same rfl rfl
   case h_2=>
    have hc':c=true:=by
     exact Zn hel
    by_cases hn:0<new.length
    ·rw[w4 hn]at ht;cases ht with
     |tt ht=>
      simp only[BI,zc,w5]at ht;obtain⟨⟨k1,k3⟩,rfl,rfl⟩:=ht;exact grow k1 hn k3
    ·rw[w8 hn]at ht;cases ht with
     |ff ht=>
      simp only[AR]at ht;obtain⟨rfl,rfl⟩:=ht;exact same hc' (by omega)
   case h_3=>
    by_cases hn:0<new.length
    ·rw[w4 hn]at ht;cases ht with
     |tt ht=>
      simp only[BI,zc,w5]at ht;obtain⟨⟨k1,k3⟩,rfl,rfl⟩:=ht;exact grow k1 hn k3
    ·rw[w8 hn]at ht;cases ht with
     |ff ht=>
      simp only[BI]at ht;obtain⟨k1,rfl,rfl⟩:=ht;exact same k1 (by omega)
   case h_4=>
    simp only[BI,zc,w5]at ht;obtain⟨⟨⟨k1,k2⟩,k3⟩,rfl,rfl⟩:=ht;exact grow k1 k2 k3
  case h_2=>
   rename_i id sz off len cap;split at ht
   case h_2=>simp at ht
   rename_i e' s' l ho;split at ht
   case h_2=>simp at ht
   rename_i l' hl';obtain⟨ecast,hcast⟩:=Cu hl';have es:s'=s:=by cases ecast;rfl
   subst es;have:l'=l:=by have:=hcast;cases this;rfl
   subst this;cases hcc:(zf e e'&&zf sz s'.sz)with
   |false=>rw[hcc]at ht;simp at ht
   |true=>
    rw[hcc]at ht;simp only[zc]at hcc;have ee:=zd hcc.1;have esz:=zd hcc.2;subst ee;subst esz;simp only[we]at ht;split at ht
    case h_2=>
     rename_i k;simp only[BI,zc,w5]at ht;obtain⟨⟨⟨k1,k2⟩,k3⟩,rfl,rfl⟩:=ht;obtain⟨cs,g1,g2,g3⟩:=head k1;obtain⟨b,n,z,h1,h2,⟨bs,fz,rfl,h3,h4,h5⟩,h6,_⟩:=hr.at ho;simp only[PR]at hx;rw[g3];have hone:cs.all V.one=true:=g2.RT;have hcl:cs.length=new.length*s'.sz:=g2.1;have hbl:=h3.1;have hle:(off+len+new.length)*s'.sz<=l'.length*s'.sz:=zh _ (by omega);have hexp:(off+len+new.length)*s'.sz=off*s'.sz+len*s'.sz+new.length*s'.sz:=by rw[zp,zp]
     have hsp:=D3.fR h3 g2 (a:=off+len) (by omega);have hlen:(l'.take (off+len)++(new++l'.drop (off+len+new.length))).length=l'.length:=by simp;omega
     rcases hx.2 b n h1 with⟨_,g6,o,g5,rfl⟩|⟨e0,ek,g6,g7⟩
     ·simp only[yh]at g6;have hw:wr h b (off*s'.sz+len*i.size) cs=some (h.put b (.cells (Cq ((off+len)*s'.sz) cs bs) e fz)):=by
       rw[Mx h2 (by rw[e4,hcl,hbl];omega) h4 hone,e4, <-zp]
      have b1:zl (len+new.length) k=true:=zi k2;refine⟨.sl b (off*s'.sz) (len+new.length) k o,h.put b (.cells (Cq ((off+len)*s'.sz) cs bs) e fz),F,ρ,.inl ?_,?_,hr.set ho h1 h2 rfl rfl (o':=.arr false e s' _) ⟨_,fz,rfl,hsp,h4,hlen.trans h5⟩,yf,rfl,rfl,ze _,fun c _=>?_⟩
      ·simp only[yh,b1,we,hw,zq,EX]
      ·simp only[PR];refine⟨hx.1,fun b' n' hb'=>.inl ?_⟩;rw[h1]at hb';cases hb';exact⟨by simpa using k2,by simpa using g6,o,g5,rfl⟩
      ·rw[H.Bl];by_cases e:c=b
       ·exact .inr ⟨id,by simp[E4],n,e▸h1⟩
       ·rw[wc e];exact .inl rfl
     ·cases ek;subst e0;have hn0:new.length=0:=by omega
      have hnil:new=[]:=zo.1 hn0;subst hnil;have hcs:cs=[]:=zo.1 (by rw[hcl];simp);subst hcs;have hlp:Cq ((off+0)*s'.sz) [] bs=bs:=NQ (by rw[hbl];have:=zh s'.sz (show off+0<=l'.length by omega);exact this);have hput:∀c,(h.put b (.cells (Cq ((off+0)*s'.sz) [] bs) e fz)).get c=h.get c:=by
       intro c;rw[hlp,H.Bl];by_cases e:c=b
       ·rw[wd e,e,h2]
       ·rw[wc e]
      have hset:=hr.set ho h1 h2 rfl rfl (o':=.arr false e s' _) (x':=.cells (Cq ((off+0)*s'.sz) [] bs) e fz) ⟨_,fz,rfl,hsp,h4,hlen.trans h5⟩;have hset':SR B h0 F ρ st.nx (Dt st.ob id (.arr false e s' (l'.take (off+0)++([]++l'.drop (off+0+0))))) h:=
       SR.congr (st:=⟨st.n,st.fr,Dt st.ob id _,st.nx⟩) hset (fun c=>(hput c).symm) rfl
      have hpr:∀w,(w=.esl\/∃off',w=.sl b off' 0 0 0/\off'<=off*s'.sz)->PR F ρ st.nx (.sl id s'.sz off (Nat.add 0 0) (some 0)) w:=by
       intro w hw;simp only[PR];refine⟨hx.1,fun b' n' hb'=>.inr ?_⟩;rw[h1]at hb';cases hb';exact⟨by simp,by simp,g6,hw⟩
      rcases g7 with rfl|⟨off',rfl,hoff'⟩
      ·exact⟨.esl,h,F,ρ,.inl rfl,hpr _ (.inl rfl),hset',yf,rfl,rfl,ze _,fun _ _=>.inl rfl⟩
      ·have hob:off'<=bs.length:=by
        have h7:off*s'.sz<=l'.length*s'.sz:=zh _ (by omega);omega
       have hw:wr h b (off'+0*i.size) []=some (h.put b (.cells (Cq (off'+0*i.size) [] bs) e fz)):=Mx h2 (by simpa using hob) h4 rfl;have hput2:∀c,(h.put b (.cells (Cq (off'+0*i.size) [] bs) e fz)).get c=h.get c:=by
        intro c;rw[NQ (by simpa using hob),H.Bl];by_cases e:c=b
        ·rw[wd e,e,h2]
        ·rw[wc e]
       refine⟨.sl b off' 0 0 0,h.put b (.cells (Cq (off'+0*i.size) [] bs) e fz),F,ρ,.inl ?_,hpr _ (.inr ⟨off',rfl,hoff'⟩),SR.congr (st:=⟨st.n,st.fr,Dt st.ob id _,st.nx⟩) hset' hput2 rfl,yf,rfl,rfl,ze _,fun c _=>.inl (hput2 c)⟩;simp only[yd,Nat.add_zero,show zl 0 0=true from rfl,we,hw,zq,EX]
    simp only[BI,zc,w5]at ht;obtain⟨⟨⟨⟨k1,k2⟩,k3⟩,k4⟩,rfl,rfl⟩:=ht;subst k2;obtain⟨cs,g1,g2,g3⟩:=head k1;obtain⟨b,n,z,h1,h2,⟨bs,fz,rfl,h3,h4,h5⟩,h6,_⟩:=hr.at ho;have hFb:=h6 rfl;simp only[PR]at hx;have hB:=(hr.own id b n h1).2;have hPb:b∉h0.pin:=fun hp=>(hr.pn b hp).2.2 id n h1
    have hidN:=(hr.own id b n h1).1;obtain⟨_,_,o,g5,rfl⟩:len<=len/\0+len<=n/\∃o,(o=0\/o=s'.sz)/\x=.sl b (0*s'.sz) len len o:=by
     rcases hx.2 b n h1 with g|⟨_,e,_⟩
     ·exact g
     ·cases e
    have hbl:bs.length=len*i.size:=by rw[h3.1,k3,e4]
    have hfree:∀j oj m,AP (FQ st.ob id) j=some oj->BL ρ id none j≠some (b,m):=by
     intro j oj m hj hjr;rw[DY]at hj;split at hj
     ·cases hj
     ·rename_i hne;simp only[BL,hne,ve]at hjr;exact hne (hr.inj j id oj _ b m n hj ho hjr h1)
    have hdel:=hr.del id;have hle1:Le F ρ st.nx F (BL ρ id none) st.nx:=Le.Np id;have hnew:D3 F s' (l'++new) (bs++cs):=h3.append g2;have hlen:(l'++new).length=len+new.length:=by rw[List.length_append, <-k3]
    have hone:cs.all V.one=true:=g2.RT;rw[g3];simp only;by_cases hn:new.length=0
    ·
     have hnil:new=[]:=zo.1 hn;have hcs:cs=[]:=zo.1 (by rw[g2.1,hn,zu]);subst hcs;have b1:zl (len+new.length) len=true:=zi (by omega);have hw:wr h b (0*s'.sz+len*i.size) []=some (h.put b (.cells (Cq (0*s'.sz+len*i.size) [] bs) e fz)):=Mx h2 (by rw[hbl];simp) h4 rfl;have hput:∀c,(h.put b (.cells (Cq (0*s'.sz+len*i.size) [] bs) e fz)).get c=h.get c:=by
      intro c;rw[NQ (by rw[hbl];simp),H.Bl];by_cases e:c=b
      ·rw[wd e,e,h2]
      ·rw[wc e]
     refine⟨.sl b (0*s'.sz) (len+new.length) len o,h.put b (.cells (Cq (0*s'.sz+len*i.size) [] bs) e fz),F,BL (BL ρ id none) st.nx (some (b,n)),.inl ?_,?_,?_,hle1.trans (Le.new _),rfl,rfl,ze _,fun c _=>.inl (hput c)⟩
     ·simp only[b1,we,hw,zq,EX]
     ·unfold PR;refine⟨zz _,fun b' n' hb=>.inl ?_⟩;simp[BL]at hb;obtain⟨rfl,rfl⟩:=hb;refine⟨ze _,?_,o,g5,?_⟩
      ·show 0+(len+new.length)<=n;omega
      ·show V.sl b (0*s'.sz) (len+new.length) len o=.sl b (0*s'.sz) (len+new.length) (len+new.length) o;rw[hn];rfl
     ·refine SR.bW (ob:=FQ st.ob id) ?_ (x:=.cells bs e fz) ((hput b).trans h2) hfree hFb hB hPb rfl ⟨bs,fz,rfl,?_,h4,?_⟩
      ·exact SR.congr (st:=⟨st.n,st.fr,FQ st.ob id,st.nx⟩) hdel hput rfl
      ·rw[hnil,List.append_nil];exact h3
      ·rw[hnil,List.append_nil];exact h5
    ·
     have b1:zl (len+new.length) len=false:=by
      cases hb:zl (len+new.length) len with
      |false=>rfl
      |true=>have:=Nat.le_of_ble_eq_true hb;omega
     have b2:zl ((2*(len+new.length)+1000)*i.bytes) 281474976710656=true:=zi k4;have hsrc:src h i.size (.sl b (0*s'.sz) len len o) len=some bs:=by
      show rd h b (0*s'.sz) (len*i.size)=_;rw[rd_some h2 (by rw[hbl,zu];omega) (fun u hu=>h3.ok u (List.mem_of_mem_drop (List.mem_of_mem_take hu)))];rw[zu,yg, <-hbl,List.take_length]
     simp only[b1,b2,wg,we,hsrc];have fin:∀ {h1':H},SR B h0 F (BL ρ id none) st.nx (FQ st.ob id) h1'->h1'.nx=h.nx->(∀c,c≠b->h1'.get c=h.get c)->
       OK B h0 F ρ st h [id] (EX (some (.sl h.nx 0 (len+new.length) (len+new.length) i.size,h1'.push (.cells (bs++cs) e (0,0))))) (.sl st.nx s'.sz 0 (Nat.add len new.length) none) ((st.N9 id).push (.arr false e s' (l'++new))):=by
      intro h1' hr1 hnx hg;have hp:=hr1.push (o:=.arr false e s' (l'++new)) (x:=.cells (bs++cs) e (0,0)) (n:=len+new.length) rfl ⟨_,_,rfl,hnew,ze _,hlen⟩;refine⟨_,_,F,_,.inl rfl,?_,hp,hle1.trans (Le.new _),rfl,rfl,by show h.nx<=h1'.nx+1;omega,fun c hc=>?_⟩
      ·rw[<-hnx];exact OO (.inr e4)
      ·rw[H.BE,wc (by omega)];by_cases e:c=b
       ·exact .inr ⟨id,zk.2 rfl,n,e▸h1⟩
       ·exact .inl (hg c e)
     rcases g5 with rfl|rfl
     ·simp only[z7,we];exact fin hdel rfl (fun _ _=>rfl)
     ·have b3:zf s'.sz 0=false:=by
       rw[<-e4];cases hb:zf i.size 0 with
       |false=>rfl
       |true=>have:=zd hb;rw[this]at c2;cases c2
      have b4:(zf (0*s'.sz) 0&&zf s'.sz i.size&&zf e e&&zl fz.2 fz.1&&cs.all V.one)=true:=by
       rw[zu,e4,hone,zi h4];simp
      simp only[b3,wg,h2,b4,we];exact fin (hdel.kill hfree hFb hB hPb) rfl (fun c hc=>by rw[H.B6,wc hc])
theorem EM:∀ {s:Sh} {x:s.T} {v:V},DV F s x v->PR F ρ N (B5 s x) v
 | .pair a b,x,v,h=>by obtain⟨cs,rfl,h1⟩:=h.1 rfl;unfold B5 PR;exact⟨cs,rfl,CU h1⟩
 | .unit,x,v,h=>by obtain⟨cs,rfl,h1⟩:=h.1 rfl;simp only[DC]at h1;subst h1;unfold B5 PR;exact⟨[],rfl,by simp⟩
 | .int _,x,v,h=>by have:=h.2 rfl;unfold B5 PR;exact this
 | .bool,x,v,h=>by have:=h.2 rfl;unfold B5 PR;exact this
 | .str,x,v,h=>by have:=h.2 rfl;unfold B5 PR;exact this
 | .list _,x,v,h=>by have:=h.2 rfl;unfold B5 PR;exact this
 | .nlist _,x,v,h=>by have:=h.2 rfl;unfold B5 PR;exact this
 | .fnv,x,v,h=>by
  have:=h.2 rfl;simp only[DC,yi,wn]at this;subst this;unfold B5;cases (x:Option Fn)<;>simp[PR]
 | .ptr s,x,v,h=>by
  have:=h.2 rfl;simp only[DC]at this;obtain⟨b,o,bs,h1,h2,h3,h4⟩:=this;unfold B5 PR;exact⟨b,o,bs,List.singleton_inj.1 h1,h2,h3,h4⟩
theorem kA{s:Sh}{p:PV}{x:s.T}{v:V}(hp:PR F ρ N p v)(hd:asV s p=some x):DV F s x v:=by
 unfold asV at hd;cases hb:(Lv p==s.P6)with
 |false=>rw[hb]at hd;cases hd
 |true=>
  rw[hb]at hd;simp only[we]at hd;have hb:Lv p=s.P6:=by simpa using hb
  refine⟨fun e=>?_,fun e=>?_⟩
  ·rw[e]at hb;cases p<;>simp only[Lv]at hb<;>try (cases hb;done)
   rename_i l;simp only[PR]at hp;obtain⟨cs,rfl,h1⟩:=hp;exact⟨cs,rfl,CJ h1 hd⟩
  ·rw[e]at hb;have:p.cells=[p]:=by cases p<;>first|rfl|(simp[Lv]at hb)
   rw[this]at hd;exact CJ (by simpa using hp) hd
theorem bG{T:BW}{t:TypeId}{s:Sh}(h:jZ T t=some s):(∃k,s=.int k/\T.und t=some (.int k))\/(s=.str/\T.und t=some .string)\/(s=.bool/\T.und t=some .bool):=by
 unfold jZ at h;split at h
 ·rename_i k hu;cases h;exact .inl ⟨k,rfl,hu⟩
 ·rename_i hu;cases h;exact .inr (.inl ⟨rfl,hu⟩)
 ·rename_i hu;cases h;exact .inr (.inr ⟨rfl,hu⟩)
 ·cases h
theorem Vf{T:BW}{t:TypeId}{s:Sh}(hs:jZ T t=some s){p:PV}{x:s.T}{v:V}(hp:PR F ρ N p v)(hd:sG s p=some x):DV F s x v:=by
 have:=Gm hp hd;rcases bG hs with⟨k,rfl,_⟩|⟨rfl,_⟩|⟨rfl,_⟩<;>exact⟨fun e=>(by cases e),fun _=>this⟩
theorem Rv{T:BW}{t:TypeId}{s:Sh}(hs:jZ T t=some s){x:s.T}{v:V}(hv:DV F s x v):∃d,T.und t=some d/\Ik T t d v=true/\(∀es,JS T t v es=Ln T t v es 0)/\∀y u,DV F s y u->fC T t v u=some (rX s x y):=by
 rcases bG hs with⟨k,rfl,hu⟩|⟨rfl,hu⟩|⟨rfl,hu⟩<;>
 ·have h1:=hv.2 rfl;simp only[DC,yi,wn]at h1;subst h1;refine⟨_,hu,rfl,fun _=>rfl,fun y u hy=>?_⟩;have h2:=hy.2 rfl;simp only[DC,yi,wn]at h2;subst h2;simp[fC,hu,rX]
theorem NK{T:BW}{t:TypeId}{ks vs:Sh}(hs:jZ T t=some ks){k:ks.T}{kv:V}(hk:DV F ks k kv):∀ {l:List (ks.T×vs.T)} {es:List (V×V×Nat)},MR F ks vs l es->∀i,∃r,Ln T t kv es i=some r/\
  (match r with
   |none=>Kq ks vs k l=none/\Ru ks vs k l=l/\∀x xv c,DV F vs x xv->MR F ks vs (Ri ks vs k x l) (es++[(kv,xv,c)])
   |some (j,u)=>(∃v,Kq ks vs k l=some v/\DV F vs v u)/\i<=j/\MR F ks vs (Ru ks vs k l) (es.eraseIdx (j-i))/\∀x xv,DV F vs x xv->MR F ks vs (Ri ks vs k x l) (Vd es (j-i) kv xv)):=by
 intro l es hm;induction hm with
 |nil=>intro i;exact⟨none,rfl,rfl,rfl,fun x xv c hx=>.cons hk hx .nil⟩
 |@cons a b l av bv n es h1 h2 h3 ih=>
  intro i;obtain⟨d,_,_,_,hq⟩:=Rv hs hk;have hq:=hq a av h1;unfold Ln;rw[hq];cases hb:rX ks k a with
  |true=>
   refine⟨some (i,bv),rfl,⟨b,by simp[Kq,hb],h2⟩,ze _,?_,fun x xv hx=>?_⟩
   ·simp only[yk,List.eraseIdx_cons_zero,Ru,hb,we];exact h3
   ·simp only[yk,Ri,hb,we,Vd,List.modify_zero_cons];exact .cons hk hx h3
  |false=>
   obtain⟨r,g1,g2⟩:=ih (i+1);refine⟨r,g1,?_⟩;cases r with
   |none=>
    obtain⟨k1,k2,k3⟩:=g2;refine⟨by simp only[Kq,hb,wg];exact k1,by simp only[Ru,hb,wg,k2],fun x xv c hx=>?_⟩;simp only[Ri,hb,wg,List.cons_append];exact .cons h1 h2 (k3 x xv c hx)
   |some ju=>
    obtain⟨j,u⟩:=ju;obtain⟨⟨v,k1,k2⟩,k3,k4,k5⟩:=g2;have e:j-i=(j-(i+1))+1:=by omega
    refine⟨⟨v,by simp only[Kq,hb,wg];exact k1,k2⟩,by omega,?_,fun x xv hx=>?_⟩
    ·rw[e];simp only[List.eraseIdx_cons_succ,Ru,hb,wg];exact .cons h1 h2 k4
    ·rw[e];simp only[Ri,hb,wg,Vd,List.modify_succ_cons];exact .cons h1 h2 (k5 x xv hx)
theorem mS(hr:SR B h0 F ρ st.nx st.ob h){t:TypeId}{v:PV}(ht:(Wt C.T t st).To v st'):OK B h0 F ρ st h [] (EX (H4 h none)) v st':=by
 unfold Wt at ht;split at ht
 case h_2=>simp at ht
 split at ht
 case h_2=>simp at ht
 rename_i ks vs hk hv;simp only[AR]at ht;obtain⟨rfl,rfl⟩:=ht;refine OK.new hr (o:=.map ks vs []) (x:=.map [] 0) (n:=0) rfl ⟨[],0,rfl,.nil⟩ ?_;unfold PR;exact⟨zz _,fun b m hb=>by simp[BL]at hb;rw[hb.1]⟩
theorem Zh(hr:SR B h0 F ρ st.nx st.ob h){ks vs:Sh}{m:PV}{l:List (ks.T×vs.T)}{x:V}(hm:PR F ρ st.nx m x)(hd:cI st ks vs m=some l):∃es,entries h x=some es/\MR F ks vs l es:=by
 unfold cI at hd;split at hd
 ·cases hd;simp only[PR]at hm;subst hm;exact⟨[],rfl,.nil⟩
 ·rename_i id;split at hd
  case h_2=>cases hd
  rename_i ks' vs' l' ho;obtain⟨e,he⟩:=Cu hd;simp only[Sh.list.injEq,Sh.pair.injEq]at e;obtain⟨rfl,rfl⟩:=e;obtain rfl:l'=l:=he;obtain⟨b,n,o,h1,h2,⟨es,clk,rfl,h4⟩,_⟩:=hr.at ho;simp only[PR]at hm;obtain rfl:=hm.2 b n h1;exact⟨es,by simp[entries,h2],h4⟩
 ·cases hd
theorem eK{ks vs:Sh}{ok:Bool}{z:vs.T}{x:ks.T}:∀ {l:List (ks.T×vs.T)} {v:PV},(yV ks vs ok z x st l).To v st'->st=st'/\((Kq ks vs x l=none/\v=bif ok then .tup [B5 vs z,.bl false]else B5 vs z)\/∃w,Kq ks vs x l=some w/\v=bif ok then .tup [B5 vs w,.bl true]else B5 vs w)
 |[],v,ht=>by
  unfold yV at ht;simp only[AR]at ht;exact⟨ht.2,.inl ⟨rfl,ht.1.symm⟩⟩
 |(a,b)::l,v,ht=>by
  unfold yV at ht;generalize hc:rX ks x a=c at ht;cases ht with
  |tt ht=>
   simp only[AR]at ht;exact⟨ht.2,.inr ⟨b,by simp[Kq,hc],ht.1.symm⟩⟩
  |ff ht=>
   obtain⟨h1,h2⟩:=eK ht;have e:Kq ks vs x ((a,b)::l)=Kq ks vs x l:=by simp[Kq,hc]
   rw[e];exact⟨h1,h2⟩
theorem aB(hr:SR B h0 F ρ st.nx st.ob h){t:TypeId}{p q:PV}{x y:V}(hx:PR F ρ st.nx p x)(hy:PR F ρ st.nx q y){ok:Bool}{v:PV}(ht:(SA C.T t p q ok st).To v st'):OK B h0 F ρ st h [] (Bw h (ED C.T h t x y ok)) v st':=by
 unfold SA at ht;split at ht
 case h_2=>simp at ht
 rename_i kt e hu;split at ht
 case h_2=>simp at ht
 rename_i ks vs i hks hvs hi;split at ht
 case h_2=>simp at ht
 rename_i k l z hk hl hz;cases hb:(yW i.zv==vs.P6)with
 |false=>rw[hb]at ht;simp at ht
 |true=>
  rw[hb]at ht;simp only[we]at ht;have hkd:=Vf hks hy hk;obtain⟨es,he,hm⟩:=Zh hr hx hl;obtain⟨kd,g1,g2,g3,_⟩:=Rv hks hkd;obtain⟨r,r1,r2⟩:=NK hks hkd hm 0;have hzd:DV F vs z i.zv:=by
   have h1:DC F vs z i.zv.cells:=CJ (Eh (F:=F) (ρ:=ρ) (N:=st.nx) i.zero) hz;have hb:yW i.zv=vs.P6:=by simpa using hb
   refine⟨fun e=>?_,fun e=>?_⟩
   ·rw[e]at hb;cases hv:i.zv<;>rw[hv]at hb<;>simp only[yW]at hb<;>try (cases hb;done)
    rw[hv]at h1;exact⟨_,rfl,h1⟩
   ·rw[e]at hb;have:i.zv.cells=[i.zv]:=by cases hv:i.zv<;>rw[hv]at hb<;>first|rfl|(simp[yW]at hb)
    rw[<-this];exact h1
  unfold ED;simp only[hu,g1,he,g2,we,g3,r1];cases hf:vs.mX with
  |true=>
   rw[hf]at ht;simp only[we]at ht;have hk2:=eK ht;obtain⟨e0,hk3⟩:=hk2;subst e0;rcases hk3 with⟨hn,hv⟩|⟨w,hw,hv⟩
   ·cases r with
    |none=>
     simp only[hi];cases ok with
     |true=>exact zg hr rfl (by rw[hv];simp only[we,PR];exact⟨_,rfl,_,_,rfl,EM hzd,_,_,rfl,by simp[PR],rfl⟩)
     |false=>exact zg hr rfl (by rw[hv];exact EM hzd)
    |some ju=>
     obtain⟨⟨v',k1,_⟩,_⟩:=r2;rw[hn]at k1;cases k1
   ·cases r with
    |none=>rw[r2.1]at hw;cases hw
    |some ju=>
     obtain⟨⟨v',k1,k2⟩,_⟩:=r2;rw[hw]at k1;cases k1;cases ok with
     |true=>exact zg hr rfl (by rw[hv];simp only[we,PR];exact⟨_,rfl,_,_,rfl,EM k2,_,_,rfl,by simp[PR],rfl⟩)
     |false=>exact zg hr rfl (by rw[hv];exact EM k2)
  |false=>
  rw[hf]at ht;simp only[wg,AR]at ht;obtain⟨rfl,rfl⟩:=ht;cases r with
  |none=>
   obtain⟨k1,_⟩:=r2;simp only[hi,k1,Option.getD_none,Option.isSome_none];cases ok with
   |true=>exact zg hr rfl (by simp only[we,PR];exact⟨_,rfl,_,_,rfl,EM hzd,_,_,rfl,DD _,rfl⟩)
   |false=>exact zg hr rfl (EM hzd)
  |some ju=>
   obtain⟨j,u⟩:=ju;obtain⟨⟨v,k1,k2⟩,_⟩:=r2;simp only[k1,yh,Option.isSome_some];cases ok with
   |true=>exact zg hr rfl (by simp only[we,PR];exact⟨_,rfl,_,_,rfl,EM k2,_,_,rfl,DD _,rfl⟩)
   |false=>exact zg hr rfl (EM k2)
theorem aV(hr:SR B h0 F ρ st.nx st.ob h){t:TypeId}{p q r:PV}{x y z:V}(hx:PR F ρ st.nx p x)(hy:PR F ρ st.nx q y)(hz:PR F ρ st.nx r z){v:PV}(ht:(SC C.T t p q r st).To v st'):
  ∃id,p=.mp id/\OK B h0 F ρ st h [id] (bP (Hf C.T h t x y z)) v st':=by
 unfold SC at ht;split at ht
 case h_2=>simp at ht
 rename_i kt e id hu;split at ht
 case h_2=>simp at ht
 rename_i ks ks' vs l hks ho;split at ht
 case h_2=>simp at ht
 rename_i k l2 w hk hl hw;obtain⟨e1,he⟩:=Cu hl;simp only[Sh.list.injEq,Sh.pair.injEq,wn]at e1;subst e1;obtain rfl:l=l2:=he;simp only[AR]at ht;obtain⟨rfl,rfl⟩:=ht;have hkd:=Vf hks hy hk;have hwd:=kA hz hw;obtain⟨b,n,o,h1,h2,⟨es,clk,rfl,h4⟩,_⟩:=hr.at ho;have hx':=hx;simp only[PR]at hx';obtain rfl:=hx'.2 b n h1;obtain⟨kd,g1,g2,g3,_⟩:=Rv hks hkd;obtain⟨r',r1,r2⟩:=NK hks hkd h4 0;refine⟨id,rfl,?_⟩;have fin:∀es' clk',MR F ks' vs (Ri ks' vs k w l) es'->OK B h0 F ρ st h [id] (bP (some (h.put b (.map es' clk')))) (.tup []) (st.setObj id (.map ks' vs (Ri ks' vs k w l))):=by
  intro es' clk' hm;refine⟨.tup [],_,F,ρ,.inr ⟨rfl,rfl⟩,by simp[PR],hr.set ho h1 h2 rfl rfl ⟨es',clk',rfl,hm⟩,yf,rfl,rfl,ze _,fun c _=>?_⟩;by_cases ec:c=b
  ·exact .inr ⟨id,zk.2 rfl,n,ec▸h1⟩
  ·exact .inl (by rw[H.Bl,wc ec])
 unfold Hf;simp only[hu,g1,h2,g2,we,g3,r1];cases r' with
 |none=>exact fin _ _ (r2.2.2 w z clk hwd)
 |some ju=>exact fin _ _ (r2.2.2.2 w z hwd)
theorem fH(hr:SR B h0 F ρ st.nx st.ob h){ts:Array TypeId}{ps:List PV}{xs:List V}(hx:Bb F ρ st.nx ps xs){v:PV}(ht:(Sc C.T ts ps st).To v st'):
  ∃id qs,ps=.mp id::qs/\OK B h0 F ρ st h [id] (EX (KO C.T h ts xs)) v st':=by
 unfold Sc at ht;split at ht
 case h_2=>simp at ht
 rename_i t id q hts;split at ht
 case h_2=>simp at ht
 rename_i kt e hu;split at ht
 case h_2=>simp at ht
 rename_i ks ks' vs l hks ho;split at ht
 case h_2=>simp at ht
 rename_i k l2 hk hl;obtain⟨e1,he⟩:=Cu hl;simp only[Sh.list.injEq,Sh.pair.injEq,wn]at e1;subst e1;obtain rfl:l=l2:=he;simp only[AR]at ht;obtain⟨rfl,rfl⟩:=ht;simp only[Bb]at hx;obtain⟨x,xs',rfl,hx1,y,xs'',rfl,hy,rfl⟩:=hx;have hkd:=Vf hks hy hk;obtain⟨b,n,o,h1,h2,⟨es,clk,rfl,h4⟩,_⟩:=hr.at ho;obtain rfl:=hx1.2 b n h1;obtain⟨kd,g1,g2,g3,_⟩:=Rv hks hkd;obtain⟨r',r1,r2⟩:=NK hks hkd h4 0;refine⟨id,_,rfl,?_⟩;have fin:∀es',MR F ks' vs (Ru ks' vs k l) es'->OK B h0 F ρ st h [id] (EX (some (.tup [],h.put b (.map es' clk)))) (.tup []) (st.setObj id (.map ks' vs (Ru ks' vs k l))):=by
  intro es' hm;refine⟨.tup [],_,F,ρ,.inl rfl,by simp[PR],hr.set ho h1 h2 rfl rfl ⟨es',clk,rfl,hm⟩,yf,rfl,rfl,ze _,fun c _=>?_⟩;by_cases ec:c=b
  ·exact .inr ⟨id,zk.2 rfl,n,ec▸h1⟩
  ·exact .inl (by rw[H.Bl,wc ec])
 unfold KO;simp only[hts,hu,g1,h2,g2,we,g3,r1];cases r' with
 |none=>exact fin es (by rw[r2.2.1];exact h4)
 |some ju=>
  have:=r2.2.2.1;simp only[Nat.sub_zero]at this;exact fin _ this
theorem SR.same(hr:SR B h0 F ρ st.nx st.ob h){id b n:Nat}{o o':Obj}{x:O}(ho:st.obj id=some o)(hb:ρ id=some (b,n))(hg:h.get b=some x)(hf:o.frozen=false)(hf':o'.frozen=false)
  (hx:Yg F ρ st.nx n o' x):SR B h0 F ρ st.nx (Dt st.ob id o') h:=by
 have hput:∀c,h.get c=(h.put b x).get c:=by
  intro c;rw[H.Bl];by_cases e:c=b
  ·rw[wd e,e,hg]
  ·rw[wc e]
 exact SR.congr (st:=⟨st.n,st.fr,Dt st.ob id o',st.nx⟩) (hr.set ho hb hg hf hf' hx) hput rfl
theorem qB(hr:SR B h0 F ρ st.nx st.ob h){ts:Array TypeId}{ps:List PV}{xs:List V}(hx:Bb F ρ st.nx ps xs){v:PV}(ht:(VN C.T ts ps st).To v st'):OK B h0 F ρ st h (E4 ps) (EX (Fk C.T h ts xs)) v st':=by
 unfold VN at ht;split at ht
 case h_2=>simp at ht
 rename_i t p hts;simp only[Bb]at hx;obtain⟨x,_,rfl,hx,rfl⟩:=hx;split at ht
 case h_2=>simp at ht
 rename_i e hu;split at ht
 case h_3=>simp at ht
 case h_1=>
  simp only[AR]at ht;obtain⟨rfl,rfl⟩:=ht;simp only[PR]at hx;subst hx;exact⟨.tup [],h,F,ρ,.inl (by simp[Fk,hts,hu,EX]),by simp[PR],hr,yf,rfl,rfl,ze _,fun _ _=>.inl rfl⟩
 rename_i id sz off len cap;split at ht
 case h_2=>simp at ht
 rename_i i e' s l hi ho;cases hc:(zf sz s.sz&&zr 0 i.zero.length&&zf i.zero.length s.sz&&Det.KP V.one i.zero)with
 |false=>rw[hc]at ht;simp at ht
 |true=>
  rw[hc]at ht;simp only[zc,E6]at hc;obtain⟨⟨⟨c1,c2⟩,c3⟩,c4⟩:=hc;have c1:=zd c1;have c3:=zd c3;subst c1;simp only[we]at ht;split at ht
  case h_2=>simp at ht
  rename_i z hz;simp only[BI,w5]at ht;obtain⟨k1,rfl,rfl⟩:=ht;obtain⟨b,n,y,h1,h2,⟨bs,fz,rfl,h3,h4,h5⟩,h6,_⟩:=hr.at ho;have hz0:DC F s z i.zero:=CJ (Eh (F:=F) (ρ:=ρ) (N:=st.nx) i.zero) hz;have hrep:=D3.replicate hz0 len;have hsp:=D3.fR h3 hrep (a:=off) (by simpa using k1);rw[ya]at hsp;have hlen:(l.take off++(zn len z++l.drop (off+len))).length=l.length:=by simp;omega
  have skip:Fk C.T h ts [x]=some (.tup [],h)->len=0->OK B h0 F ρ st h (E4 [.sl id s.sz off len cap]) (EX (Fk C.T h ts [x])) (.tup []) (st.setObj id (.arr false e' s (l.take off++(zn len z++l.drop (off+len))))):=by
   intro hd h0;subst h0;have el:l.take off++(zn 0 z++l.drop (off+0))=l:=by simp
   refine⟨.tup [],h,F,ρ,.inl (by rw[hd];rfl),by simp[PR],hr.same ho h1 h2 rfl rfl (o':=.arr false e' s _) ⟨bs,fz,rfl,?_,h4,?_⟩,yf,rfl,rfl,ze _,fun _ _=>.inl rfl⟩
   ·rw[el];exact h3
   ·rw[el];exact h5
  simp only[PR]at hx;rcases hx.2 b n h1 with⟨_,g6,o,g5,rfl⟩|⟨e0,ek,g6,rfl|⟨off',rfl,_⟩⟩
  ·by_cases h0:len=0
   ·exact skip (by simp[Fk,hts,hu,h0]) h0
   ·have hw:wr h b (off*s.sz) (EI i.zero (len*i.zero.length))=some (h.put b (.cells (Cq (off*s.sz) ((zn len i.zero).flatten) bs) e' fz)):=by
     rw[HA];refine Mx h2 ?_ h4 ?_
     ·rw[hrep.1,ya, <-zp,h3.1];exact zh _ k1
     ·exact hrep.RT
    have b0:zf len 0=false:=by rw[Bn];simp[h0]
    refine⟨.tup [],h.put b (.cells (Cq (off*s.sz) ((zn len i.zero).flatten) bs) e' fz),F,ρ,.inl ?_,by simp[PR],hr.set ho h1 h2 rfl rfl (o':=.arr false e' s _) ⟨_,fz,rfl,hsp,h4,hlen.trans h5⟩,yf,rfl,rfl,ze _,fun c _=>?_⟩
    ·simp only[Fk,hts,hu,b0,wg,hi,c2,we,hw,zq,EX]
    ·rw[H.Bl];by_cases e:c=b
     ·exact .inr ⟨id,by simp[E4],n,e▸h1⟩
     ·rw[wc e];exact .inl rfl
  ·exact skip (by simp[Fk,hts,hu]) e0
  ·exact skip (by simp[Fk,hts,hu]) e0
theorem pU(hr:SR B h0 F ρ st.nx st.ob h){t:TypeId}{p:PV}{x:V}(hx:PR F ρ st.nx p x){v:PV}(ht:(Wj C.T t p st).To v st'):OK B h0 F ρ st h [] (EX (Ho C.T h t x)) v st':=by
 unfold Wj at ht;split at ht
 case h_2=>simp at ht
 rename_i s hu;simp only[AR]at ht;obtain⟨rfl,rfl⟩:=ht;obtain rfl:=ER hx;have hd:Ho C.T h t (.str s)=some (.ptr h.nx 0,h.push (.siter s 0)):=by simp[Ho,R5,hu]
 rw[hd];exact OK.new hr (o:=.siter s 0) (n:=0) rfl rfl Lt
theorem vV(hr:SR B h0 F ρ st.nx st.ob h){p:PV}{x:V}(hx:PR F ρ st.nx p x){i:Bool}{v:PV}(ht:(dH p i st).To v st'):i=true/\∃id off,p=.ptr id off/\OK B h0 F ρ st h [id] (EX (MP h x i)) v st':=by
 unfold dH at ht;split at ht
 case h_2=>simp at ht
 rename_i id;split at ht
 case h_2=>simp at ht
 rename_i s pos ho;obtain⟨b,n,y,h1,h2,h3,h6,_⟩:=hr.at ho;simp only[Yg]at h3;subst h3;simp only[PR]at hx;obtain rfl:=hx.2 b n h1;refine⟨rfl,id,0,rfl,?_⟩;by_cases hp:pos<s.length
 ·rw[w4 hp]at ht;cases ht with
  |tt ht=>
   simp only[AR]at ht;obtain⟨rfl,rfl⟩:=ht;have hd:MP h (.ptr b 0) true=some (.tup [.bool true,i64 pos,.int .i32 (rune s pos)],h.put b (.siter s (pos+qQ s pos))):=by
    simp only[MP,h2,GV,w4 hp,we];rfl
   refine⟨_,_,F,ρ,.inl (by rw[hd];rfl),?_,hr.set ho h1 h2 rfl rfl (o':=.siter s _) rfl,yf,rfl,rfl,ze _,fun c _=>?_⟩
   ·simp[PR,DC,i64]
   ·rw[H.Bl];by_cases e:c=b
    ·exact .inr ⟨id,zk.2 rfl,n,e▸h1⟩
    ·rw[wc e];exact .inl rfl
 ·rw[w8 hp]at ht;cases ht with
  |ff ht=>
   simp only[AR]at ht;obtain⟨rfl,rfl⟩:=ht;refine⟨.tup [.bool false],h,F,ρ,.inl ?_,by simp[PR],hr,yf,rfl,rfl,ze _,fun _ _=>.inl rfl⟩;simp only[MP,h2,GV,w8 hp,wg,EX]
end
section
variable {B:Nat}{h0:H0}{F:Fz}{ρ:D2}{N:Nat}{C:Ctx}{st st':AJ}{h:H}
def vO:List PV->List Nat
 | .eptr id _ _ _::_=>[id]
 |_=>[]
theorem qG(hr:SR B h0 F ρ st.nx st.ob h){ps:List PV}{xs:List V}(hx:Bb F ρ st.nx ps xs){v:PV}(ht:(Vy ps st).To v st'):OK B h0 F ρ st h [] (Bw h (PT xs)) v st':=by
 unfold Vy at ht;split at ht
 case h_2=>simp at ht
 rename_i id sz off len;cases hs:HR (st.obj id)with
 |false=>rw[hs]at ht;simp at ht
 |true=>
  rw[hs]at ht;simp only[we,BI,w5]at ht;obtain⟨hl,rfl,rfl⟩:=ht;obtain⟨o,ho⟩:=U7 hs;obtain⟨b,n,z,g1,_⟩:=hr.at ho;simp only[Bb]at hx;obtain⟨x,_,rfl,hx,rfl⟩:=hx;simp only[PR]at hx;obtain⟨_,_,o',_,rfl⟩:len<=len/\off+len<=n/\∃o,(o=0\/o=sz)/\x=.sl b (off*sz) len len o:=by
   rcases hx.2 b n g1 with g|⟨_,e,_⟩
   ·exact g
   ·cases e
  refine zg hr (v':=.ptr b (off*sz)) ?_ ?_
  ·have:zr 0 len=true:=by rw[Nat.blt_eq];exact hl
   simp only[PT,this,we];rfl
  ·simp only[PR];refine⟨hx.1,fun b' n' hb=>?_⟩;rw[g1]at hb;cases hb;rfl
theorem bL{k:IntKind}:∀ {l:List Int} {cs:List V},D3 F (.int k) l cs->cs=l.map (y8 k):=by
 intro l cs hd;have hl:cs.length=l.length:=by rw[hd.1];simp[Sh.sz]
 apply List.ext_getElem
 ·rw[yx];exact hl
 ·intro i h1 h2;have hi:i<l.length:=by omega
  have:=hd.2 i hi;have e:(cs.drop (i*Sh.sz (.int k))).take (Sh.sz (.int k))=[cs[i]]:=by
   rw[show Sh.sz (.int k)=1 from rfl,yn,zw h1];rfl
  rw[e]at this;simpa [DC]using this
theorem PL:∀ {l:List Int},Q2 l=true->F5 (l.map (y8 .u8))=some (Wn l)
 |[],_=>rfl
 |x::l,h=>by
  unfold Q2 at h;rw[List.all_cons,zc,zc,w5,w5]at h;have ih:=PL (l:=l) h.2;obtain⟨n,rfl⟩:=yt h.1.1;have hb:zr n 256=true:=by rw[Nat.blt_eq];omega
  have hx:Sw (.int .u8 (n:Int))=some (UInt8.ofNat n):=by
   show(bif zr n 256 then some (UInt8.ofNat n)else none)=_;rw[hb];rfl
  rw[List.map_cons];unfold F5;rw[hx,ih];rfl
theorem VD{l:List Int}(h:Q2 l=true)(n:Nat):Q2 (l.take n)=true:=by
 unfold Q2 at*;rw[z6]at*;exact fun x hx=>h x (List.mem_of_mem_take hx)
theorem uL(hr:SR B h0 F ρ st.nx st.ob h){ts:Array TypeId}{ps:List PV}{xs:List V}(hx:Bb F ρ st.nx ps xs){v:PV}(ht:(gO C.T ts.toList ps st).To v st'):OK B h0 F ρ st h (vO ps) (EX (QP C.T h ts.toList xs)) v st':=by
 unfold gO at ht;split at ht
 case h_2=>simp at ht
 rename_i pt it id sz i n hts;split at ht
 case h_2=>simp at ht
 rename_i e e' s l hu ho;split at ht
 case h_2=>simp at ht
 rename_i ti bs hi hbs;cases hc:(zf ti.size 1&&zf e e')with
 |false=>rw[hc]at ht;simp at ht
 |true=>
  rw[hc]at ht;simp only[we,BI,zc,w5]at ht;obtain⟨⟨⟨⟨⟨k1,k2⟩,k3⟩,k4⟩,k5⟩,rfl,rfl⟩:=ht;subst k1;obtain⟨es,he⟩:=Cu hbs;have e2:s=.int .u8:=by cases es;rfl
  subst e2;have:bs=l:=by have:=he;cases this;rfl
  subst this;obtain⟨m,rfl⟩:=yt (Int.le_of_lt k2);simp only[Int.toNat_natCast]at k3 k4;obtain⟨b,n',z,h1,h2,⟨cs,fz,rfl,h3,h4,h5⟩,h6,_⟩:=hr.at ho;have hFb:=h6 rfl;simp only[Bb]at hx;obtain⟨x,_,rfl,hx,y,_,rfl,hy,rfl⟩:=hx;obtain rfl:=CG hy;simp only[PR]at hx;obtain rfl:=hx.2 b n' h1;have hB:=(hr.own id b n' h1).2;have hPb:b∉h0.pin:=fun hp=>(hr.pn b hp).2.2 id n' h1
  have hfree:∀j oj m,AP (FQ st.ob id) j=some oj->BL ρ id none j≠some (b,m):=by
   intro j oj m hj hjr;rw[DY]at hj;split at hj
   ·cases hj
   ·rename_i hne;simp only[BL,hne,ve]at hjr;exact hne (hr.inj j id oj _ b m n' hj ho hjr h1)
  have hdel:=hr.del id;have hcs:=bL h3;have htk:cs.take m=(bs.take m).map (y8 .u8):=by rw[hcs,List.map_take]
  have hb:=PL (VD k5 m);have hd:QP C.T h ts.toList [.ptr b (0*sz+0),.int .i64 (m:Int)]=some (.str (Wn (bs.take m)),h.kill b):=by
   rw[zu];unfold QP;rw[hts];show(match C.T.und pt,h.get b with
    |some (.pointer e),some (.cells cs e' fz)=>(match C.T.inf e,F5 (cs.take m)with
     |some i,some l=>bif zf i.size 1&&zf e e'&&zr 0 m&&zl m cs.length&&zl m 9223372036854775807&&zl fz.2 fz.1 then some (V.str l,h.kill b)else none
     |_,_=>none)
    |_,_=>none)=_
   rw[hu,h2];show(match C.T.inf e,F5 (cs.take m)with
    |some i,some l=>bif zf i.size 1&&zf e e'&&zr 0 m&&zl m cs.length&&zl m 9223372036854775807&&zl fz.2 fz.1 then some (V.str l,h.kill b)else none
    |_,_=>none)=_
   rw[hi,htk,hb];have k2:(0:Int)<(m:Int):=k2;have c1:zr 0 m=true:=by rw[Nat.blt_eq];omega
   have c2:zl m cs.length=true:=zi (by rw[hcs,yx];exact k3);have c3:zl m 9223372036854775807=true:=zi k4;have c4:zl fz.2 fz.1=true:=zi h4;simp only[hc,c1,c2,c3,c4,yr,we]
  rw[hd];refine⟨_,_,F,BL ρ id none,.inl rfl,J2 _,hdel.kill hfree hFb hB hPb,Le.Np id,rfl,rfl,ze _,fun c _=>?_⟩;rw[H.B6];by_cases ec:c=b
  ·exact .inr ⟨id,zk.2 rfl,n',ec▸h1⟩
  ·rw[wc ec];exact .inl rfl
end
section
variable {B:Nat}{h0:H0}{C:Ctx}{F F1 F':Fz}{ρ:D2}{N:Nat}{st st':AJ}{fr:Fr}{h h':H}
def PC(F:Fz)(p:PV)(v:V):Prop:=∀ρ N,PR F ρ N p v
def LX(F:Fz)(ps:List PV)(vs:List V):Prop:=∀ρ N,Bb F ρ N ps vs
theorem Le.Zc(hF:∀b cs,F b=some cs->F1 b=some cs):Le F ρ N F1 ρ N:=⟨hF,fun _ _=>.inl rfl,ze _⟩
theorem PC.mono(hF:∀b cs,F b=some cs->F1 b=some cs){p:PV}{v:V}(hp:PC F p v):PC F1 p v:=fun ρ N=>(hp ρ N).mono (Le.Zc hF)
theorem LX.cons{p:PV}{ps:List PV}{v:V}{vs:List V}(h1:PC F p v)(h2:LX F ps vs):LX F (p::ps) (v::vs):=fun ρ N=>(A1 ..).2 ⟨h1 ρ N,h2 ρ N⟩
theorem LX.dc{s:Sh}{ps:List PV}{vs:List V}{x:s.T}(hp:LX F ps vs)(hd:DH s ps=some x):DC F s x vs:=CJ (hp (fun _=>none) 0) hd
theorem PC.B5:∀ {s:Sh} {x:s.T} {cs:List V},DC F s x cs->(s.P6=true->PC F (B5 s x) (.agg cs))/\(s.P6=false->∀v,cs=[v]->PC F (B5 s x) v)
 | .pair a b,x,cs,h=>⟨fun _ ρ N=>by unfold y9 PR;exact⟨cs,rfl,CU h⟩,fun e=>by cases e⟩
 | .unit,x,cs,h=>⟨fun _ ρ N=>by simp only[DC]at h;subst h;unfold y9 PR;exact⟨[],rfl,by simp⟩,fun e=>by cases e⟩
 | .int _,x,cs,h=>⟨fun e=>(by cases e),fun _ v hv ρ N=>by subst hv;unfold y9 PR;exact h⟩
 | .bool,x,cs,h=>⟨fun e=>(by cases e),fun _ v hv ρ N=>by subst hv;unfold y9 PR;exact h⟩
 | .str,x,cs,h=>⟨fun e=>(by cases e),fun _ v hv ρ N=>by subst hv;unfold y9 PR;exact h⟩
 | .list _,x,cs,h=>⟨fun e=>(by cases e),fun _ v hv ρ N=>by subst hv;unfold y9 PR;exact h⟩
 | .nlist _,x,cs,h=>⟨fun e=>(by cases e),fun _ v hv ρ N=>by subst hv;unfold y9 PR;exact h⟩
 | .fnv,x,cs,h=>⟨fun e=>(by cases e),fun _ v hv ρ N=>by
   subst hv;simp only[DC,yi,wn]at h;subst h;unfold y9;cases (x:Option Fn)<;>simp[PR]⟩
 | .ptr s,x,cs,h=>⟨fun e=>(by cases e),fun _ v hv ρ N=>by
   subst hv;simp only[DC]at h;obtain⟨b,o,bs,h1,h2,h3,h4⟩:=h;unfold y9 PR;exact⟨b,o,bs,List.singleton_inj.1 h1,h2,h3,h4⟩⟩
theorem SR.zM{ob ob':Ob}(hr:SR B h0 F ρ N ob h)(he:∀j,AP ob' j=AP ob j):SR B h0 F ρ N ob' h:=
 ⟨fun id o ho=>hr.obj id o (he id▸ho),fun id id' o o' b n n' h1 h2=>hr.inj id id' o o' b n n' (he id▸h1) (he id'▸h2),hr.frz,hr.own,fun id hid=>hr.dead id (he id▸hid),hr.old,hr.lt,hr.le,hr.fo,hr.gl,hr.pn⟩
theorem vN{s:Sh}{l:List s.T}{cs:List V}{b:Nat}(hF:F b=some cs)(hd:D3 F s l cs){off len:Nat}(hle:off+len<=l.length){cap o:Nat}(hcap:len<=cap)(ho:o=0\/o=s.sz):
  DC F (.list s) ((l.drop off).take len) [.sl b (off*s.sz) len cap o]:=by
 have hlen:((l.drop off).take len).length=len:=by simp;omega
 simp only[DC];refine⟨_,rfl,.inr ⟨b,off*s.sz,cap,o,cs,by rw[hlen],by rw[hlen];exact hcap,hF,?_,ho,fun i hi=>?_⟩⟩
 ·rw[hlen,hd.1, <-zp];exact zh _ hle
 ·rw[hlen]at hi;have h1:=hd.2 (off+i) (by omega);have e1:((l.drop off).take len)[i]=l[off+i]'(by omega):=by simp
  rw[e1, <-zp];exact h1
theorem KT(st:AJ)(p:PV):(Bz st p).nx=st.nx/\(Bz st p).fr=st.fr/\(Bz st p).n=st.n:=by
 unfold Bz;split
 ·split<;>exact⟨rfl,rfl,rfl⟩
 ·exact⟨rfl,rfl,rfl⟩
theorem Dl:∀(ps:List PV) (st:AJ),(Bo ps st).nx=st.nx/\(Bo ps st).fr=st.fr/\(Bo ps st).n=st.n
 |[],_=>⟨rfl,rfl,rfl⟩
 |p::ps,st=>by
  obtain⟨h1,h2,h3⟩:=Dl ps (Bz st p);obtain⟨g1,g2,g3⟩:=KT st p;exact⟨h1.trans g1,h2.trans g2,h3.trans g3⟩
theorem Ib:∀(ps qs:List PV) (st:AJ),Bo (ps++qs) st=Bo qs (Bo ps st)
 |[],_,_=>rfl
 |p::ps,qs,st=>Ib ps qs (Bz st p)
def DU:Option Obj->Option Obj->Prop
 |some (.arr _ e s l),o=>∃fz,o=some (.arr fz e s l)
 |a,b=>b=a
theorem DU.refl(o:Option Obj):DU o o:=by
 cases o with
 |none=>rfl
 |some o=>cases o<;>first|rfl|exact⟨_,rfl⟩
theorem ME(st:AJ)(p:PV)(j:Nat):DU (st.obj j) ((Bz st p).obj j):=by
 unfold Bz;split
 case h_2=>exact DU.refl _
 split
 case h_2=>exact DU.refl _
 rename_i id _ _ _ _ _ fz e s l ho;show DU (AP st.ob j) (AP (Dt st.ob id (.arr true e s l)) j);rw[G3 _ _ _ _ (by show(st.obj id).isSome=true;rw[ho];rfl)];split
 ·rename_i e1;subst e1;show DU (st.obj j) _;rw[ho];exact⟨_,rfl⟩
 ·exact DU.refl _
theorem eZ{st st':AJ}(h:∀id,DU (st.obj id) (st'.obj id))(p:PV):CT st' p=CT st p:=by
 unfold CT;cases p<;>try rfl
 rename_i id sz off len cap;have:=h id;cases ho:st.obj id with
 |none=>rw[ho]at this;simp only[ho,show st'.obj id=none from this]
 |some o=>
  rw[ho]at this;cases o with
  |arr fz e s l=>
   obtain⟨fz',h1⟩:=this;simp only[ho,h1]
  |box _=>simp only[ho,show st'.obj id=_ from this]
  |tbox _ _=>simp only[ho,show st'.obj id=_ from this]
  |map _ _ _=>simp only[ho,show st'.obj id=_ from this]
  |siter _ _=>simp only[ho,show st'.obj id=_ from this]
  |lp _ _ _ _ _ _ _ _=>simp only[ho,show st'.obj id=_ from this]
theorem LC{st st':AJ}(h:∀id,DU (st.obj id) (st'.obj id)):∀ps:List PV,Fh st' ps=Fh st ps
 |[]=>rfl
 |p::ps=>by unfold Fh;rw[eZ h p,LC h ps]
theorem DU.trans{a b c:Option Obj}(h1:DU a b)(h2:DU b c):DU a c:=by
 cases a with
 |none=>have:b=none:=h1;subst this;exact h2
 |some o=>
  cases o with
  |arr fz e s l=>obtain⟨fz',rfl⟩:=h1;exact h2
  |box _=>have:b=_:=h1;subst this;exact h2
  |tbox _ _=>have:b=_:=h1;subst this;exact h2
  |map _ _ _=>have:b=_:=h1;subst this;exact h2
  |siter _ _=>have:b=_:=h1;subst this;exact h2
  |lp _ _ _ _ _ _ _ _=>have:b=_:=h1;subst this;exact h2
theorem MG:∀(ps:List PV) (st:AJ) (id:Nat),DU (st.obj id) ((Bo ps st).obj id)
 |[],_,_=>DU.refl _
 |p::ps,st,id=>(ME st p id).trans (MG ps (Bz st p) id)
theorem TN{st st':AJ}(h:∀id,DU (st.obj id) (st'.obj id))(s:Sh)(p:PV):La st' s p=La st s p:=by
 unfold La;rw[LC h]
theorem Md{st st':AJ}(h:∀id,DU (st.obj id) (st'.obj id)):∀(l:List Sh) (ps:List PV),Et st' l ps=Et st l ps
 |[],[]=>rfl
 |[],_::_=>rfl
 |[a],[p]=>TN h a p
 |[a],[]=>rfl
 |[a],_::_::_=>rfl
 |a::b::l,[]=>rfl
 |a::b::l,p::ps=>by unfold Et;rw[TN h a p,Md h (b::l) ps]
theorem MM(hr:SR B h0 F ρ st.nx st.ob h){p:PV}{v:V}(hp:PR F ρ st.nx p v):
  ∃F1,SR B h0 F1 ρ (Bz st p).nx (Bz st p).ob h/\(∀b cs,F b=some cs->F1 b=some cs)/\∀x,CT st p=some (true,x)->PC F1 x v:=by
 have same:∀ {q:PV},(∀x,CT st q=some (true,x)->PC F x v)->Bz st q=st->∃F1,SR B h0 F1 ρ (Bz st q).nx (Bz st q).ob h/\(∀b cs,F b=some cs->F1 b=some cs)/\∀x,CT st q=some (true,x)->PC F1 x v:=
  fun h1 h2=>⟨F,by rw[h2];exact hr,fun _ _ h=>h,h1⟩
 cases p with
 |sl id sz off len cap=>
  cases ho:st.obj id with
  |none=>exact same (fun x hx=>by simp[CT,ho]at hx) (by simp[Bz,ho])
  |some o=>
   cases o with
   |box _=>exact same (fun x hx=>by simp[CT,ho]at hx) (by simp[Bz,ho])
   |tbox _ _=>exact same (fun x hx=>by simp[CT,ho]at hx) (by simp[Bz,ho])
   |map _ _ _=>exact same (fun x hx=>by simp[CT,ho]at hx) (by simp[Bz,ho])
   |siter _ _=>exact same (fun x hx=>by simp[CT,ho]at hx) (by simp[Bz,ho])
   |lp _ _ _ _ _ _ _ _=>exact same (fun x hx=>by simp[CT,ho]at hx) (by simp[Bz,ho])
   |arr fz e s l=>
    obtain⟨b,n,x,h1,h2,⟨cs,fz',rfl,h4,h5,h6⟩,h7,h8⟩:=hr.at ho;have hst:Bz st (.sl id sz off len cap)=st.setObj id (.arr true e s l):=by simp[Bz,ho]
    have hset:∀j,AP (Dt st.ob id (.arr true e s l)) j=if j=id then some (.arr true e s l)else AP st.ob j:=fun j=>G3 _ _ _ _ (by show(st.obj id).isSome=true;rw[ho];rfl)
    have fin:∀ {G:Fz},G b=some cs->(∀b cs,F b=some cs->G b=some cs)->∀x,CT st (.sl id sz off len cap)=some (true,x)->PC G x v:=by
     intro G hG hFG x hx ρ' N';simp only[CT,ho]at hx;cases hsz:zf sz s.sz with
     |false=>rw[hsz]at hx;simp at hx
     |true=>
      rw[hsz]at hx;simp only[we,zj,z8,w5]at hx;obtain⟨hle,rfl⟩:=hx;have hsz:=zd hsz;subst hsz;unfold PR;simp only[PR]at hp;rcases hp.2 b n h1 with⟨k1,k2,o,k3,rfl⟩|⟨rfl,rfl,k3,rfl|⟨off',rfl,k4⟩⟩
      ·exact vN hG (h4.mono hFG) hle k1 k3
      ·simp[DC]
      ·simp only[List.take_zero,DC];refine⟨_,rfl,.inr ⟨b,off',0,0,cs,rfl,ze _,hG,?_,.inl rfl,fun i hi=>by simp at hi⟩⟩;simp only[yd,zu,Nat.add_zero];rw[h4.1];exact yu k4 (zh _ (by rw[h6];exact k3))
    cases hfz:fz with
    |true=>
     subst hfz;obtain⟨cs',t',fz2,k1,k2⟩:=h8 rfl;cases k1;refine⟨F,?_,fun _ _ h=>h,fin k2 (fun _ _ h=>h)⟩;rw[hst];refine SR.zM hr fun j=>?_
     show AP (Dt st.ob id _) j=_;rw[hset];split
     ·rename_i ej;subst ej;exact ho.symm
     ·rfl
    |false=>
     subst hfz;have hFb:F b=none:=h7 rfl;have hmono:∀c cs',F c=some cs'->(fun c=>if c=b then some cs else F c) c=some cs':=by
      intro c cs' hc;have:c≠b:=fun e=>by rw[e,hFb]at hc;cases hc
      simp[this,hc]
     refine⟨fun c=>if c=b then some cs else F c,?_,hmono,fin (by simp) hmono⟩;rw[hst];have hle:Le F ρ st.nx (fun c=>if c=b then some cs else F c) ρ st.nx:=Le.Zc hmono;have get':∀k ok,AP (Dt st.ob id (.arr true e s l)) k=some ok->∃o2,AP st.ob k=some o2:=by
      intro k ok hk;rw[hset]at hk;by_cases ek:k=id
      ·exact⟨_,ek▸ho⟩
      ·rw[wc ek]at hk;exact⟨ok,hk⟩
     refine⟨fun j oj hj=>?_,fun i j oi oj c m m' hi hj g1 g2=>?_,fun c cs' hc=>?_,hr.own,fun j hj=>?_,hr.old,hr.lt,hr.le,fun c cs' hc=>?_,hr.gl,hr.pn⟩
     ·have hj:AP (Dt st.ob id (.arr true e s l)) j=some oj:=hj;rw[hset]at hj;by_cases ej:j=id
      ·subst ej;simp only[wk,zj]at hj;subst hj;refine⟨b,n,_,h1,h2,⟨cs,fz',rfl,h4.mono hmono,h5,h6⟩,fun e=>(by cases e),fun _=>⟨cs,_,_,rfl,by simp⟩⟩
      ·rw[wc ej]at hj;obtain⟨c,m,y,g1,g2,g3,g4,g5⟩:=hr.obj j oj hj;have hne:c≠b:=fun ec=>ej (hr.inj j id oj _ c m n hj ho g1 (ec▸h1))
       exact⟨c,m,y,g1,g2,g3.mono hle,fun e=>by simp[hne,g4 e],fun e=>by obtain⟨a1,a2,a3,a4,a5⟩:=g5 e;exact⟨a1,a2,a3,a4,by simp[hne,a5]⟩⟩
     ·obtain⟨_,k1⟩:=get' i oi hi;obtain⟨_,k2⟩:=get' j oj hj;exact hr.inj i j _ _ c m m' k1 k2 g1 g2
     ·split at hc
      ·rename_i ec;cases hc;subst ec;exact⟨_,_,h2⟩
      ·exact hr.frz c cs' hc
     ·have hj:AP (Dt st.ob id (.arr true e s l)) j=none:=hj;rw[hset]at hj;split at hj
      ·cases hj
      ·exact hr.dead j hj
     ·split at hc
      ·rename_i ec;subst ec;exact .inr (hr.own id c n h1).2
      ·exact hr.fo c cs' hc
 |dat s x=>exact same (fun y hy ρ' N'=>by simp only[CT,zj,z8,true_and]at hy;subst hy;unfold PR at hp ⊢;exact hp) rfl
 |bl b=>exact same (fun y hy ρ' N'=>by simp only[CT,zj,z8,true_and]at hy;subst hy;unfold PR at hp ⊢;exact hp) rfl
 |nil=>exact same (fun y hy ρ' N'=>by simp only[CT,zj,z8,true_and]at hy;subst hy;unfold PR at hp ⊢;exact hp) rfl
 |CO s x off=>exact same (fun y hy ρ' N'=>by simp only[CT,zj,z8,true_and]at hy;subst hy;unfold PR at hp ⊢;exact hp) rfl
 |any|ub|yl _|nilp|nilm|nilf|nili|agg _|tup _|ptr _ _|eptr _ _ _ _|mp _|fn _ _ _=>exact same (fun x hx=>by simp[CT]at hx) rfl
theorem IA:∀ {ps:List PV} {vs:List V} {st:AJ} {F:Fz},SR B h0 F ρ st.nx st.ob h->Bb F ρ st.nx ps vs->
  ∃F1,SR B h0 F1 ρ (Bo ps st).nx (Bo ps st).ob h/\(∀b cs,F b=some cs->F1 b=some cs)/\∀xs,Fh st ps=some (true,xs)->LX F1 xs vs
 |[],vs,st,F,hr,hp=>⟨F,hr,fun _ _ h=>h,fun xs hx=>by
  cases hx;have hv:vs=[]:=by simpa using hp
  subst hv;intro ρ' N';simp⟩
 |p::ps,vs,st,F,hr,hp=>by
  simp only[Bb]at hp;obtain⟨v,vs,rfl,h1,h2⟩:=hp;obtain⟨F1,g1,g2,g3⟩:=MM hr h1;have h2':Bb F1 ρ (Bz st p).nx ps vs:=by rw[(KT st p).1];exact h2.mono (Le.Zc g2)
  obtain⟨F2,k1,k2,k3⟩:=IA g1 h2';refine⟨F2,k1,fun b cs hb=>k2 b cs (g2 b cs hb),fun xs hx=>?_⟩;unfold Fh at hx;split at hx
  case h_2=>cases hx
  rename_i c x d xs' e1 e2;simp only[zj,z8,zc]at hx;obtain⟨⟨rfl,rfl⟩,rfl⟩:=hx;exact LX.cons ((g3 x e1).mono k2) (k3 xs' (by rw[LC (ME st p)];exact e2))
theorem iZ(hr:SR B h0 F ρ st.nx st.ob h){t:TypeId}{n:Nat}{l:List (Nat×PV)}{l':List (Nat×V)}(hl:sS F ρ st.nx l l'){v:PV}(ht:(RL C.T t n l st).To v st'):OK B h0 F ρ st h [] (EX (EA C.T h t n l')) v st':=by
 unfold RL at ht;split at ht
 case h_2=>simp at ht
 rename_i e hu;split at ht
 case h_2=>simp at ht
 rename_i i s hi hs;cases hc:(zl (Nat.mul n i.size) 16777216&&zr 0 i.zero.length&&zf i.zero.length i.size&&zf i.size s.sz)with
 |false=>rw[hc]at ht;simp at ht
 |true=>
  rw[hc]at ht;simp only[zc]at hc;obtain⟨⟨⟨c1,c2⟩,c3⟩,c4⟩:=hc;simp only[we]at ht;split at ht
  case h_2=>simp at ht
  rename_i cs hcs;split at ht
  case h_2=>
   split at ht
   case h_2=>simp at ht
   rename_i c cs' hb;split at ht
   case h_2=>simp at ht
   rename_i el hel;simp only[BI]at ht;obtain⟨rfl,rfl,rfl⟩:=ht;have e3:=zd c3;have e4:=zd c4;have hz:Bb F ρ st.nx (JT (i.zero.map Vg) n) (EI i.zero (n*i.size)):=by
    rw[<-e3,HA];exact J0 _ _
   obtain⟨ys,g1,g2⟩:=I9 hr hl hz hcs;have hlen:ys.length=n*s.sz:=by
    rw[<-e4];rw[LO g1];simp[EI]
   obtain⟨F1,j1,j2,j3⟩:=IA hr g2;obtain⟨k1,k2⟩:=IX (j3 cs' hb ρ st.nx) hel hlen;have hd:EA C.T h t n l'=some (.sl h.nx 0 n n 0,h.push (.cells ys e (0,0))):=by
    have c1':zl (n*i.size) 16777216=true:=c1;simp only[EA,hu,hi,c1',c2,c3,yr,we,g1,H6]
   rw[hd];obtain⟨f1,f2,f3⟩:=Dl cs st;have res:=OK.new (F:=F1) (ρ:=ρ) (st:=Bo cs st) j1 (o:=.arr false e s el) (x:=.cells ys e (0,0)) (n:=n) (v:=.sl (Bo cs st).nx s.sz 0 n none) (v':=.sl h.nx 0 n n 0) rfl ⟨_,_,rfl,k2.mono (fun _ _ h=>h),ze _,k1⟩ (OO (.inl rfl));obtain⟨v',h',F',ρ',q1,q2,q3,q4,q5,q6,q7,q8⟩:=res;rw[f1]at q2;exact⟨v',h',F',ρ',q1,q2,q3,(by rw[f1]at q4;exact(Le.Zc j2).trans q4),q5.trans f2,q6.trans f3,q7,q8⟩
  rename_i el hel;simp only[AR]at ht;obtain⟨rfl,rfl⟩:=ht;have e3:=zd c3;have e4:=zd c4;have hz:Bb F ρ st.nx (JT (i.zero.map Vg) n) (EI i.zero (n*i.size)):=by
   rw[<-e3,HA];exact J0 _ _
  obtain⟨ys,g1,g2⟩:=I9 hr hl hz hcs;have hlen:ys.length=n*s.sz:=by
   rw[<-e4];rw[LO g1];simp[EI]
  obtain⟨k1,k2⟩:=IX g2 hel hlen;have hd:EA C.T h t n l'=some (.sl h.nx 0 n n 0,h.push (.cells ys e (0,0))):=by
   have c1':zl (n*i.size) 16777216=true:=c1;simp only[EA,hu,hi,c1',c2,c3,yr,we,g1,H6]
  rw[hd];exact OK.new hr (o:=.arr false e s el) (n:=n) rfl ⟨_,_,rfl,k2.mono (fun _ _ h=>h),ze _,k1⟩ (OO (.inl rfl))
end
section
variable {B:Nat}{h0:H0}{F:Fz}{ρ:D2}{N:Nat}{C:Ctx}{st st':AJ}{fr:Fr}{h h':H}
theorem D0{x:Operand}{k:PV->PO}{v:PV}:(v1 st x k).To v st'↔∃p,Qg st x=some p/\(k p).To v st':=by
 unfold v1;cases Qg st x with
 |none=>simp
 |some p=>simp
theorem gN(hf:FP F ρ N st fr){x:Option Operand}{k:Option PV->PO}{v:PV}(ht:(o1 st x k).To v st'):∃p y,UT C fr x=some y/\SW F ρ N p y/\(k p).To v st':=by
 unfold o1 at ht;cases x with
 |none=>exact⟨none,none,rfl,rfl,ht⟩
 |some x=>
  obtain⟨p,h1,h2⟩:=D0.1 ht;obtain⟨y,g1,g2⟩:=B7 (C:=C) hf h1;exact⟨some p,some y,by simp[UT,g1],⟨y,rfl,g2⟩,h2⟩
theorem YP(hr:SR B h0 F ρ st.nx st.ob h){b:Builtin}{ts:Array TypeId}{ps:List PV}{xs:List V}(hx:Bb F ρ st.nx ps xs){v:PV}(ht:(HZ C.T b ts ps st).To v st'):
  OK B h0 F ρ st h (match b with| .append| .clear=>E4 ps| .unsafeString=>vO ps|_=>[]) (D9 C h b ts xs) v st':=by
 unfold HZ at ht;split at ht
 case h_8=>simp at ht
 case h_7=>exact uL hr hx ht
 case h_6=>exact qG hr hx ht
 case h_5=>exact qB hr hx ht
 case h_1=>exact Aak hr hx ht
 case h_2=>exact eW hr hx ht
 case h_3=>exact zF (g:=iX) hr (fun k x y=>by simp[iX,imax]) hx ht
 case h_4=>exact zF (g:=iF) hr (fun k x y=>by simp[iF,Er]) hx ht
theorem kN(hr:Rel B h0 F ρ st fr h){o:Oper}{v:PV}(ht:(pop o.op C.T st).To v st'):
  ∃tch,OK B h0 F ρ st h tch (Gf C fr h o) v st'/\∀sp ids,GS sp st o.op=some ids->∀i∈tch,i∈ids:=by
 have nil:∀ {d:Option OR} {op:Op},OK B h0 F ρ st h [] d v st'->∃tch,OK B h0 F ρ st h tch d v st'/\∀sp ids,GS sp st op=some ids->∀i∈tch,i∈ids:=fun h=>⟨[],h,fun _ _ _ i hi=>by cases hi⟩
 have ev1:∀ {x p},Qg st x=some p->∃y,ev C fr x=some y/\PR F ρ st.nx p y:=fun hp=>B7 hr.fp hp
 unfold pop at ht;rw[CP];unfold GC;cases hop:o.op<;>rw[hop]at ht<;>simp only[Ji,Lw]at ht<;>simp only
 case move x|assign x=>
  simp only[VU,Kf]at ht;obtain⟨h1,rfl⟩:=ht;obtain⟨y,g1,g2⟩:=ev1 h1;refine nil ?_;rw[g1];exact zg hr.sr rfl g2
 case pick c a b=>
  simp only[fV,D0]at ht;obtain⟨p,h1,q,h2,r,h3,ht⟩:=ht;obtain⟨x,g1,g2⟩:=ev1 h1;obtain⟨y,g3,g4⟩:=ev1 h2;obtain⟨z,g5,g6⟩:=ev1 h3;obtain⟨t,rfl,hk⟩:=wL hr.sr g2 g4 g6 ht;refine nil ?_;rw[g1];simp only;cases t
  ·simpa [g5]using hk
  ·simpa [g3]using hk
 case alloc t=>exact nil (nE hr.sr ht)
 case box t x=>
  simp only[rS,D0]at ht;obtain⟨p,h1,ht⟩:=ht;obtain⟨y,g1,g2⟩:=ev1 h1;split at ht
  case h_2=>simp at ht
  rename_i cs hcs;cases hs:Det.KP (Jq st) cs with
  |false=>rw[hs]at ht;simp at ht
  |true=>
  rw[hs]at ht;simp only[we,AR]at ht;obtain⟨rfl,rfl⟩:=ht;refine nil ?_;rw[g1];exact yH hr.sr g2 hcs (by rw[<-E6];exact hs)
 case build t ps=>
  simp only[W9]at ht;split at ht
  case h_2=>simp at ht
  rename_i l hl;obtain⟨l',g1,g2⟩:=Ph (C:=C) hr.fp hl;refine nil ?_;rw[g1];exact kX hr.sr g2 ht
 case buildSlice t n ps=>
  simp only[Tj]at ht;split at ht
  case h_2=>simp at ht
  rename_i l hl;obtain⟨l',g1,g2⟩:=Ph (C:=C) hr.fp hl;refine nil ?_;rw[g1];exact iZ hr.sr g2 ht
 case load t x=>
  simp only[aE,D0]at ht;obtain⟨p,h1,ht⟩:=ht;obtain⟨y,g1,g2⟩:=ev1 h1;refine nil ?_;rw[g1];exact iA hr.sr g2 ht
 case store t x y=>
  simp only[Xl,D0]at ht;obtain⟨p,h1,q,h2,ht⟩:=ht;obtain⟨a,g1,g2⟩:=ev1 h1;obtain⟨b,g3,g4⟩:=ev1 h2;obtain⟨id,hid,hk⟩:=mO hr.sr g2 g4 ht;refine⟨[id],by rw[g1,g3];exact hk,fun sp ids hids=>?_⟩;simp only[GS,h1]at hids;rcases hid with⟨off,rfl⟩|⟨sz,j,off,rfl⟩<;>(simp only[zj]at hids;subst hids;intro i hi;exact hi)
 case nilCheck x=>
  simp only[N1,D0]at ht;obtain⟨p,h1,ht⟩:=ht;obtain⟨y,g1,g2⟩:=ev1 h1;rw[g1];split at ht
  case h_4=>simp at ht
  case h_1=>
   rename_i id off;cases hl:HR (st.obj id)with
   |false=>rw[hl]at ht;simp at ht
   |true=>
    rw[hl]at ht;simp only[we,AR]at ht;obtain⟨rfl,rfl⟩:=ht;obtain⟨b,n,k1⟩:=hr.sr.live hl;have g2':=g2;simp only[PR]at g2';obtain rfl:=g2'.2 b n k1;exact nil (zg hr.sr rfl g2)
  case h_2=>
   rename_i id sz j off;cases hl:HR (st.obj id)with
   |false=>rw[hl]at ht;simp at ht
   |true=>
    rw[hl]at ht;simp only[we,AR]at ht;obtain⟨rfl,rfl⟩:=ht;obtain⟨b,n,k1⟩:=hr.sr.live hl;have g2':=g2;simp only[PR]at g2';obtain rfl:=g2'.2 b n k1;exact nil (zg hr.sr rfl g2)
  case h_3=>
   simp only[AR]at ht;obtain⟨rfl,rfl⟩:=ht;have g2':=g2;simp only[PR]at g2';obtain⟨b,o',cs,rfl,_⟩:=g2';exact nil (zg hr.sr rfl g2)
 case binOp op t x y t2=>
  simp only[rQ,D0]at ht;obtain⟨p,h1,q,h2,ht⟩:=ht;obtain⟨a,g1,g2⟩:=ev1 h1;obtain⟨b,g3,g4⟩:=ev1 h2;refine nil ?_;rw[g1,g3];split at ht
  case h_2=>exact xU hr.sr g2 g4 ht
  rename_i r hn;simp only[AR]at ht;obtain⟨rfl,rfl⟩:=ht;unfold rG at hn;split at hn
  case h_3=>cases hn
  all_goals
   rename_i m hu;cases hc:(XC x||XC y)with
   |false=>rw[hc]at hn;cases hn
   |true=>
    rw[hc]at hn;cases hn;simp only[PR]at g2 g4;subst g2 g4;exact zg hr.sr (by simp only[MD,jX,hu,hc,we,Bw]) (ID _)
 case unOp op t x=>
  simp only[yX,D0]at ht;obtain⟨p,h1,ht⟩:=ht;obtain⟨y,g1,g2⟩:=ev1 h1;refine nil ?_;rw[g1];exact AaE hr.sr g2 ht
 case convert s d x=>
  simp only[eX,D0]at ht;obtain⟨p,h1,ht⟩:=ht;obtain⟨y,g1,g2⟩:=ev1 h1;refine nil ?_;rw[g1];exact wN hr.sr g2 ht
 case makeFunc f a b=>
  simp only[aN]at ht;split at ht
  case h_2=>simp at ht
  rename_i x y hx hy;simp only[AR]at ht;obtain⟨rfl,rfl⟩:=ht;obtain⟨u,g1,g2⟩:=EN (C:=C) hr.fp hx;obtain⟨w,g3,g4⟩:=EN (C:=C) hr.fp hy;refine nil ?_;rw[g1,g3];exact zg hr.sr rfl (by unfold PR;exact⟨_,_,rfl,g2,g4⟩)
 case makeMap t r=>
  simp only[Xt]at ht;split at ht
  case h_2=>simp at ht
  refine nil ?_;exact mS hr.sr ht
 case lookup t x i ok=>
  simp only[TK,D0]at ht;obtain⟨p,h1,q,h2,ht⟩:=ht;obtain⟨a,g1,g2⟩:=ev1 h1;obtain⟨b,g3,g4⟩:=ev1 h2;refine nil ?_;rw[g1,g3];exact aB hr.sr g2 g4 ht
 case mapUpdate t m k x|insert t m k x=>
  simp only[O9,D0]at ht;obtain⟨p,h1,q,h2,r,h3,ht⟩:=ht;obtain⟨a,g1,g2⟩:=ev1 h1;obtain⟨b,g3,g4⟩:=ev1 h2;obtain⟨c,g5,g6⟩:=ev1 h3;obtain⟨id,rfl,hk⟩:=aV hr.sr g2 g4 g6 ht;refine⟨[id],by rw[g1,g3,g5];exact hk,fun sp ids hids=>?_⟩;simp only[GS,h1,zj]at hids;subst hids;intro i hi;exact hi
 case makeSlice t l c=>
  simp only[gE,D0]at ht;obtain⟨p,h1,q,h2,ht⟩:=ht;obtain⟨a,g1,g2⟩:=ev1 h1;obtain⟨b,g3,g4⟩:=ev1 h2;refine nil ?_;rw[g1,g3];exact tB hr.sr g2 g4 ht
 case slice t x lo hi mx=>
  simp only[XD,D0]at ht;obtain⟨p,h1,ht⟩:=ht;obtain⟨a,g1,g2⟩:=ev1 h1;obtain⟨l,l',k1,k2,ht⟩:=gN (C:=C) hr.fp ht;obtain⟨m,m',k3,k4,ht⟩:=gN (C:=C) hr.fp ht;obtain⟨n,n',k5,k6,ht⟩:=gN (C:=C) hr.fp ht;refine nil ?_;rw[g1,k1,k3,k5];exact pO hr.sr g2 k2 k4 k6 ht
 case fieldAddr t x f=>
  simp only[XS,D0]at ht;obtain⟨p,h1,ht⟩:=ht;obtain⟨y,g1,g2⟩:=ev1 h1;refine nil ?_;rw[g1];exact oH hr.sr g2 ht
 case field t x f=>
  simp only[Xh,D0]at ht;obtain⟨p,h1,ht⟩:=ht;obtain⟨y,g1,g2⟩:=ev1 h1;refine nil ?_;rw[g1];exact nM hr.sr g2 ht
 case indexAddr t x i=>
  simp only[X3,D0]at ht;obtain⟨p,h1,q,h2,ht⟩:=ht;obtain⟨a,g1,g2⟩:=ev1 h1;obtain⟨b,g3,g4⟩:=ev1 h2;refine nil ?_;rw[g1,g3];exact oG hr.sr g2 g4 ht
 case index t x i=>
  simp only[WI,D0]at ht;obtain⟨p,h1,q,h2,ht⟩:=ht;obtain⟨a,g1,g2⟩:=ev1 h1;obtain⟨b,g3,g4⟩:=ev1 h2;refine nil ?_;rw[g1,g3];exact mJ hr.sr g2 g4 ht
 case extract x i=>
  simp only[QX,D0]at ht;obtain⟨p,h1,ht⟩:=ht;obtain⟨y,g1,g2⟩:=ev1 h1;refine nil ?_;rw[g1];exact Yv hr.sr g2 ht
 case range t x=>
  simp only[Xo,D0]at ht;obtain⟨p,h1,ht⟩:=ht;obtain⟨y,g1,g2⟩:=ev1 h1;refine nil ?_;rw[g1];exact pU hr.sr g2 ht
 case next x i=>
  simp only[eV,D0]at ht;obtain⟨p,h1,ht⟩:=ht;obtain⟨y,g1,g2⟩:=ev1 h1;obtain⟨rfl,id,off,rfl,hk⟩:=vV hr.sr g2 ht;refine⟨[id],by rw[g1];exact hk,fun sp ids hids=>?_⟩;simp only[GS]at hids;cases hids
 case call c=>
  simp only[Rw]at ht;split at ht
  case h_1=>simp at ht
  rename_i args hargs;obtain⟨args',g1,g2⟩:=EN (C:=C) hr.fp hargs;split at ht
  case h_2=>simp at ht
  case h_1=>
   rename_i b hb;split at ht
   case h_1=>
    obtain⟨id,qs,rfl,hk⟩:=fH hr.sr g2 ht;refine⟨[id],by rw[hb,g1];exact hk,fun sp ids hids=>?_⟩;simp only[GS,hb,hargs,zj]at hids;subst hids;intro i hi;exact hi
   case h_2=>
   have:=YP hr.sr g2 ht;refine⟨_,by rw[hb,g1];exact this,fun sp ids hids=>?_⟩;simp only[GS,hb,hargs]at hids;cases b<;>simp only at hids ⊢<;>try (first|(intro i hi;cases hi;done)|(cases hids;done))
   case append=>
    cases args with
    |nil=>simp[E4]
    |cons p ps=>cases p<;>simp only[zj]at hids<;>subst hids<;>(intro i hi;exact hi)
   case unsafeString=>
    cases args with
    |nil=>simp[vO]
    |cons p ps=>cases p<;>first|(cases hids;done)|(cases hids;intro i hi;exact hi)
end
section
variable {B:Nat}{h0:H0}{F:Fz}{ρ:D2}{N:Nat}{X:A3}{st st':AJ}{fr:Fr}{h h':H}{Q:PV->Ob->Prop}{n:Nat}
@[simp] theorem CZ(st:AJ)(t:Nat)(p:PV)(s:Nat):(st.set t p).get s=if s=t then p else st.get s:=by
 unfold AJ.get AJ.set;simp only[PM.CZ];split<;>rfl
theorem Rel.set(hr:Rel B h0 F ρ st fr h){t:Nat}{p:PV}{x:V}(hp:PR F ρ st.nx p x):Rel B h0 F ρ (st.set t p) ⟨fr.n,fr.m.set t (some x)⟩ h:=by
 refine⟨⟨hr.fp.n,fun s=>?_⟩,hr.sr⟩;rw[CZ];unfold Fr.get;simp only[PM.CZ];split
 ·exact hp
 ·exact hr.fp.slot s
theorem Rel.note(hr:Rel B h0 F ρ st fr h){t:Nat}{p:PV}(hp:PR F ρ st.nx p (fr.get t)):Rel B h0 F ρ (st.set t p) fr h:=by
 refine⟨⟨hr.fp.n,fun s=>?_⟩,hr.sr⟩;rw[CZ];split
 ·rename_i e;subst e;exact hp
 ·exact hr.fp.slot s
theorem Rel.put(hr:Rel B h0 F ρ st fr h){d:Option Nat}{p:PV}{x:V}(hp:PR F ρ st.nx p x)(hd:st.put d p=some st'):∃fr',fr.put d x=some fr'/\Rel B h0 F ρ st' fr' h/\st'.nx=st.nx/\st'.ob=st.ob:=by
 unfold AJ.put at hd;unfold Fr.put;cases d with
 |none=>cases hd;exact⟨fr,rfl,hr,rfl,rfl⟩
 |some t=>
  simp only at hd ⊢;have hn:st.n=fr.n:=hr.fp.n;rw[hn]at hd;cases hb:zr t fr.n with
  |false=>rw[hb]at hd;cases hd
  |true=>
   rw[hb]at hd;simp only[we,zj]at hd;subst hd;exact⟨_,rfl,hr.set hp,rfl,rfl⟩
structure Da(B:Nat)(h0:H0)(F:Fz)(ρ:D2)(N:Nat)(h:H)(st':AJ)(fr':Fr)(h':H)(F':Fz)(ρ':D2):Prop where
 rel:Rel B h0 F' ρ' st' fr' h'
 le:Le F ρ N F' ρ' st'.nx
 nx:h.nx<=h'.nx
theorem Da.refl(hr:Rel B h0 F ρ st fr h):Da B h0 F ρ st.nx h st fr h F ρ:=⟨hr,yf,ze _⟩
theorem Da.trans{F' F'':Fz}{ρ' ρ'':D2}{st'':AJ}{fr' fr'':Fr}{h'':H}(a:Da B h0 F ρ N h st' fr' h' F' ρ')(b:Da B h0 F' ρ' st'.nx h' st'' fr'' h'' F'' ρ''):Da B h0 F ρ N h st'' fr'' h'' F'' ρ'':=
 ⟨b.rel,a.le.trans b.le,yu a.nx b.nx⟩
def yB(X:A3)(ρ:D2)(h:H)(args':List V):uN->Cl->Prop
 | .fn g,c=>c=.fn g args'/\X.C.prim g=none/\∃i,X.C.fn g=some i
 | .rnd id,c=>∃b n ls,ρ id=some (b,n)/\h.get b=some (.loop ls)/\args'.length=ls.ps.size/\c=.rnd b ls (Gd ls.ps.toList args' ls.fr)
inductive MS (X:A3) (ρ:D2) (h:H) (args':List V):uN->List (V×H)->Prop where
 |Bi {g:uN} {c:Cl} {l:List (V×H)} {M:Nat}:yB X ρ h args' g c->(∀m,M<=m->Det.Bi X.C m c h=some l)->MS X ρ h args' g l
 |prim {g:FuncId} {q:List V->H->Option (V×H)} {x:V×H}:X.C.prim g=some q->q args' h=some x->MS X ρ h args' (.fn g) [x]
def EU(B:Nat)(h0:H0)(X:A3)(nd:Bool)(call:Fj):Prop:=
 ∀ {Q:PV->Ob->Prop} {n:Nat} {g:uN} {args:List PV} {st:AJ} {k:PV->AJ->Tr},Ev X Q n (call g args st k)->∀ {F:Fz} {ρ:D2} {fr:Fr} {h:H} {args':List V},Rel B h0 F ρ st fr h->Bb F ρ st.nx args args'->
  ∃l,MS X ρ h args' g l/\(nd=false->∃x,l=[x])/\
   ∀x∈l,∃n',n'<=n/\∃r st',Ev X Q n' (k r st')/\∃F' ρ',PR F' ρ' st'.nx r x.1/\Da B h0 F ρ st.nx h st' fr x.2 F' ρ'/\(∀gg,g=.fn gg->∀sp,X.sp gg=some sp->∀b,b<h.nx->x.2.get b=h.get b)
theorem Ev.Ey{c:Bool}{a b:Tr}(he:Ev X Q n (.ite c a b)):(c=true/\Ev X Q n a)\/(c=false/\Ev X Q n b):=by
 cases he with
 |ite h1 h2=>
  cases c with
  |true=>exact .inl ⟨rfl,h1 rfl⟩
  |false=>exact .inr ⟨rfl,h2 rfl⟩
theorem Ev.S5{a b:Tr}(he:Ev X Q n (.both a b)):Ev X Q n a/\Ev X Q n b:=by
 cases he with
 |both h1 h2=>exact⟨h1,h2⟩
theorem Ev.AB:¬Ev X Q n .fail:=fun h=>by cases h
theorem Ev.XH{v:PV}{ob:Ob}(he:Ev X Q n (.leaf v ob)):Q v ob:=by
 cases he with
 |leaf h=>exact h
theorem MC(hr:Rel B h0 F ρ st fr h){ops:Array Oper}{o:Oper}{yes no:AJ->Tr}(he:Ev X Q n (guarded ops o st yes no)):
  ∃st1,Rel B h0 F ρ st1 fr h/\st1.nx=st.nx/\st1.ob=st.ob/\((A9 fr ops o=true/\Ev X Q n (yes st1))\/(A9 fr ops o=false/\Ev X Q n (no st1))):=by
 unfold guarded at he;unfold A9;cases hg:o.guard with
 |none=>rw[hg]at he;exact⟨st,hr,rfl,rfl,.inl ⟨rfl,he⟩⟩
 |some jw=>
  obtain⟨j,want⟩:=jw;rw[hg]at he;simp only at he ⊢;cases hb:(ops[j]?).bind (·.dst)with
  |none=>rw[hb]at he;exact wh he Ev.AB
  |some t=>
   rw[hb]at he;simp only at he ⊢;rw[show st.n=fr.n from hr.fp.n]at he;cases hlt:zr t fr.n with
   |false=>rw[hlt]at he;exact wh he Ev.AB
   |true=>
    rw[hlt]at he;simp only[we]at he ⊢;have hs:=hr.fp.slot t;split at he
    case h_1=>
     rename_i b hb2;rw[hb2]at hs;rw[N3 hs];refine⟨st,hr,rfl,rfl,?_⟩;cases hbw:(b==want)with
     |true=>rw[hbw]at he;exact .inl ⟨hbw,he⟩
     |false=>rw[hbw]at he;exact .inr ⟨hbw,he⟩
    case h_2=>
     rename_i b hb2;rw[hb2]at hs;have hv:=Hu hs;have note:∀c:Bool,b=c->Rel B h0 F ρ (st.set t (.bl c)) fr h:=by
      rintro c rfl;exact hr.note (by rw[hv];exact ID _)
     rw[hv];cases want with
     |true=>
      simp only[we]at he;rcases he.Ey with⟨hb3,he⟩|⟨hb3,he⟩
      ·exact⟨_,note true hb3,rfl,rfl,.inl ⟨by rw[show b=true from hb3];rfl,he⟩⟩
      ·exact⟨_,note false hb3,rfl,rfl,.inr ⟨by rw[show b=false from hb3];rfl,he⟩⟩
     |false=>
      simp only[wg]at he;rcases he.Ey with⟨hb3,he⟩|⟨hb3,he⟩
      ·exact⟨_,note true hb3,rfl,rfl,.inr ⟨by rw[show b=true from hb3];rfl,he⟩⟩
      ·exact⟨_,note false hb3,rfl,rfl,.inl ⟨by rw[show b=false from hb3];rfl,he⟩⟩
    case h_5=>exact wh he Ev.AB
    case h_4=>
     rename_i hb2;rw[hb2]at hs;simp only[PR]at hs;obtain⟨b,hv⟩:=hs;have note:∀c:Bool,b=c->Rel B h0 F ρ (st.set t (.bl c)) fr h:=by
      rintro c rfl;exact hr.note (by rw[hv];exact ID _)
     obtain⟨he1,he2⟩:=he.S5;rw[hv];cases b with
     |true=>
      cases want with
      |true=>exact⟨_,note true rfl,rfl,rfl,.inl ⟨rfl,he1⟩⟩
      |false=>exact⟨_,note true rfl,rfl,rfl,.inr ⟨rfl,he1⟩⟩
     |false=>
      cases want with
      |true=>exact⟨_,note false rfl,rfl,rfl,.inr ⟨rfl,he2⟩⟩
      |false=>exact⟨_,note false rfl,rfl,rfl,.inl ⟨rfl,he2⟩⟩
    case h_3=>
     rename_i l hb2;rw[hb2]at hs;simp only[PR]at hs;obtain⟨cs,hv,_⟩:=hs;rw[hv];exact⟨st,hr,rfl,rfl,.inr ⟨rfl,he⟩⟩
theorem I8{d:Option Nat}{k:AJ->Tr}:∀ {po:PO},Ev X Q n (OG d k po)->∃u s st1,po.To u s/\s.put d u=some st1/\Ev X Q n (k st1)
 | .bad,he=>wh he Ev.AB
 | .val u s,he=>by
  simp only[OG]at he;split at he
  ·rename_i s1 hs;exact⟨u,s,s1,.val,hs,he⟩
  ·exact wh he Ev.AB
 | .ite c a b,he=>by
  simp only[OG]at he;rcases he.Ey with⟨rfl,he2⟩|⟨rfl,he2⟩
  ·obtain⟨u,s,s1,h1,h2⟩:=I8 he2;exact⟨u,s,s1,.tt h1,h2⟩
  ·obtain⟨u,s,s1,h1,h2⟩:=I8 he2;exact⟨u,s,s1,.ff h1,h2⟩
inductive oI (X:A3) (fr:Fr) (h:H) (o:Oper):List (V×H)->Prop where
 |val {x:V} {h':H}:Gf X.C fr h o=some (.val x h')->oI X fr h o [(x,h')]
 |skip {h':H}:Gf X.C fr h o=some (.skip h')->oI X fr h o [(.tup [],h')]
 |alts {l:List (V×H)}:Gf X.C fr h o=some (.alts l)->oI X fr h o l
 |call {g:FuncId} {args:List V} {l:List (V×H)} {M:Nat}:Gf X.C fr h o=some (.enter g args)->(∀m,M<=m->Bi X.C m (.fn g args) h=some l)->oI X fr h o l
 |round {b:Nat} {ls:LS} {f:Fr} {l:List (V×H)} {M:Nat}:Gf X.C fr h o=some (.round b ls f)->(∀m,M<=m->Bi X.C m (.rnd b ls f) h=some l)->oI X fr h o l
theorem Hp{nd:Bool}{call:Fj}(hcall:EU B h0 X nd call)(hr:Rel B h0 F ρ st fr h){o:Oper}{k:AJ->Tr}(he:Ev X Q n (He X.C.T call o st k)):
  ∃l,oI X fr h o l/\((nd=false->(∃x,l=[x])/\∀l',Gf X.C fr h o≠some (.alts l'))/\((∀id a,JU st o.op≠ .yes (.rnd id) a)->∀b ls f,Gf X.C fr h o≠some (.round b ls f)))/\∀x∈l,∃n',n'<=n/\∃st1,Ev X Q n' (k st1)/\∃F' ρ' fr',fr.put o.dst x.1=some fr'/\Da B h0 F ρ st.nx h st1 fr' x.2 F' ρ'/\
   ∀ids,GS X.sp st o.op=some ids->∀b,b<h.nx->x.2.get b=h.get b\/∃id∈ids,∃m,ρ id=some (b,m):=by
 unfold He at he;split at he
 case h_2=>exact wh he Ev.AB
 case h_1=>
  rename_i g args hc;unfold JU at hc;split at hc
  case h_2=>cases hc
  rename_i c hop;split at hc
  case h_2=>cases hc
  rename_i f hcal;split at hc
  case h_3=>cases hc
  case h_2=>
   rename_i id ps hf hps;cases hc;obtain⟨fv,f1,f2⟩:=B7 (C:=X.C) hr.fp hf;obtain⟨av,a1,a2⟩:=EN (C:=X.C) hr.fp hps;simp only[PR]at f2;obtain⟨l,hcd,hnd,hall⟩:=hcall he hr a2;obtain⟨hcd1,hM⟩:=hcd;obtain⟨b,m,ls,c1,c2,c3,rfl⟩:=hcd1;obtain rfl:=f2.2 b m c1;have hdop:Gf X.C fr h o=some (.round b ls (Gd ls.ps.toList av ls.fr)):=by
    rw[CP];unfold GC;have hb:zf av.length ls.ps.size=true:=by rw[c3];exact z7 _
    simp only[hop,hcal,a1,f1,J8,c2,hb,we]
   refine⟨l,.round hdop hM,⟨fun e=>⟨hnd e,fun l'=>by rw[hdop];intro h;cases h⟩,fun hno=>?_⟩,fun x hx=>?_⟩
   ·exact wh (by unfold JU;simp only[hop,hcal,hf,hps]) (hno id args)
   obtain⟨n',hn,r,st',he',F',ρ',hp,hw,hsp⟩:=hall x hx;split at he'
   case h_2=>exact wh he' Ev.AB
   rename_i st1 hput;obtain⟨fr',g1,g2,g3,g4⟩:=hw.rel.put hp hput;refine⟨n',hn,st1,he',F',ρ',fr',g1,⟨g2,by rw[g3];exact hw.le,hw.nx⟩,fun ids hids b hb=>?_⟩;simp only[hop,GS,hcal,hf]at hids;cases hids
  rename_i g' first cap ps hf hps
  cases hc;obtain⟨fv,f1,f2⟩:=B7 (C:=X.C) hr.fp hf;obtain⟨av,a1,a2⟩:=EN (C:=X.C) hr.fp hps;simp only[PR]at f2;obtain⟨fa,fb,rfl,f3,f4⟩:=f2;have hargs:Bb F ρ st.nx (first++ps++cap) (fa++av++fb):=(f3.append a2).append f4;obtain⟨l,hcd,hnd,hall⟩:=hcall he hr hargs;have hdid:oI X fr h o l/\(∀l',Gf X.C fr h o≠some (.alts l'))/\∀b ls f,Gf X.C fr h o≠some (.round b ls f):=by
   cases hcd with
   |Bi hc hM=>
    obtain⟨rfl,hprim,i,hfn⟩:=hc;have hdop:Gf X.C fr h o=some (.enter g' (fa++av++fb)):=by
     rw[CP];unfold GC;simp only[hop,hcal,a1,f1,J8,hprim,hfn]
    exact⟨.call hdop hM,fun l'=>(by rw[hdop];intro h;cases h),fun b ls f=>(by rw[hdop];intro h;cases h)⟩
   |prim hq hx=>
    rename_i q x;have hdop:Gf X.C fr h o=some (.val x.1 x.2):=by
     rw[CP];unfold GC;simp only[hop,hcal,a1,f1,J8,hq,hx,EX]
    exact⟨.val hdop,fun l'=>(by rw[hdop];intro h;cases h),fun b ls f=>(by rw[hdop];intro h;cases h)⟩
  refine⟨l,hdid.1,⟨fun e=>⟨hnd e,hdid.2.1⟩,fun _=>hdid.2.2⟩,fun x hx=>?_⟩;obtain⟨n',hn,r,st',he',F',ρ',hp,hw,hsp⟩:=hall x hx;split at he'
  case h_2=>exact wh he' Ev.AB
  rename_i st1 hput;obtain⟨fr',g1,g2,g3,g4⟩:=hw.rel.put hp hput;refine⟨n',hn,st1,he',F',ρ',fr',g1,⟨g2,by rw[g3];exact hw.le,hw.nx⟩,fun ids hids b hb=>?_⟩;simp only[hop,GS,hcal,hf]at hids;cases hs:X.sp g' with
  |none=>rw[hs]at hids;cases hids
  |some sp=>exact .inl (hsp g' rfl sp hs b hb)
 case h_3=>
  obtain⟨u,s,st1,h1,h2,h3⟩:=I8 he;obtain⟨tch,⟨v',h',F',ρ',g1,g2,g3,g4,g5,g6,g7,g8⟩,htch⟩:=kN (C:=X.C) hr h1;have hrs:Rel B h0 F' ρ' s fr h':=⟨⟨by rw[g6];exact hr.fp.n,fun t=>by
   have:s.get t=st.get t:=by unfold AJ.get;rw[g5]
   rw[this];exact(hr.fp.slot t).mono g4⟩,g3⟩
  obtain⟨fr',k1,k2,k3,k4⟩:=hrs.put g2 h2;refine⟨[(v',h')],?_,⟨fun _=>⟨⟨_,rfl⟩,fun l'=>by rcases g1 with g1|⟨g1,_⟩<;>rw[g1]<;>intro h<;>cases h⟩,fun _ b ls f=>by rcases g1 with g1|⟨g1,_⟩<;>rw[g1]<;>intro h<;>cases h⟩,fun x hx=>?_⟩
  ·rcases g1 with g1|⟨g1,rfl⟩
   ·exact .val g1
   ·exact .skip g1
  ·cases zk.1 hx;refine⟨n,ze _,st1,h3,F',ρ',fr',k1,⟨k2,by rw[k3];exact g4,g7⟩,fun ids hids b hb=>?_⟩;rcases g8 b hb with e|⟨id,hi,m,e⟩
   ·exact .inl e
   ·exact .inr ⟨id,htch _ _ hids id hi,m,e⟩
theorem tC{α β:Type}{f:α->Option (List β)}{x:α}:bl [x] f=f x:=by
 unfold bl;cases f x<;>rfl
theorem Ks{α β:Type}{f:Nat->Nat->α->Option (List β)}{P:β->Prop}{nd:Bool}{l:List α}(hone:nd=false->∃x,l=[x])(h:∀a∈l,∃r M,(∀m,M<=m->∀q,M<=q->f m q a=some r)/\(nd=false->∃x,r=[x])/\∀y∈r,P y):
  ∃r M,(∀m,M<=m->∀q,M<=q->bl l (f m q)=some r)/\(nd=false->∃x,r=[x])/\∀y∈r,P y:=by
 cases nd with
 |false=>
  obtain⟨x,rfl⟩:=hone rfl;obtain⟨r,M,h1,h2,h3⟩:=h x (zk.2 rfl);exact⟨r,M,fun m hm q hq=>by rw[tC];exact h1 m hm q hq,h2,h3⟩
 |true=>
  clear hone;suffices hs:∃r M,(∀m,M<=m->∀q,M<=q->bl l (f m q)=some r)/\∀y∈r,P y by
   obtain⟨r,M,h1,h2⟩:=hs;exact⟨r,M,h1,fun e=>(by cases e),h2⟩
  induction l with
  |nil=>exact⟨[],0,fun _ _ _ _=>rfl,fun y hy=>by cases hy⟩
  |cons a l ih=>
   obtain⟨r,M,h1,_,h2⟩:=h a List.mem_cons_self;obtain⟨r2,M2,h3,h4⟩:=ih (fun x hx=>h x (List.mem_cons_of_mem _ hx));cases l with
   |nil=>exact⟨r,M,fun m hm q hq=>(by simp only[bl,h1 m hm q hq]),h2⟩
   |cons b l=>
    refine⟨r++r2,max M M2,fun m hm q hq=>?_,fun y hy=>?_⟩
    ·unfold bl;rw[h1 m (by omega) q (by omega)];simp only;rw[h3 m (by omega) q (by omega)]
    ·rcases List.mem_append.1 hy with hy|hy
     ·exact h2 y hy
     ·exact h4 y hy
theorem O8{d:Option Nat}{P:Fr×H->Prop}:∀ {l:List (V×H)},(∀x∈l,∃fr',fr.put d x.1=some fr'/\P (fr',x.2))->∃r,G9 fr d l=some r/\(∀y∈r,P y)/\((∃x,l=[x])->∃y,r=[y])
 |[],_=>⟨[],rfl,fun y hy=>(by cases hy),fun⟨x,h⟩=>by cases h⟩
 |x::l,h=>by
  obtain⟨fr',h1,h2⟩:=h x List.mem_cons_self;obtain⟨r,h3,h4,_⟩:=O8 (l:=l) (fun y hy=>h y (List.mem_cons_of_mem _ hy));refine⟨(fr',x.2)::r,?_,fun y hy=>?_,fun⟨z,hz⟩=>?_⟩
  ·obtain⟨v,hv⟩:=x;unfold G9;rw[h1];simp only;rw[h3]
  ·rcases List.mem_cons.1 hy with rfl|hy
   ·exact h2
   ·exact h4 y hy
  ·cases hz;cases h3;exact⟨_,rfl⟩
theorem oI.AaT{l:List (V×H)}{o:Oper}{ops:Array Oper}(hd:oI X fr h o l)(hw:A9 fr ops o=true){P:Fr×H->Prop}(hp:∀x∈l,∃fr',fr.put o.dst x.1=some fr'/\P (fr',x.2)):
  ∃r M,(∀m,M<=m->step1 X.C (Bi X.C m) ops o fr h=some r)/\((∃x,l=[x])->∃y,r=[y])/\∀y∈r,P y:=by
 obtain⟨r,h3,h4,h5⟩:=O8 hp;cases hd with
 |@val x h' hd=>
  obtain⟨fr',k1,k2⟩:=hp _ (zk.2 rfl);exact⟨[(fr',h')],0,fun m _=>(by simp only[step1,hw,we,Ic,hd,k1]),fun _=>⟨_,rfl⟩,fun y hy=>by cases zk.1 hy;exact k2⟩
 |@skip h' hd=>
  obtain⟨fr',k1,k2⟩:=hp _ (zk.2 rfl);exact⟨[(fr',h')],0,fun m _=>(by simp only[step1,hw,we,Ic,hd,k1]),fun _=>⟨_,rfl⟩,fun y hy=>by cases zk.1 hy;exact k2⟩
 |alts hd=>exact⟨r,0,fun m _=>by simp only[step1,hw,we,Ic,hd,h3],h5,h4⟩
 |@call g args l M hd hM=>exact⟨r,M,fun m hm=>by simp only[step1,hw,we,Ic,hd,hM m hm,h3],h5,h4⟩
 |@round b ls f l M hd hM=>exact⟨r,M,fun m hm=>by simp only[step1,hw,we,Ic,hd,hM m hm,h3],h5,h4⟩
theorem Y9{T:BW}{h:H}{s d:TypeId}{b off:Nat}:Fu T h s d (.ptr b off)=none:=by
 unfold Fu;split<;>first|rfl|(rename_i e;cases e)
theorem eN(hr:Rel B h0 F ρ st fr h){o:Oper}{v:PV}(hb:tE X.C.T st o.op=some v):OK B h0 F ρ st h [] (Ic X.C fr h o) v st:=by
 have fin:∀ {s d:TypeId} {x:Operand} {b off:Nat} {u:V},o.op=.convert s d x->ev X.C fr x=some (.ptr b off)->CO X.C.T h s d (.ptr b off)=some u->PR F ρ st.nx v u->OK B h0 F ρ st h [] (Ic X.C fr h o) v st:=by
  intro s d x b off u hop g1 g2 g3;have hdop:Gf X.C fr h o=none:=by
   rw[CP];unfold GC;rw[hop];simp only[g1,Y9];rfl
  refine zg hr.sr (v':=u) ?_ g3;unfold Ic;rw[hdop,hop];simp only[g1,g2]
 unfold tE at hb;split at hb
 case h_2=>cases hb
 rename_i s d x hop;split at hb
 case h_3=>cases hb
 case h_1=>
  rename_i t id off hs hd hx;split at hb
  case h_2=>cases hb
  rename_i i tb cs hi ho;cases hc:(zr 0 i.size&&zr off (Det.El cs))with
  |false=>rw[hc]at hb;cases hb
  |true=>
   rw[hc]at hb;cases hb;obtain⟨y,g1,g2⟩:=B7 (C:=X.C) hr.fp hx;obtain⟨b,n,z,k1,k2,⟨bs,fz,rfl,k4,_⟩,_⟩:=hr.sr.at ho;have hy:=g2;simp only[PR]at hy;obtain rfl:=hy.2 b n k1;refine fin hop g1 ?_ g2;unfold CO;rw[hs,hd];simp only[hi,k2];rw[CS,k4.len]at hc;rw[hc];rfl
 case h_2=>
  rename_i u id off hs hd hx;split at hb
  case h_2=>cases hb
  rename_i i e cs hi ho;cases hc:(zr 0 i.size&&zl i.size (Det.El cs)&&zf e u&&zf off 0)with
  |false=>rw[hc]at hb;cases hb
  |true=>
   rw[hc]at hb;cases hb;obtain⟨y,g1,g2⟩:=B7 (C:=X.C) hr.fp hx;obtain⟨b,n,z,k1,k2,⟨bs,fz,rfl,k4,_⟩,_⟩:=hr.sr.at ho;have hy:=g2;simp only[PR]at hy;obtain rfl:=hy.2 b n k1;have h0:off=0:=by
    simp only[zc]at hc;exact zd hc.2
   subst h0;refine fin hop g1 (u:=.ptr b 0) ?_ g2;unfold CO;rw[hs,hd];simp only[hi,k2];rw[CS,k4.len]at hc;rw[hc];rfl
theorem Uv(hr:Rel B h0 F ρ st fr h){o:Oper}{v:PV}{stx:AJ}(hb:R8 X.C.T st o.op=some (v,stx)):OK B h0 F ρ st h [] (Ic X.C fr h o) v stx:=by
 unfold R8 at hb;split at hb
 case h_2=>cases hb
 rename_i s d x hop;split at hb
 case h_2=>cases hb
 rename_i e l hs hd hx;split at hb
 case h_2=>cases hb
 rename_i he;cases hb;obtain⟨y,g1,g2⟩:=B7 (C:=X.C) hr.fp hx;obtain rfl:=ER g2;have hdop:Gf X.C fr h o=none:=by
  rw[CP];unfold GC;rw[hop];simp only[g1,Fu,hs,hd];rfl
 have hx:Ic X.C fr h o=EX (some (.sl h.nx 0 l.length l.length 1,h.push (.cells (l.map fun b=>.int .u8 (.ofNat b.toNat)) e (0,0)))):=by
  have hpt:CO X.C.T h s d (.str l)=none:=by unfold CO;rw[hs,hd]
  unfold Ic;rw[hdop,hop];simp only[g1,hpt,RZ,hs,hd,he]
 rw[hx];refine OK.new hr.sr (o:=.arr false e (.int .u8) (l.map fun b=>(b.toNat:Int))) (n:=l.length) rfl ⟨l.map fun b=>y8 .u8 (.ofNat b.toNat),(0,0),rfl,⟨by simp[Sh.sz],fun j hj=>?_⟩,ze _,by simp⟩ ?_
 ·have hj':j<l.length:=by simpa using hj
  have e1:((l.map fun b=>y8 .u8 (.ofNat b.toNat)).drop (j*1)).take 1=[y8 .u8 (.ofNat (l[j]).toNat)]:=by
   rw[yn,zw (by simpa using hj')];simp
  show DC _ (.int .u8) _ (((l.map fun b=>y8 .u8 (.ofNat b.toNat)).drop (j*1)).take 1);rw[e1];simp[DC]
 ·unfold PR;refine⟨zz _,fun b m hb=>.inl ⟨ze _,?_,1,.inr rfl,?_⟩⟩
  ·simp[BL]at hb;show 0+l.length<=m;omega
  ·simp[BL]at hb;rw[<-hb.1];simp
theorem Ve(hr:Rel B h0 F ρ st fr h){o:Oper}{v:PV}{stx:AJ}(hb:VG X.C.T st o.op=some (v,stx)):OK B h0 F ρ st h [] (Ic X.C fr h o) v stx:=by
 unfold VG at hb;split at hb
 case h_1=>rename_i r hr0;cases hb;exact Uv hr hr0
 case h_2=>
  split at hb
  case h_2=>cases hb
  rename_i u hu;cases hb;exact eN hr hu
theorem Ux{nd:Bool}{call:Fj}(hcall:EU B h0 X nd call){ops:Array Oper}:∀ {l:List Oper} {n:Nat} {st:AJ} {F:Fz} {ρ:D2} {fr:Fr} {h:H} {k:AJ->Tr},Rel B h0 F ρ st fr h->Ev X Q n (prun X.C.T call ops l st k)->
  ∃r M,(∀m,M<=m->Ro X.C (Bi X.C m) ops l fr h=some r)/\(nd=false->∃x,r=[x])/\∀x∈r,∃n',n'<=n/\∃st1,Ev X Q n' (k st1)/\∃F' ρ',Da B h0 F ρ st.nx h st1 x.1 x.2 F' ρ'
 |[],n,st,F,ρ,fr,h,k,hr,he=>⟨[(fr,h)],0,fun _ _=>rfl,fun _=>⟨_,rfl⟩,fun x hx=>by cases zk.1 hx;exact⟨n,ze _,st,he,F,ρ,Da.refl hr⟩⟩
 |o::rest,n,st,F,ρ,fr,h,k,hr,he=>by
  unfold prun at he;obtain⟨st1,hr1,e1,e2,hcase⟩:=MC hr he;have fin:∀ {l:List (Fr×H)},(∃M,∀m,M<=m->step1 X.C (Bi X.C m) ops o fr h=some l)->(nd=false->∃x,l=[x])->
    (∀y∈l,∃n',n'<=n/\∃st2,Ev X Q n' (prun X.C.T call ops rest st2 k)/\∃F' ρ',Da B h0 F ρ st.nx h st2 y.1 y.2 F' ρ')->
    ∃r M,(∀m,M<=m->Ro X.C (Bi X.C m) ops (o::rest) fr h=some r)/\(nd=false->∃x,r=[x])/\∀x∈r,∃n',n'<=n/\∃st1,Ev X Q n' (k st1)/\∃F' ρ',Da B h0 F ρ st.nx h st1 x.1 x.2 F' ρ':=by
   rintro l ⟨M1,hM1⟩ hone hl;obtain⟨r,M,h1,h2,h3⟩:=Ks (f:=fun m _ (x:Fr×H)=>Ro X.C (Bi X.C m) ops rest x.1 x.2) (P:=fun x=>∃n',n'<=n/\∃st1,Ev X Q n' (k st1)/\∃F' ρ',Da B h0 F ρ st.nx h st1 x.1 x.2 F' ρ') hone fun y hy=>by
    obtain⟨n1,hn1,st2,he2,F1,ρ1,hwent⟩:=hl y hy;obtain⟨r,M,h1,h3,h2⟩:=Ux hcall hwent.rel he2;refine⟨r,M,fun m hm _ _=>h1 m hm,h3,fun z hz=>?_⟩;obtain⟨n2,hn2,st3,he3,F2,ρ2,hwent2⟩:=h2 z hz;exact⟨n2,yu hn2 hn1,st3,he3,F2,ρ2,hwent.trans hwent2⟩
   refine⟨r,max M M1,fun m hm=>?_,h2,h3⟩;simp only[Ro,hM1 m (by omega)];exact h1 m (by omega) m (by omega)
  rcases hcase with⟨hw,he⟩|⟨hw,he⟩
  ·unfold rC at he;split at he
   case h_1=>
    rename_i v stx hb;split at he
    case h_2=>exact wh he Ev.AB
    rename_i st2 hput;obtain⟨v',h',F',ρ',g1,g2,g3,g4,g5,g6,g7,g8⟩:=Ve hr1 hb;have hrs:Rel B h0 F' ρ' stx fr h':=⟨⟨by rw[g6];exact hr1.fp.n,fun t=>by
     have:stx.get t=st1.get t:=by unfold AJ.get;rw[g5]
     rw[this];exact(hr1.fp.slot t).mono g4⟩,g3⟩
    have hpr:∃u,PR F' ρ' stx.nx v u/\∀fr',fr.put o.dst u=some fr'->∀m,step1 X.C (Bi X.C m) ops o fr h=some [(fr',h')]:=by
     rcases g1 with g1|⟨g1,rfl⟩
     ·exact⟨v',g2,fun fr' k1 m=>by simp only[step1,hw,we,g1,k1]⟩
     ·exact⟨.tup [],g2,fun fr' k1 m=>by simp only[step1,hw,we,g1,k1]⟩
    obtain⟨u,hu,Dx⟩:=hpr;obtain⟨fr',k1,k2,k3,k4⟩:=hrs.put hu hput;refine fin (l:=[(fr',h')]) ⟨0,fun m _=>Dx fr' k1 m⟩ (fun _=>⟨_,rfl⟩) fun y hy=>?_
    cases zk.1 hy;exact⟨n,ze _,st2,he,F',ρ',k2,by rw[k3, <-e1];exact g4,g7⟩
   obtain⟨l,hdid,hnd,hall⟩:=Hp hcall hr1 he;obtain⟨r,M,h1,h3,h2⟩:=hdid.AaT (ops:=ops) (P:=fun y=>∃n',n'<=n/\∃st2,Ev X Q n' (prun X.C.T call ops rest st2 k)/\∃F' ρ',Da B h0 F ρ st.nx h st2 y.1 y.2 F' ρ') hw fun x hx=>by
    obtain⟨n1,hn1,st2,he2,F1,ρ1,fr1,hput,hwent,_⟩:=hall x hx;rw[e1]at hwent;exact⟨fr1,hput,n1,hn1,st2,he2,F1,ρ1,hwent⟩
   exact fin ⟨M,h1⟩ (fun e=>h3 (hnd.1 e).1) h2
  ·unfold Mi at he;split at he
   case h_2=>exact wh he Ev.AB
   rename_i st2 hput;obtain⟨fr1,g1,g2,g3,g4⟩:=hr1.put (x:=.tup []) (by simp[PR]) hput;refine fin (l:=[(fr1,h)]) ⟨0,fun m _=>by simp only[step1,hw,wg,g1]⟩ (fun _=>⟨_,rfl⟩) fun y hy=>?_
   cases zk.1 hy;exact⟨n,ze _,st2,he,F,ρ,g2,by rw[g3,e1];exact yf,ze _⟩
end
end Go.Pe
