import Derived.Test.YtmcnicakonagdaaGreatDoorX07
/- A part of a proof (no law is stated here). Made by program out of texts by AI agents. -/
noncomputable section
open Bool renaming and_eq_true -> zc, and_self -> yr, or_true -> y7
open Nat renaming eq_of_beq_eq_true -> zd, le_refl -> ze, beq -> zf, mul_le_mul_right -> zh, ble_eq_true_of_le -> zi, ble -> zl, add_mul -> zp, blt -> zr, succ_mul -> zt, zero_mul -> zu, lt_succ_self -> zz, beq_refl -> z7, min_eq_left -> ye, sub_self -> yk, mul_one -> yn, le_trans -> yu, add_assoc -> yy, add_comm -> yz
open Go.Pe.OK renaming pure -> zg
open Option.some renaming injEq -> zj
open List renaming mem_singleton -> zk, replicate -> zn, length_eq_zero_iff -> zo, drop_eq_getElem_cons -> zw, replicate_succ -> zx, all_eq_true -> z6, length_replicate -> ya, getElem?_append_right -> yb, getElem?_append_left -> yc, length_nil -> yd, drop_zero -> yg, getElem?_range -> yj, flatten_cons -> yo, ext_getElem? -> yp, getElem?_map -> yq, getElem_cons_zero -> yv, take_of_length_le -> yw, length_map -> yx
open Option renaming map_eq_some_iff -> zm, map_some -> zq, getD_some -> yh
open Int renaming ofNat -> zy, eq_ofNat_of_zero_le -> yt
open Prod.mk renaming injEq -> z8
open Go.Pe.Le renaming refl -> yf
open List.cons renaming injEq -> yi
open Go.Det.V renaming int -> y8
open Go.Pe renaming Cd -> y9
namespace Go.Pe
open Go.Det
section
variable {B:Nat}{h0:H0}{F:Fz}{ρ:Ec}{N:Nat}{C:Ctx}{st st':AK}{fr:Fr}{h:H}
theorem SR.live(hr:SR B h0 F ρ st.nx st.ob h){id:Nat}(hi:H8 (st.obj id)=true):∃b n,ρ id=some (b,n):=by
 obtain⟨o,ho⟩:=IJ hi;obtain⟨b,n,_,h1,_⟩:=hr.at ho;exact⟨b,n,h1⟩
theorem DF{i:Int}(h:0<=i):∃n:Nat,i=zy n/\i.toNat=n:=⟨i.toNat,(Int.toNat_of_nonneg h).symm,rfl⟩
theorem DI{a b:Nat}(h:a<b):zr a b=true:=zi h
theorem iZ(hr:SR B h0 F ρ st.nx st.ob h){t:TypeId}{p q:PV}{x y:V}(hx:PR F ρ st.nx p x)(hy:PR F ρ st.nx q y){v:PV}(ht:(Sx C.T t p q st).To v st'):
  OK B h0 F ρ st h [] (Bz h (C8 C.T t x y)) v st':=by
 unfold Sx at ht;split at ht
 case h_3=>simp at ht
 case h_2=>
  rename_i alen e k i hu;obtain rfl:=CH hy;split at ht
  case h_2=>simp at ht
  rename_i ti hti;split at ht
  case h_4=>simp at ht
  case h_1=>
   rename_i id off;simp only[PR]at hx;split at ht
   case h_3=>exact wh ht (by simp)
   case h_1=>
    rename_i fzb te s l ho;cases hcc:(zf off 0&&zf ti.size s.sz)with
    |false=>rw[hcc]at ht;simp at ht
    |true=>
     rw[hcc]at ht;rw[zc]at hcc;have hoff:=zd hcc.1;have hs1:=zd hcc.2;subst hoff;simp only[we,BM,zc,w5]at ht;obtain⟨⟨hi0,hi1⟩,rfl,rfl⟩:=ht;obtain⟨n,rfl,hn⟩:=DF hi0;have hlt:n<alen:=by simp at hi1;exact hi1
     obtain⟨b,m,_,h1,_⟩:=hr.at ho;obtain rfl:=hx.2 b m h1;refine zg hr (v':=.ptr b (0+n*ti.size)) ?_ ?_
     ·show Bz h (C8 C.T t (.ptr b 0) (.int k (zy n)))=_;simp only[C8,hu,hti,DI hlt,we,Bz]
     ·simp only[PR];refine⟨hx.1,fun b' n' hb=>?_⟩;rw[h1]at hb;cases hb;rw[hn,hs1,Nat.zero_add];rfl
   case h_2=>
    rename_i o _ ho;simp only[BM,zc,w5]at ht;obtain⟨⟨hi0,hi1⟩,rfl,rfl⟩:=ht;obtain⟨n,rfl,hn⟩:=DF hi0;have hlt:n<alen:=by simp at hi1;exact hi1
    obtain⟨b,m,_,h1,_⟩:=hr.at ho;obtain rfl:=hx.2 b m h1;refine zg hr (v':=.ptr b (off+n*ti.size)) ?_ ?_
    ·show Bz h (C8 C.T t (.ptr b off) (.int k (zy n)))=_;simp only[C8,hu,hti,DI hlt,we,Bz]
    ·simp only[PR];refine⟨hx.1,fun b' n' hb=>?_⟩;rw[h1]at hb;cases hb;rw[hn];rfl
  case h_2=>
   rename_i id sz j off;cases hl:H8 (st.obj id)with
   |false=>rw[hl]at ht;simp at ht
   |true=>
    rw[hl]at ht;simp only[we,BM,zc,w5]at ht;obtain⟨⟨hi0,hi1⟩,rfl,rfl⟩:=ht;obtain⟨n,rfl,hn⟩:=DF hi0;have hlt:n<alen:=by simp at hi1;exact hi1
    obtain⟨b,m,h1⟩:=hr.live hl;simp only[PR]at hx;obtain rfl:=hx.2 b m h1;refine zg hr (v':=.ptr b (j*sz+off+n*ti.size)) ?_ ?_
    ·show Bz h (C8 C.T t (.ptr b (j*sz+off)) (.int k (zy n)))=_;simp only[C8,hu,hti,DI hlt,we,Bz]
    ·simp only[PR];refine⟨hx.1,fun b' n' hb=>?_⟩;rw[h1]at hb;cases hb;rw[hn,yy];rfl
  case h_3=>
   rename_i s y off;simp only[BM,zc,w5]at ht;obtain⟨⟨hi0,hi1⟩,rfl,rfl⟩:=ht;obtain⟨n,rfl,hn⟩:=DF hi0;have hlt:n<alen:=by simp at hi1;exact hi1
   simp only[PR]at hx;obtain⟨b,o,cs,rfl,h1,h2,h3⟩:=hx;refine zg hr (v':=.ptr b (o+off+n*ti.size)) ?_ ?_
   ·show Bz h (C8 C.T t (.ptr b (o+off)) (.int k (zy n)))=_;simp only[C8,hu,hti,DI hlt,we,Bz]
   ·simp only[PR];refine⟨b,o,cs,?_,h1,h2,h3⟩;rw[hn,yy];rfl
 case h_1=>
 rename_i e k i hu;obtain rfl:=CH hy;split at ht
 case h_2=>simp at ht
 rename_i ti hti;split at ht
 case h_3=>simp at ht
 case h_1=>
  rename_i s l;cases hz:zf ti.size s.sz with
  |false=>rw[hz]at ht;simp at ht
  |true=>
   rw[hz]at ht;have hz:=zd hz;simp only[we,BM,zc,w5]at ht;obtain⟨⟨hi0,hi1⟩,rfl,rfl⟩:=ht;obtain⟨n,rfl,hn⟩:=DF hi0;have hlt:n<l.length:=by simp at hi1;exact hi1
   simp only[PR,DC]at hx;obtain⟨u,hu1,hx⟩:=hx;obtain rfl:x=u:=by simpa using hu1
   rcases hx with⟨rfl,_⟩|⟨b,off,cap,o,bs,rfl,h1,h2,h3,_,h4⟩
   ·simp at hlt
   ·refine zg hr (v':=.ptr b (off+n*ti.size)) ?_ ?_
    ·show Bz h (C8 C.T t (.sl b off l.length cap o) (.int k (zy n)))=_;simp only[C8,hu,hti,DI hlt,we,Bz]
    ·simp only[PR];refine⟨b,off+n*s.sz,bs,by rw[hz];rfl,h2,?_,?_⟩
     ·have:(n+1)*s.sz<=l.length*s.sz:=zh _ hlt;rw[zt]at this;omega
     ·have:=h4 n hlt;rw[hn,show l.getD n s.G4=l[n]from by simp[hlt]];exact this
 case h_2=>
  rename_i id sz off len cap;cases hz:(zf ti.size sz&&H8 (st.obj id))with
  |false=>rw[hz]at ht;simp at ht
  |true=>
   rw[hz]at ht;simp only[zc]at hz;obtain⟨hz,hl⟩:=hz;have hz:=zd hz;simp only[we,BM,zc,w5]at ht;obtain⟨⟨hi0,hi1⟩,rfl,rfl⟩:=ht;obtain⟨n,rfl,hn⟩:=DF hi0;have hlt:n<len:=by simp at hi1;exact hi1
   obtain⟨b,m,h1⟩:=hr.live hl;simp only[PR]at hx;rcases hx.2 b m h1 with⟨_,_,o,_,rfl⟩|⟨e0,_⟩
   ·refine zg hr (v':=.ptr b (off*sz+n*ti.size)) ?_ ?_
    ·show Bz h (C8 C.T t (.sl b (off*sz) len _ o) (.int k (zy n)))=_;simp only[C8,hu,hti,DI hlt,we,Bz]
    ·simp only[PR];refine⟨hx.1,fun b' n' hb=>?_⟩;rw[h1]at hb;cases hb;rw[hz,hn];show V.ptr b (off*sz+n*sz)=.ptr b ((n+off)*sz+0);rw[zp,yz (n*sz)];rfl
   ·omega
theorem nH(hr:SR B h0 F ρ st.nx st.ob h){t:TypeId}{p q:PV}{x y:V}(hx:PR F ρ st.nx p x)(hy:PR F ρ st.nx q y){v:PV}(ht:(Wv C.T t p q st).To v st'):
  OK B h0 F ρ st h [] (Bz h (HM C.T t x y)) v st':=by
 unfold Wv at ht;split at ht
 case h_3=>simp at ht
 case h_2=>
  rename_i alen e ps k i hu;obtain rfl:=CH hy;split at ht
  case h_2=>simp at ht
  rename_i d ti hd hti;simp only[PT,zc,w5]at ht;obtain⟨⟨hi0,hi1⟩,hpk,rfl⟩:=ht;obtain⟨n,rfl,hn⟩:=DF hi0;have hlt:n<alen:=by simp at hi1;exact hi1
  simp only[PR]at hx;obtain⟨cs,rfl,hps⟩:=hx;rw[LW,hn]at hpk;have hp:=hps.drop (n*ti.size);have hdx:HM C.T t (.agg cs) (.int k (zy n))=LO C.T e cs (n*ti.size):=by simp only[HM,hu,hti,DI hlt,we]
  rcases KI hp hpk with⟨ha,_,_,hv⟩|⟨ha,u,us,e',hv⟩
  ·exact zg hr (by rw[hdx];simp only[LO,hd,hti,ha,we,Bz]) hv
  ·have:cs[n*ti.size]?=some u:=by
    have:=wi (·[0]?) e';simpa using this
   exact zg hr (by rw[hdx];simp only[LO,hd,hti,ha,wg,this,Bz]) hv
 case h_1=>
 rename_i s k i hu;obtain rfl:=Fa hx;obtain rfl:=CH hy;simp only[BM,zc,w5]at ht;obtain⟨⟨hi0,hi1⟩,rfl,rfl⟩:=ht;obtain⟨n,rfl,hn⟩:=DF hi0;have hlt:n<List.length s:=by simp at hi1;exact hi1
 have hg:(s:List UInt8)[n]?=some (s:List UInt8)[n]:=List.getElem?_eq_getElem hlt;refine zg hr (v':=.int .u8 ((s:List UInt8)[n].toNat:Int)) ?_ ?_
 ·show Bz h (HM C.T t (.str s) (.int k (zy n)))=_;simp only[HM,hu,hg,Bz]
 ·rw[hn,show List.getD (s:List UInt8) n 0=(s:List UInt8)[n]from by simp[hlt]];exact Dn _ _
theorem Y3(hr:SR B h0 F ρ st.nx st.ob h){p:PV}{x:V}(hx:PR F ρ st.nx p x){i:Nat}{v:PV}(ht:(Pu p i st).To v st'):OK B h0 F ρ st h [] (Bz h (G6 x i)) v st':=by
 unfold Pu at ht;split at ht
 case h_2=>simp at ht
 rename_i ps;split at ht
 case h_2=>simp at ht
 rename_i q hq;simp only[AQ]at ht;obtain⟨rfl,rfl⟩:=ht;simp only[PR]at hx;obtain⟨cs,rfl,hps⟩:=hx;obtain⟨u,h1,h2⟩:=hps.get hq;exact zg hr (by simp only[G6,h1,Bz]) h2
def Tk(F:Fz)(ρ:Ec)(N:Nat):Option PV->Option V->Prop
 |none,x=>x=none
 |some p,x=>∃v,x=some v/\PR F ρ N p v
theorem DY{o:Option PV}{x:Option V}{d:Nat}{c:Bool}{n:Nat}(hx:Tk F ρ N o x)(hp:pb o d=some (c,n))(hc:c=true){y:Nat}(hy:n<=y):Hk x y d=some n:=by
 unfold pb at hp;split at hp
 ·cases hp;simp only[Tk]at hx;subst hx;rfl
 ·cases hp;simp only[Tk]at hx;obtain⟨v,rfl,hv⟩:=hx;obtain rfl:=CH hv;simp only[w5]at hc;obtain⟨m,rfl,hm⟩:=DF hc;rw[hm]at hy;show(bif zl m y then some m else none)=_;rw[zi hy,hm];rfl
 ·cases hp
theorem Tk.isNone{o:Option PV}{x:Option V}(hx:Tk F ρ N o x):(o=none↔x=none):=by
 cases o with
 |none=>simp only[Tk]at hx;simp[hx]
 |some p=>simp only[Tk]at hx;obtain⟨v,rfl,_⟩:=hx;simp
theorem My{T:B3}{t e:TypeId}{ti:TI}{b off len cap o m hh l:Nat}{lo hi mx:Option V}(hu:T.und t=some (.slice e))(hti:T.inf e=some ti)(hm:Hk mx cap cap=some m)(hb:Hk hi m len=some hh)
  (hl:Hk lo hh 0=some l) (hno:hi=none->mx=none):
  Dz T t (.sl b off len cap o) lo hi mx=bif zf m l then(bif zf (JI mx o) 0 then some (.sl b off (hh-l) (m-l) 0)else some .esl)
   else bif zf (JI mx o) 0||zf (JI mx o) ti.size then some (.sl b (off+l*ti.size) (hh-l) (m-l) (JI mx o))else none:=by
 cases hi with
 |some x=>cases mx<;>simp only[Dz,hu,hti,hm,hb,hl]
 |none=>
  cases hno rfl;simp only[Dz,hu,hti,hm,hb,hl]
theorem kR(hr:SR B h0 F ρ st.nx st.ob h){t:TypeId}{p:PV}{x:V}{lo hi mx:Option PV}{a b c:Option V}(hx:PR F ρ st.nx p x)(hlo:Tk F ρ st.nx lo a)(hhi:Tk F ρ st.nx hi b)(hmx:Tk F ρ st.nx mx c)
  {v:PV} (ht:(SL C.T t p lo hi mx st).To v st'):OK B h0 F ρ st h [] (Bz h (Dz C.T t x a b c)) v st':=by
 unfold SL at ht;split at ht
 case h_3=>simp at ht
 case h_1=>
  rename_i hu;split at ht
  case h_2=>simp at ht
  rename_i s;obtain rfl:=Fa hx;split at ht
  case h_2=>simp at ht
  rename_i c1 l c2 hh hb1 hb2;simp only[BM,zc,w5]at ht;obtain⟨⟨⟨⟨k1,k2⟩,k3⟩,k4⟩,rfl,rfl⟩:=ht;simp only[Tk]at hmx;subst hmx;have e1:=DY hlo hb1 k1 k3;have e2:=DY hhi hb2 k2 k4;exact zg hr (by simp only[Dz,hu,e1,e2,Bz];rfl) (Kf _)
 case h_2=>
  rename_i e hu;split at ht
  case h_2=>simp at ht
  rename_i ti hti;split at ht
  case h_4=>simp at ht
  case h_1=>
   rename_i s xs;cases hz:zf ti.size s.sz with
   |false=>rw[hz]at ht;simp at ht
   |true=>
    rw[hz]at ht;have hz:=zd hz;simp only[we]at ht;split at ht
    case h_2=>simp at ht
    rename_i c1 l c2 hh hb1 hb2;simp only[BM,zc,w5]at ht;obtain⟨⟨⟨⟨k1,k2⟩,k3⟩,k4⟩,rfl,rfl⟩:=ht;simp only[Tk]at hmx;subst hmx;have e1:=DY hlo hb1 k1 k3;simp only[PR,DC]at hx;obtain⟨u,hu1,hx⟩:=hx;obtain rfl:x=u:=by simpa using hu1
    rcases hx with⟨rfl,rfl|rfl|rfl⟩|⟨bb,off,cap,o,bs,rfl,h1,h2,h3,h5,h4⟩
    ·have e2:=DY hhi hb2 k2 k4;simp only[yd]at e2 k4;refine zg hr (v':=.nils) (by simp only[Dz,hu,show Hk none 0 0=some 0 from rfl,show fL b none=Hk b 0 0 from by cases b<;>rfl,e1,e2,hti,Bz]) ?_;simp[PR,DC]
    ·have e2:=DY hhi hb2 k2 k4;simp only[yd]at e2 k4;refine zg hr (v':=.esl) (by simp only[Dz,hu,show Hk none 0 0=some 0 from rfl,show fL b none=Hk b 0 0 from by cases b<;>rfl,e1,e2,hti,Bz,PX,wg]) ?_;simp[PR,DC]
    ·have e2:=DY hhi hb2 k2 k4;simp only[yd]at e2 k4;refine zg hr (v':=.es0) (by simp only[Dz,hu,show Hk none 0 0=some 0 from rfl,show fL b none=Hk b 0 0 from by cases b<;>rfl,e1,e2,hti,Bz]) ?_;simp[PR,DC]
    ·have e2:Hk b cap xs.length=some hh:=DY hhi hb2 k2 (yu k4 h1);have hds:=My (b:=bb) (off:=off) (len:=xs.length) (cap:=cap) (o:=o) (mx:=none) hu hti rfl e2 e1 (fun _=>rfl);have hlen:((xs.drop l).take (Nat.sub hh l)).length=hh-l:=by
      have:Nat.sub hh l=hh-l:=rfl;rw[this];simp;omega
     by_cases hcl:cap=l
     ·have hhl:hh=l:=by omega
      have hemp:(xs.drop l).take (Nat.sub hh l)=[]:=by
       apply List.eq_nil_of_length_eq_zero;rw[hlen];omega
      rw[hemp];by_cases ho:o=0
      ·refine zg hr (v':=.sl bb off (hh-l) (cap-l) 0) ?_ ?_
       ·have:JI none o=0:=ho;rw[hds,this,hcl,z7];rfl
       ·simp only[PR,DC];exact⟨_,rfl,.inr ⟨bb,off,cap-l,0,bs,by simp[hhl],by simp,h2,by simp;omega,.inl rfl,fun i hi=>by simp at hi⟩⟩
      ·refine zg hr (v':=.esl) ?_ ?_
       ·have h1:zf (JI none o) 0=false:=by rw[Br];simp[JI,ho]
        rw[hds,h1,hcl,z7];rfl
       ·simp[PR,DC]
     ·refine zg hr (v':=.sl bb (off+l*ti.size) (hh-l) (cap-l) o) ?_ ?_
      ·have hb1:zf cap l=false:=by rw[Br];simp[hcl]
       have ho:(zf (JI none o) 0||zf (JI none o) ti.size)=true:=by
        rcases h5 with rfl|rfl
        ·rfl
        ·rw[hz];show(zf s.sz 0||zf s.sz s.sz)=true;rw[z7,y7]
       rw[hds,hb1,ho];rfl
      ·simp only[PR,DC];refine⟨_,rfl,.inr ⟨bb,off+l*ti.size,cap-l,o,bs,by rw[hlen],by rw[hlen];omega,h2,?_,h5,fun i hi=>?_⟩⟩
       ·rw[hlen,hz];have:(l+(hh-l))*s.sz<=xs.length*s.sz:=zh _ (by omega);rw[zp]at this;omega
       ·rw[hlen]at hi;have hi2:l+i<xs.length:=by omega
        have:=h4 (l+i) hi2;rw[List.getElem_take,List.getElem_drop,hz];rw[zp, <-yy]at this;exact this
  case h_2=>
   rename_i id sz off len cap;cases hz:(zf ti.size sz&&H8 (st.obj id))with
   |false=>rw[hz]at ht;simp at ht
   |true=>
    rw[hz]at ht;simp only[zc]at hz;obtain⟨hz,hl⟩:=hz;have hz:=zd hz;simp only[we]at ht;have hno:¬(hi=none/\mx≠none):=by
     rintro⟨rfl,hm⟩;cases mx with
     |none=>exact hm rfl
     |some _=>simp at ht
    split at ht
    case h_1=>simp at ht
    split at ht
    case h_2=>simp at ht
    rename_i c1 l c2 hh c3 m hb1 hb2 hb3;simp only[BM,zc,w5]at ht;obtain⟨⟨⟨⟨⟨⟨⟨k1,k2⟩,k3⟩,k4⟩,k5⟩,k6⟩,k7⟩,rfl,rfl⟩:=ht;have e1:=DY hlo hb1 k1 k4;have e3:=DY hmx hb3 k3 k6;have e2:=DY hhi hb2 k2 k5;have hno':b=none->c=none:=by
     intro hbn;cases hcc:c with
     |none=>rfl
     |some z=>
      exfalso;apply hno;exact⟨hhi.isNone.2 hbn,fun e=>by have:=hmx.isNone.1 e;rw[this]at hcc;cases hcc⟩
    obtain⟨b0,n0,h1⟩:=hr.live hl;simp only[PR]at hx;rcases hx.2 b0 n0 h1 with⟨g1,g2,o,g3,rfl⟩|⟨rfl,rfl,g2,g3⟩
    ·have hds:=My (b:=b0) (off:=off*sz) (len:=len) (cap:=cap.getD len) (o:=o) hu hti e3 e2 e1 hno';have hoz:JI c o=0\/JI c o=sz:=by
      unfold JI;cases c with
      |none=>exact g3
      |some _=>exact .inl rfl
     by_cases hml:m=l
     ·have hhl:hh-l=0:=by omega
      by_cases ho:JI c o=0
      ·refine zg hr (v':=.sl b0 (off*sz) (hh-l) (m-l) 0) ?_ ?_
       ·rw[hds,ho,hml,z7];rfl
       ·unfold PR;refine⟨hx.1,fun b' n' hb=>.inr ?_⟩;rw[h1]at hb;cases hb;refine⟨hhl,?_,?_,.inr ⟨off*sz,by rw[hhl,hml,yk],zh _ (Nat.le_add_right _ _)⟩⟩
        ·show some (m-l)=some 0;rw[hml,yk]
        ·show off+l<=n0;omega
      ·refine zg hr (v':=.esl) ?_ ?_
       ·have hb0:zf (JI c o) 0=false:=by rw[Br];simp[ho]
        rw[hds,hb0,hml,z7];rfl
       ·unfold PR;refine⟨hx.1,fun b' n' hb=>.inr ?_⟩;rw[h1]at hb;cases hb;refine⟨hhl,?_,?_,.inl rfl⟩
        ·show some (m-l)=some 0;rw[hml,yk]
        ·show off+l<=n0;omega
     ·refine zg hr (v':=.sl b0 (off*sz+l*ti.size) (hh-l) (m-l) (JI c o)) ?_ ?_
      ·have hb1:zf m l=false:=by rw[Br];simp[hml]
       have ho:(zf (JI c o) 0||zf (JI c o) ti.size)=true:=by
        rcases hoz with e|e
        ·rw[e];rfl
        ·rw[e,hz,z7,y7]
       rw[hds,hb1,ho];rfl
      ·unfold PR;refine⟨hx.1,fun b' n' hb=>.inl ?_⟩;rw[h1]at hb;cases hb;refine⟨?_,?_,JI c o,hoz,?_⟩
       ·show hh-l<=m-l;omega
       ·show off+l+(m-l)<=n0;omega
       ·show V.sl b0 (off*sz+l*ti.size) (hh-l) (m-l) (JI c o)=.sl b0 ((off+l)*sz) (hh-l) (m-l) (JI c o);rw[hz,zp]
    ·simp only[yh]at k6 k7 e3;obtain rfl:m=0:=by omega
     obtain rfl:hh=0:=by omega
     obtain rfl:l=0:=by omega
     have hc:c=none:=by
      cases mx with
      |none=>exact hmx
      |some _=>simp[has]at k7
     subst hc;rcases g3 with rfl|⟨off',rfl,g4⟩
     ·refine zg hr (v':=.esl) (by simp only[Dz,hu,hti,show Hk none 0 0=some 0 from rfl,show fL b none=Hk b 0 0 from by cases b<;>rfl,e2,e1,Bz,PX,wg]) ?_;unfold PR;exact⟨hx.1,fun b' n' hb=>.inr ⟨by rfl,by rfl,by rw[h1]at hb;cases hb;exact g2,.inl rfl⟩⟩
     ·refine zg hr (v':=.sl b0 off' 0 0 0) ?_ ?_
      ·rw[My (mx:=none) hu hti rfl e2 e1 (fun _=>rfl)];rfl
      ·unfold PR;refine⟨hx.1,fun b' n' hb=>.inr ⟨rfl,rfl,?_,.inr ⟨off',?_,?_⟩⟩⟩
       ·rw[h1]at hb;cases hb;exact g2
       ·rw[h1]at hb;cases hb;rfl
       ·show off'<=(off+0)*sz;exact g4
  case h_3=>
   split at ht
   case h_3=>simp at ht
   case h_2=>
    rename_i c1 l c2 hh q hb1 hb2;split at ht
    case h_2=>simp at ht
    rename_i p' c3 m hb3;simp only[BM,zc,w5]at ht;obtain⟨⟨⟨⟨⟨⟨k1,k2⟩,k5⟩,k3⟩,k4⟩,k6⟩,rfl,rfl⟩:=ht;have e1:=DY hlo hb1 k1 k3;have e2:=DY hhi hb2 k2 (show hh<=0 by omega);have e3:=DY hmx hb3 k5 k6;simp only[PR]at hx;subst hx;cases b with
    |none=>simp[Tk]at hhi
    |some b=>exact zg hr (v':=.nils) (by simp only[Dz,hu,e3,show fL (some b) c=Hk (some b) 0 0 from by cases c<;>rfl,e2,e1,hti,Bz]) (by simp[PR])
   rename_i c1 l c2 hh hb1 hb2;simp only[BM,zc,w5]at ht;obtain⟨⟨⟨⟨k1,k2⟩,k3⟩,k4⟩,rfl,rfl⟩:=ht;simp only[Tk]at hmx;subst hmx;have e1:=DY hlo hb1 k1 k3;have e2:=DY hhi hb2 k2 k4;simp only[PR]at hx;subst hx;exact zg hr (v':=.nils) (by simp only[Dz,hu,show Hk none 0 0=some 0 from rfl,show fL b none=Hk b 0 0 from by cases b<;>rfl,e1,e2,hti,Bz]) (by simp[PR])
theorem lS(hr:SR B h0 F ρ st.nx st.ob h){t:TypeId}{p q:PV}{x y:V}(hx:PR F ρ st.nx p x)(hy:PR F ρ st.nx q y){v:PV}(ht:(bJ C.T t p q st).To v st'):
  OK B h0 F ρ st h [] (Bz h (C8 C.T t x y)) v st':=iZ hr hx.lz hy ht
theorem oK(hr:SR B h0 F ρ st.nx st.ob h){t:TypeId}{p:PV}{x:V}{lo hi mx:Option PV}{a b c:Option V}(hx:PR F ρ st.nx p x)(hlo:Tk F ρ st.nx lo a)(hhi:Tk F ρ st.nx hi b)(hmx:Tk F ρ st.nx mx c)
  {v:PV} (ht:(eB C.T t p lo hi mx st).To v st'):OK B h0 F ρ st h [] (Bz h (Dz C.T t x a b c)) v st':=kR hr hx.lz hlo hhi hmx ht
theorem MR.len{ks vs:Sh}{l:List (ks.T×vs.T)}{es:List (V×V×Nat)}(h:MR F ks vs l es):l.length=es.length:=by
 induction h with
 |nil=>rfl
 |cons _ _ _ ih=>simp[ih]
theorem vW(hr:SR B h0 F ρ st.nx st.ob h){ts:Array TypeId}{ps:List PV}{xs:List V}(hx:Bd F ρ st.nx ps xs){v:PV}(ht:(Vi C.T ts ps st).To v st'):OK B h0 F ρ st h [] (Bz h (FB C.T h ts xs)) v st':=by
 unfold Vi at ht;split at ht
 case h_2=>simp at ht
 rename_i t p hts;simp only[Bd]at hx;obtain⟨x,xs',rfl,hx,rfl⟩:=hx;split at ht
 case h_6=>simp at ht
 case h_1=>
  rename_i s hu;simp only[AQ]at ht;obtain⟨rfl,rfl⟩:=ht;obtain rfl:=Fa hx;exact zg hr (by simp only[FB,hts,hu,Bz];rfl) (Dn _ _)
 case h_2=>
  rename_i s l hu;simp only[AQ]at ht;obtain⟨rfl,rfl⟩:=ht;simp only[PR,DC]at hx;obtain⟨u,hu1,hx⟩:=hx;obtain rfl:x=u:=by simpa using hu1
  rcases hx with⟨rfl,rfl|rfl|rfl⟩|⟨b,off,cap,o,bs,rfl,_⟩
  ·exact zg hr (by simp only[FB,hts,hu,Bz];rfl) (Dn _ _)
  ·exact zg hr (by simp only[FB,hts,hu,Bz];rfl) (Dn _ _)
  ·exact zg hr (by simp only[FB,hts,hu,Bz];rfl) (Dn _ _)
  ·exact zg hr (by simp only[FB,hts,hu,Bz];rfl) (Dn _ _)
 case h_3=>
  rename_i id sz off len cap hu;cases hl:H8 (st.obj id)with
  |false=>rw[hl]at ht;simp at ht
  |true=>
   rw[hl]at ht;simp only[we,AQ]at ht;obtain⟨rfl,rfl⟩:=ht;obtain⟨b,n,h1⟩:=hr.live hl;simp only[PR]at hx;rcases hx.2 b n h1 with⟨_,_,o,_,rfl⟩|⟨rfl,_,_,rfl|⟨_,rfl,_⟩⟩
   ·exact zg hr (by simp only[FB,hts,hu,Bz];rfl) (Dn _ _)
   ·exact zg hr (by simp only[FB,hts,hu,Bz];rfl) (Dn _ _)
   ·exact zg hr (by simp only[FB,hts,hu,Bz];rfl) (Dn _ _)
 case h_4=>
  rename_i hu;simp only[AQ]at ht;obtain⟨rfl,rfl⟩:=ht;simp only[PR]at hx;subst hx;exact zg hr (by simp only[FB,hts,hu,Bz];rfl) (Dn _ _)
 case h_5=>
  rename_i id hu;split at ht
  case h_2=>simp at ht
  rename_i ks vs l ho;simp only[AQ]at ht;obtain⟨rfl,rfl⟩:=ht;obtain⟨b,n,y,h1,h2,⟨es,clk,rfl,h3⟩,_⟩:=hr.at ho;simp only[PR]at hx;obtain rfl:=hx.2 b n h1;have hl:l.length=es.length:=h3.len;refine zg hr (v':=i64 es.length) (by simp only[FB,hts,hu,h2,Bz]) ?_;rw[<-hl];exact Dn _ _
theorem AaJ(hr:SR B h0 F ρ st.nx st.ob h){ts:Array TypeId}{ps:List PV}{xs:List V}(hx:Bd F ρ st.nx ps xs){v:PV}(ht:(qN C.T ts ps st).To v st'):OK B h0 F ρ st h [] (Bz h (FB C.T h ts xs)) v st':=vW hr hx.lz ht
theorem Aay(hr:SR B h0 F ρ st.nx st.ob h){f:Int->Int->Int}{g:V->V->Option V}(hg:∀k x y,g (.int k x) (.int k y)=some (.int k (f x y))){ps:List PV}{xs:List V}(hx:Bd F ρ st.nx ps xs){v:PV}
  (ht:(NP f ps st).To v st'):OK B h0 F ρ st h [] (Bz h (Gm g xs)) v st':=by
 have key:∀(ps:List PV) (xs:List V) (k:IntKind) (x z:Int),Bd F ρ st.nx ps xs->zM f k x ps=some z->dfold g (.int k x) xs=some (.int k z):=by
  intro ps;induction ps with
  |nil=>intro xs k x z hx hz;simp at hx;subst hx;simp only[zM,zj]at hz;subst hz;rfl
  |cons p ps ih=>
   intro xs k x z hx hz;simp only[Bd]at hx;obtain⟨u,us,rfl,h1,h2⟩:=hx;unfold zM at hz;split at hz
   case h_1=>rename_i e;cases e
   case h_2=>
    rename_i e;cases e;rename_i k' y;cases hk:(k==k')with
    |false=>rw[hk]at hz;cases hz
    |true=>
     rw[hk]at hz;have hk:=wj.1 hk;subst hk;obtain rfl:=CH h1;simp only[dfold,hg];exact ih us k _ z h2 hz
   case h_3=>cases hz
 unfold NP at ht;split at ht
 case h_2=>simp at ht
 rename_i k x ys;split at ht
 case h_2=>simp at ht
 rename_i z hz;simp only[AQ]at ht;obtain⟨rfl,rfl⟩:=ht;simp only[Bd]at hx;obtain⟨u,us,rfl,h1,h2⟩:=hx;obtain rfl:=CH h1;exact zg hr (v':=.int k z) (by simp only[Gm,key ys us k x z h2 hz,Bz]) (Dn _ _)
theorem OK.new(hr:SR B h0 F ρ st.nx st.ob h){o:Obj}{x:O}{n:Nat}(hf:o.frozen=false)(hx:XA F (BO ρ st.nx (some (h.nx,n))) (st.nx+1) n o x){v:PV}{v':V}
  (hv:PR F (BO ρ st.nx (some (h.nx,n))) (st.nx+1) v v'):OK B h0 F ρ st h [] (Fb (some (v',h.push x))) v (st.push o):=by
 refine⟨v',h.push x,F,_,.inl rfl,hv,hr.push hf hx,Le.new _,rfl,rfl,Nat.le_succ _,fun b hb=>.inl ?_⟩;rw[H.BK,wc (by omega)]
theorem LC{n:Nat}:PR F (BO ρ N (some (h.nx,n))) (N+1) (.ptr N 0) (.ptr h.nx 0):=by
 unfold PR;exact⟨zz _,fun b m hb=>by simp[BO]at hb;rw[hb.1]⟩
theorem vL{F:Fz}:∀ {s:Sh} {v:V},yO s v=true->DC F s s.G4 [v]
 | .bool,.bool b,h=>by
  have:b=false:=by simpa [yO]using h
  subst this;simp[DC,Sh.G4]
 | .int k,.int k' n,h=>by
  unfold yO at h;rw[zc,w5,w5]at h;obtain⟨rfl,rfl⟩:=h;simp[DC,Sh.G4]
theorem qO{T:B3}{t:TypeId}{s:Sh}{n:Nat}(h:xD T t=some (s,n)):∃i,T.inf t=some i/\n=i.zero.length/\(∀v∈i.zero,yO s v=true)/\s.sz=1:=by
 unfold xD at h;split at h
 case h_2=>cases h
 rename_i i hu hi;split at h
 case h_2=>cases h
 rename_i s' hs;cases hc:(zl 32 (Det.Ez i.zero)&&Det.Lx (yO s') i.zero)with
 |false=>rw[hc]at h;cases h
 |true=>
  rw[hc]at h;cases h;rw[zc,Fo]at hc;refine⟨i,hi,CZ ..,z6.1 hc.2,?_⟩;unfold zsh at hs;split at hs<;>first|(cases hs;rfl)|cases hs
theorem oE(hr:SR B h0 F ρ st.nx st.ob h){t:TypeId}{v:PV}(ht:(SV t C.T st).To v st'):OK B h0 F ρ st h [] (Fb (GJ C.T h t)) v st':=by
 unfold SV cO at ht;split at ht
 case h_1=>
  rename_i s n hz;simp only[AQ]at ht;obtain⟨rfl,rfl⟩:=ht;obtain⟨i,hi,rfl,hall,hs⟩:=qO hz;have:GJ C.T h t=some (.ptr h.nx 0,h.push (.cells i.zero t (0,0))):=by simp[GJ,hi,Ii]
  rw[this];refine OK.new hr (o:=.arr false t s (zn i.zero.length s.G4)) (n:=i.zero.length) rfl ⟨_,_,rfl,⟨by rw[ya,hs,yn],fun j hj=>?_⟩,ze _,ya ..⟩ LC;have hj':j<i.zero.length:=by simpa using hj
  have:=hall i.zero[j] (List.getElem_mem hj');rw[List.getElem_replicate,hs,yn,zw hj'];exact vL this
 split at ht
 case h_2=>exact wh ht (by simp)
 rename_i cs hcs;rw[Option.bind_eq_some_iff]at hcs;obtain⟨i,hi,hcs⟩:=hcs;cases hok:Lx V.ok i.zero with
 |false=>rw[hok]at hcs;cases hcs
 |true=>
 rw[hok]at hcs;cases hcs;rw[Fo]at hok;simp only[AQ]at ht;obtain⟨rfl,rfl⟩:=ht;have:GJ C.T h t=some (.ptr h.nx 0,h.push (.cells i.zero t (0,0))):=by simp[GJ,hi,Ii]
 rw[this];cases uI C.T t with
 |true=>exact OK.new hr (o:=.tbox t (i.zero.map WS)) (n:=0) rfl ⟨_,_,rfl,Ei _,ze _,fun u hu=>z6.1 hok u hu⟩ LC
 |false=>exact OK.new hr (o:=.box (i.zero.map WS)) (n:=0) rfl ⟨_,_,_,rfl,Ei _,ze _,fun u hu=>z6.1 hok u hu⟩ LC
theorem zV(hr:SR B h0 F ρ st.nx st.ob h){t:TypeId}{p:PV}{x:V}(hx:PR F ρ st.nx p x){cs:List PV}(hcs:yT st p=some cs)(hs:cs.all (JP st)=true):OK B h0 F ρ st h [] (Fb (some (ZK h t x))) (.ptr st.nx 0) (st.push (.box cs)):=
 OK.new hr (o:=.box cs) (n:=0) rfl ⟨_,_,_,rfl,(Np hr hx hcs).mono (Le.new _),ze _,fun u hu=>V.Mj (z6.1 (JT hr hs (Np hr hx hcs)) u hu)⟩ LC
theorem Jr(hr:SR B h0 F ρ st.nx st.ob h){place:Nat->Option (Nat×Nat)}:∀ {l:List (Nat×PV)} {l':List (Nat×V)},xQ F ρ st.nx l l'->∀ {cs:List PV} {xs:List V},Bd F ρ st.nx cs xs->∀ {out:List PV},Q8 st place cs l=some out->
  ∃ys,IA place xs l'=some ys/\Bd F ρ st.nx out ys:=by
 intro l l' hl;induction hl with
 |nil=>intro cs xs hx out ho;cases ho;exact⟨xs,rfl,hx⟩
 |@cons i p v l l' hp _ ih=>
  intro cs xs hx out ho;unfold Q8 at ho;unfold IA;split at ho
  case h_1=>cases ho
  rename_i off size hpl;split at ho
  case h_2=>cases ho
  rename_i vs hvs;cases hc:(zf (Det.Ez vs) size&&zl (Nat.add off size) (Det.Ez cs))with
  |false=>rw[hc]at ho;cases ho
  |true=>
   rw[hc]at ho;have hv:=Np hr hp hvs;rw[CZ,CZ,hv.len,hx.len]at hc;have hc':(zf v.cells.length size&&zl (off+size) xs.length)=true:=hc;rw[hpl];simp only[hc',we];have:=hv.Cv off hx;rw[Jd v.cells]at this;exact ih this ho
theorem lV(hr:SR B h0 F ρ st.nx st.ob h){t:TypeId}{l:List (Nat×PV)}{l':List (Nat×V)}(hl:xQ F ρ st.nx l l'){v:PV}(ht:(ov st (Wm C.T st t l)).To v st'):OK B h0 F ρ st h [] (Bz h (J9 C.T t l')) v st':=by
 simp only[Lh]at ht;obtain⟨hb,rfl⟩:=ht;unfold Wm at hb;split at hb
 case h_3=>cases hb
 case h_1=>
  rename_i i fs hi hu;split at hb
  case h_2=>cases hb
  rename_i pl hpl;rw[zm]at hb;obtain⟨out,ho,rfl⟩:=hb;obtain⟨ys,g1,g2⟩:=Jr hr hl (Ei i.zero) ho;exact zg hr (v':=.agg ys) (by simp only[J9,hi,hu,hpl,g1,zq,Bz]) (by unfold PR;exact⟨_,rfl,g2⟩)
 case h_2=>
  rename_i i nn e hi hu;split at hb
  case h_2=>cases hb
  rename_i j hj;rw[zm]at hb;obtain⟨out,ho,rfl⟩:=hb;obtain⟨ys,g1,g2⟩:=Jr hr hl (Ei i.zero) ho;exact zg hr (v':=.agg ys) (by simp only[J9,hi,hu,hj,g1,zq,Bz]) (by unfold PR;exact⟨_,rfl,g2⟩)
theorem J8(z:List V):∀n,Bd F ρ N (Kh (z.map WS) n) ((zn n z).flatten)
 |0=>by simp[Kh]
 |n+1=>by
  simp only[Kh,zx,yo];exact(Ei z).append (J8 z n)
theorem HT(z:List V):∀n,E2 z (n*z.length)=(zn n z).flatten:=by
 intro n;apply yp;intro i;unfold E2;by_cases hz:z.length=0
 ·have:z=[]:=zo.1 hz;subst this;have:(zn n ([]:List V)).flatten=[]:=by induction n with|zero=>rfl|succ n ih=>simp[zx]
  rw[this];simp
 ·have hpos:0<z.length:=Nat.pos_of_ne_zero hz;induction n generalizing i with
  |zero=>simp
  |succ n ih=>
   rw[zx,yo];by_cases hi:i<z.length
   ·rw[yc hi,yq,yj (by rw[zt];omega)];simp only[zq,Nat.mod_eq_of_lt hi];simp[List.getD_eq_getElem?_getD,hi]
   ·rw[yb (by omega), <-ih (i-z.length)];rw[yq,yq];by_cases h2:i<(n+1)*z.length
    ·rw[yj h2,yj (by rw[zt]at h2;omega)];simp only[zq];rw[Nat.mod_eq_sub_mod (by omega)]
    ·rw[List.getElem?_eq_none (by simp;omega),List.getElem?_eq_none (by simp;rw[zt]at h2;omega)]
theorem NZ{sz n:Nat}{o:Nat}(ho:o=0\/o=sz):PR F (BO ρ N (some (h.nx,n))) (N+1) (.sl N sz 0 n none) (.sl h.nx 0 n n o):=by
 unfold PR;refine⟨zz _,fun b m hb=>.inl ?_⟩;simp[BO]at hb;obtain⟨rfl,rfl⟩:=hb;exact⟨ze _,by show 0+n<=n;omega,o,ho,by rw[zu];rfl⟩
theorem Mo{place:Nat->Option (Nat×Nat)}:∀ {l:List (Nat×V)} {xs ys:List V},IA place xs l=some ys->ys.length=xs.length
 |[],xs,ys,h=>by cases h;rfl
 |(i,v)::l,xs,ys,h=>by
  unfold IA at h;split at h
  ·cases h
  ·rename_i off size _;cases hc:(zf v.cells.length size&&zl (off+size) xs.length)with
   |false=>rw[hc]at h;cases h
   |true=>
    rw[hc]at h;rw[Mo h,Gy]
end
section
variable {B:Nat}{h0:H0}{F:Fz}{ρ:Ec}{N:Nat}{C:Ctx}{st st':AK}{fr:Fr}{h h':H}
theorem Ed.nil{s:Sh}:Ed F s [] []:=⟨by simp,fun i hi=>by simp at hi⟩
theorem Ed.cons{s:Sh}{x:s.T}{l:List s.T}{a b:List V}(ha:DC F s x a)(hb:Ed F s l b):Ed F s (x::l) (a++b):=by
 refine⟨by rw[List.length_append,ha.len,hb.1,List.length_cons,zt];omega,fun i hi=>?_⟩;cases i with
 |zero=>
  simp only[zu,yg,yv];rw[<-ha.len,List.take_left];exact ha
 |succ i=>
  have e:(a++b).drop ((i+1)*s.sz)=b.drop (i*s.sz):=by
   rw[zt,yz,FV, <-ha.len,List.drop_left]
  rw[e];exact hb.2 i (by simpa using hi)
theorem Ed.dY{s:Sh}{x:s.T}{l:List s.T}{cs:List V}(h:Ed F s (x::l) cs):∃a b,cs=a++b/\DC F s x a/\Ed F s l b:=by
 have h0:=h.2 0 (by simp);simp only[zu,yg,yv]at h0;refine⟨cs.take s.sz,cs.drop s.sz,(List.take_append_drop _ _).symm,h0,?_,fun i hi=>?_⟩
 ·rw[List.length_drop,h.1,List.length_cons,zt];omega
 ·have:=h.2 (i+1) (by simpa using hi);rw[<-FV,yz, <-zt];exact this
theorem Ed.append{s:Sh}:∀ {l m:List s.T} {a b:List V},Ed F s l a->Ed F s m b->Ed F s (l++m) (a++b)
 |[],m,a,b,h,h'=>by
  have:a=[]:=zo.1 (by rw[h.1];simp);subst this;simpa using h'
 |x::l,m,a,b,h,h'=>by
  obtain⟨c,d,rfl,h1,h2⟩:=h.dY;rw[List.append_assoc,List.cons_append];exact Ed.cons h1 (h2.append h')
theorem Ed.replicate{s:Sh}{z:s.T}{c:List V}(hz:DC F s z c):∀n,Ed F s (zn n z) ((zn n c).flatten)
 |0=>Ed.nil
 |n+1=>by
  rw[zx,zx,yo];exact Ed.cons hz (Ed.replicate hz n)
theorem Ed.Tg{s:Sh}:∀ {l:List s.T} {a:List V},Ed F s l a->a.all V.one=true
 |[],a,h=>by
  have:a=[]:=zo.1 (by rw[h.1];simp);subst this;rfl
 |x::l,a,h=>by
  obtain⟨c,d,rfl,h1,h2⟩:=h.dY;rw[List.all_append,h2.Tg,Bool.and_true];exact z6.2 h1.Tg
theorem Ed.part{s:Sh}{l:List s.T}{cs:List V}(h:Ed F s l cs){off len:Nat}(hl:off+len<=l.length):Ed F s ((l.drop off).take len) ((cs.drop (off*s.sz)).take (len*s.sz)):=by
 have hle:(off+len)*s.sz<=l.length*s.sz:=zh _ hl;rw[zp]at hle;have h1:=h.1;refine⟨by simp;rw[ye (by omega),ye (by omega)],fun i hi=>?_⟩;have hi':i<len:=by simp at hi;omega
 have hi2:(i+1)*s.sz<=len*s.sz:=zh _ hi';rw[zt]at hi2;rw[List.getElem_take,List.getElem_drop];have:=h.2 (off+i) (by omega);have e:(((cs.drop (off*s.sz)).take (len*s.sz)).drop (i*s.sz)).take s.sz=(cs.drop ((off+i)*s.sz)).take s.sz:=by
  rw[List.drop_take,List.take_take,List.drop_drop,zp,ye (by omega)]
 rw[e];exact this
theorem vJ(hr:SR B h0 F ρ st.nx st.ob h){t:TypeId}{p q:PV}{x y:V}(hx:PR F ρ st.nx p x)(hy:PR F ρ st.nx q y){v:PV}(ht:(dT C.T t p q st).To v st'):OK B h0 F ρ st h [] (Fb (Qg C.T h t x y)) v st':=by
 unfold dT at ht;split at ht
 case h_2=>simp at ht
 rename_i e k l k' c hu;obtain rfl:=CH hx;obtain rfl:=CH hy;split at ht
 case h_2=>simp at ht
 rename_i i s hi hs;cases hc:(zr 0 i.zero.length&&zf i.zero.length i.size&&zf i.size s.sz)with
 |false=>rw[hc]at ht;simp at ht
 |true=>
  rw[hc]at ht;simp only[zc]at hc;obtain⟨⟨c2,c3⟩,c4⟩:=hc;simp only[we]at ht;split at ht
  case h_2=>simp at ht
  rename_i z hz;simp only[BM,zc,w5]at ht;obtain⟨⟨⟨⟨k1,k2⟩,k3⟩,k4⟩,rfl,rfl⟩:=ht;have k2':l=c:=k2;subst k2';obtain⟨n,rfl,hn⟩:=DF k1;rw[hn]at k3 ⊢;have e3:=zd c3;have e4:=zd c4;have hd:Qg C.T h t (.int k (zy n)) (.int k' (zy n))=some (.sl h.nx 0 n n 0,h.push (.cells (E2 i.zero (n*i.size)) e (0,0))):=by
   have a1:zl n n=true:=zi (ze _);have a2:zr n 9223372036854775808=true:=DI (by have:(zy n:Int)<9223372036854775808:=k4;simp at this;omega);have a3:zl (i.bytes*n) 281474976710656=true:=zi k3;simp only[Qg,hu,hi,a1,a2,a3,c2,c3,yr,we,Ii]
  rw[hd];have hzc:=CS (Ei (F:=F) (ρ:=ρ) (N:=st.nx) i.zero) hz;have hcells:Ed F s (zn n z) (E2 i.zero (n*i.size)):=by
   rw[<-e3,HT];exact Ed.replicate hzc n
  exact OK.new hr (o:=.arr false e s (zn n z)) (n:=n) rfl ⟨_,_,rfl,hcells,ze _,by simp⟩ (NZ (.inl rfl))
theorem WJ(hr:SR B h0 F ρ st.nx st.ob h){s:Sh}{p:PV}{x:V}(hx:PR F ρ st.nx p x){c:Bool}{l:List s.T}(hd:Ny st s p=some (c,l))(hc:c=true):
  Po x=some l.length/\(s.sz=1\/OI x=true)/\∃cs,src h s.sz x l.length=some cs/\Ed F s l cs:=by
 unfold Ny at hd;split at hd
 case h_1=>
  cases hd;simp only[PR]at hx;subst hx;exact⟨rfl,.inr rfl,[],rfl,Ed.nil⟩
 case h_2=>
  rename_i s' l';rw[zm]at hd;obtain⟨r,h1,h2⟩:=hd;obtain⟨e,he⟩:=CB h1;have e':s'=s:=by cases e;rfl
  subst e';have:r=l':=by have:=he;cases this;rfl
  subst this;cases h2;simp only[PR,DC]at hx;obtain⟨u,hu1,hx⟩:=hx;obtain rfl:x=u:=by simpa using hu1
  rcases hx with⟨rfl,rfl|rfl|rfl⟩|⟨b,off,cap,o,bs,rfl,g1,g2,g3,g5,g4⟩
  ·exact⟨rfl,.inr rfl,[],rfl,Ed.nil⟩
  ·exact⟨rfl,.inr rfl,[],rfl,Ed.nil⟩
  ·exact⟨rfl,.inr rfl,[],rfl,Ed.nil⟩
  ·obtain⟨te,fz,hg⟩:=hr.frz b bs g2;suffices hD:Ed F s' l ((bs.drop off).take (l.length*s'.sz))from⟨rfl,.inr rfl,_,rd_some hg g3 hD.ok,hD⟩
   refine⟨?_,fun i hi=>?_⟩
   ·simp;rw[ye (by omega)]
   ·have hi2:(i+1)*s'.sz<=l.length*s'.sz:=zh _ hi;rw[zt]at hi2;have e:(((bs.drop off).take (l.length*s'.sz)).drop (i*s'.sz)).take s'.sz=(bs.drop (off+i*s'.sz)).take s'.sz:=by
     rw[List.drop_take,List.take_take,List.drop_drop,ye (by omega)]
    rw[e];exact g4 i hi
 case h_3=>
  rename_i id sz off len cap;split at hd
  case h_2=>cases hd
  rename_i fzb te s' l' ho;cases hz:zf sz s'.sz with
  |false=>rw[hz]at hd;cases hd
  |true=>
   rw[hz]at hd;have hz:=zd hz;simp only[we,zm]at hd;obtain⟨r,h1,h2⟩:=hd;obtain⟨e,he⟩:=CB h1;have e':s'=s:=by cases e;rfl
   subst e';have:r=l':=by have:=he;cases this;rfl
   subst this;cases h2;simp only[w5]at hc;obtain⟨b,n,y,g1,g2,⟨cs,fz,rfl,g3,g4,g5⟩,_⟩:=hr.at ho;simp only[PR]at hx;have hlen:((r.drop off).take len).length=len:=by simp;omega
   have hle:(off+len)*s'.sz<=r.length*s'.sz:=zh _ hc;rw[zp]at hle;rw[hlen];rcases hx.2 b n g1 with⟨_,_,o,_,rfl⟩|⟨rfl,_,hof,rfl|⟨off',rfl,hoff⟩⟩
   ·refine⟨rfl,.inr rfl,_,rd_some g2 ?_ ?_,?_⟩
    ·rw[hz,g3.1];exact hle
    ·rw[hz];exact(g3.part hc).ok
    ·rw[hz];exact g3.part hc
   ·refine⟨rfl,.inr rfl,[],rfl,?_⟩;simpa using Ed.nil
   ·refine⟨rfl,.inr rfl,_,rd_some g2 ?_ ?_,?_⟩
    ·rw[hz]at hoff;rw[g3.1];simp at hle ⊢;omega
    ·simp
    ·simp;exact Ed.nil
 case h_5=>cases hd
 case h_4=>
  rename_i t;rw[zm]at hd;obtain⟨r,h1,h2⟩:=hd;obtain⟨e,he⟩:=CB h1;have e':s=.int .u8:=by cases e;rfl
  subst e';have:r=List.map (fun b:UInt8=>(b.toNat:Int)) t:=by have:=he;cases this;rfl
  subst this;cases h2;obtain rfl:=Fa hx;refine⟨by simp[Po],.inl rfl,_,rfl,?_⟩;rw[yx,List.take_length];refine⟨by simp[Sh.sz],fun j hj=>?_⟩;have hj':j<t.length:=by simpa using hj
  have e1:((t.map fun b=>y8 .u8 (b.toNat:Int)).drop (j*1)).take 1=[y8 .u8 ((t[j]).toNat:Int)]:=by
   rw[yn,zw (by simpa using hj')];simp
  show DC _ (.int .u8) _ (((t.map fun b=>y8 .u8 (b.toNat:Int)).drop (j*1)).take 1);rw[e1];simp[DC]
theorem Z7(hr:SR B h0 F ρ st.nx st.ob h){s:Sh}{p:PV}{x:V}(hx:PR F ρ st.nx p x){c:Bool}{l:List s.T}(hd:N0 st s p=some (c,l))(hc:c=true):
  Po x=some l.length/\(s.sz=1\/OI x=true)/\∃cs,src h s.sz x l.length=some cs/\Ed F s l cs:=WJ hr hx.lz hd hc
theorem SR.congr(hr:SR B h0 F ρ N st.ob h)(hg:∀c,h'.get c=h.get c)(hn:h'.nx=h.nx):SR B h0 F ρ N st.ob h':=
 ⟨fun id o ho=>by obtain⟨b,n,x,h1,h2,h3⟩:=hr.obj id o ho;exact⟨b,n,x,h1,(hg b).trans h2,h3⟩,hr.inj,fun b cs hb=>by obtain⟨t,fz,h1⟩:=hr.frz b cs hb;exact⟨t,fz,(hg b).trans h1⟩,hr.own,hr.dead,
  fun b hb he=>(hg b).trans (hr.old b hb he),fun b o hb=>by rw[hn];exact hr.lt b o ((hg b).symm.trans hb),by rw[hn];exact hr.le,hr.fo,hr.gl,fun c hc=>by obtain⟨g1,g2,g3⟩:=hr.pn c hc;exact⟨(hg c).trans g1,g2,g3⟩⟩
theorem SR.kA{ob:Ob}(hr:SR B h0 F ρ N ob h){o:Obj}{x:O}{b n:Nat}(hg:h.get b=some x)(hfree:∀id o m,AP ob id=some o->ρ id≠some (b,m))(hF:F b=none)(hB:h0.aT B b)(hP:b∉h0.pin)(hf:o.frozen=false)
  (hx:XA F (BO ρ N (some (b,n))) (N+1) n o x):SR B h0 F (BO ρ N (some (b,n))) (N+1) ((N,o)::ob) h:=by
 have hl:Le F ρ N F (BO ρ N (some (b,n))) (N+1):=Le.new _;have hget:∀j,AP ((N,o)::ob) j=if j=N then some o else AP ob j:=by
  intro j;simp only[AP,Br];by_cases e:N=j
  ·subst e;simp
  ·rw[wc (fun h=>e h.symm)];simp[e]
 refine⟨fun j oj hj=>?_,fun i j oi oj c m m' hi hj h1 h2=>?_,hr.frz,fun id c m hb=>?_,fun j hj=>?_,hr.old,hr.lt,hr.le,hr.fo,hr.gl,fun c hc=>?_⟩
 ·rw[hget]at hj;by_cases e:j=N
  ·subst e;simp only[wk,zj]at hj;subst hj;exact⟨b,n,x,by simp[BO],hg,hx,fun _=>hF,fun e=>by rw[hf]at e;cases e⟩
  ·rw[wc e]at hj;obtain⟨c,m,y,h1,h2,h3,h4⟩:=hr.obj j oj hj;exact⟨c,m,y,by simp[BO,e,h1],h2,h3.mono hl,h4⟩
 ·rw[hget]at hi hj;have key:∀k ok m,(if k=N then some o else AP ob k)=some ok->BO ρ N (some (b,n)) k=some (c,m)->(k=N/\c=b)\/(k≠N/\AP ob k=some ok/\ρ k=some (c,m)/\c≠b):=by
   intro k ok m hk hr';by_cases e:k=N
   ·subst e;simp[BO]at hr';exact .inl ⟨rfl,hr'.1.symm⟩
   ·rw[wc e]at hk;simp only[BO,e,ve]at hr';exact .inr ⟨e,hk,hr',fun ec=>hfree k ok m hk (ec▸hr')⟩
  rcases key i oi m hi h1 with⟨e1,e2⟩|⟨e1,e2,e3,e4⟩<;>rcases key j oj m' hj h2 with⟨f1,f2⟩|⟨f1,f2,f3,f4⟩
  ·rw[e1,f1]
  ·exact wh e2 f4
  ·exact wh f2 e4
  ·exact hr.inj i j oi oj c m m' e2 f2 e3 f3
 ·unfold BO at hb;split at hb
  ·rename_i e;cases hb;subst e;exact⟨zz _,hB⟩
  ·have:=hr.own id c m hb;exact⟨by omega,this.2⟩
 ·rw[hget]at hj;by_cases e:j=N
  ·rw[wd e]at hj;cases hj
  ·rw[wc e]at hj;simp[BO,e,hr.dead j hj]
 ·obtain⟨g1,g2,g3⟩:=hr.pn c hc;refine⟨g1,g2,fun id m e=>?_⟩;unfold BO at e;split at e
  ·cases e;exact hP hc
  ·exact g3 id m e
theorem P4{off:Nat}{cs:List V}(h:off<=cs.length):Cv off [] cs=cs:=by
 apply yp;intro j;rw[GS (by simpa using h)];rw[wc (by simp)]
theorem UI{off:Nat}{vs cs:List V}(h:off+vs.length<=cs.length):Cv off vs cs=cs.take off++(vs++cs.drop (off+vs.length)):=by
 apply yp;intro j;rw[GS h];by_cases h1:j<off
 ·rw[wc (by omega),yc (by simp;omega),List.getElem?_take_of_lt h1]
 ·rw[yb (by simp;omega)];have hm:(cs.take off).length=off:=by simp;omega
  rw[hm];by_cases h2:j<off+vs.length
  ·rw[wd ⟨by omega,h2⟩,yc (by omega)]
  ·rw[wc (by omega),yb (by omega),List.getElem?_drop];congr 1;omega
theorem Ed.gA{s:Sh}{l new:List s.T}{cs ns:List V}{a:Nat}(h:Ed F s l cs)(hn:Ed F s new ns)(ha:a+new.length<=l.length):
  Ed F s (l.take a++(new++l.drop (a+new.length))) (Cv (a*s.sz) ns cs):=by
 have h1:=h.1;have h2:=hn.1;have hle:(a+new.length)*s.sz<=l.length*s.sz:=zh _ ha;rw[UI (by rw[h2, <-zp,h1];exact hle)];have p1:=h.part (off:=0) (len:=a) (by omega);have p2:=h.part (off:=a+new.length) (len:=l.length-(a+new.length)) (by omega);rw[zu,yg,yg]at p1;rw[yw (by simp),yw (by rw[List.length_drop,h1, <-Nat.sub_mul];exact ze _)]at p2;rw[h2, <-zp];exact p1.append (hn.append p2)
def Ft:List PV->List Nat
 | .sl id _ _ _ _::_=>[id]
 |_=>[]
theorem aO{s s':Sh}{x:s'.T}{c:Bool}{l:List s.T}(hd:N0 st s (.dat s' x)=some (c,l)):c=true:=by
 unfold N0 at hd;cases s' with
 |list a=>
  have hd:(D4 (.list a) (.list s) x).map (fun r=>(true,r))=some (c,l):=hd;rw[zm]at hd;obtain⟨r,_,e⟩:=hd;cases e;rfl
 |nlist a=>
  have hd:(D4 (.list a) (.list s) x).map (fun r=>(true,r))=some (c,l):=hd;rw[zm]at hd;obtain⟨r,_,e⟩:=hd;cases e;rfl
 |str=>
  have hd:(D4 (.list (.int .u8)) (.list s) (List.map (fun b:UInt8=>(b.toNat:Int)) x)).map (fun r=>(true,r))=some (c,l):=hd;rw[zm]at hd;obtain⟨r,_,e⟩:=hd;cases e;rfl
 |_=>cases hd
theorem gG(hr:SR B h0 F ρ st.nx st.ob h){ts:Array TypeId}{ps:List PV}{xs:List V}(hx:Bd F ρ st.nx ps xs){v:PV}(ht:(Sk C.T ts ps st).To v st'):OK B h0 F ρ st h (Ft ps) (Fb (Gk C.T h ts xs)) v st':=by
 unfold Sk at ht;split at ht
 case h_2=>simp at ht
 rename_i t tx p q hts htx;simp only[Bd]at hx;obtain⟨x,_,rfl,hx,y,_,rfl,hy,rfl⟩:=hx;split at ht
 case h_2=>simp at ht
 rename_i e ex hu hux;have hss:Sz ex=true:=by
  cases hq:Sz ex with
  |true=>rfl
  |false=>rw[hq]at ht;simp at ht
 rw[hss]at ht;simp only[we]at ht;split at ht
 case h_2=>simp at ht
 rename_i i s hi hs;cases hc:(zr 0 i.bytes&&zr 0 i.size&&zf i.zero.length i.size&&zf i.size s.sz)with
 |false=>rw[hc]at ht;simp at ht
 |true=>
  rw[hc]at ht;simp only[zc]at hc;obtain⟨⟨⟨c1,c2⟩,c3⟩,c4⟩:=hc;have e4:=zd c4;simp only[we]at ht;split at ht
  case h_2=>simp at ht
  rename_i c new hel;have head:c=true->∃cs,src h i.size y new.length=some cs/\Ed F s new cs/\Gk C.T h ts [x,y]=(match x with
      | .nils=>bif zf new.length 0 then some (.nils,h)
       else bif zl ((2*new.length+1000)*i.bytes) 281474976710656 then some (.sl h.nx 0 new.length new.length i.size,Ii h e cs)else none
      | .es0=>bif zf new.length 0 then some (.es0,h)
       else bif zl ((2*new.length+1000)*i.bytes) 281474976710656 then some (.sl h.nx 0 new.length new.length i.size,Ii h e cs)else none
      | .esl=>bif zf new.length 0 then some (.esl,h)else none
      | .sl b off len cap o=>
       bif zl (len+new.length) cap then(wr h b (off+len*i.size) cs).map fun h'=>(.sl b off (len+new.length) cap o,h')
       else bif zl ((2*(len+new.length)+1000)*i.bytes) 281474976710656 then
        match src h i.size x len with
        |some old=>
         bif zf o 0 then some (.sl h.nx 0 (len+new.length) (len+new.length) i.size,Ii h e (old++cs))
         else
          match h.get b with
          |some (.cells _ te fz)=>
           bif zf off 0&&zf o i.size&&zf te e&&zl fz.2 fz.1&&cs.all V.one then some (.sl h.nx 0 (len+new.length) (len+new.length) i.size,(h.kill b).push (.cells (old++cs) e (0,0)))
           else none
          |_=>none
        |none=>none
       else none
      |_=>none):=by
   intro hc;obtain⟨g1,g2,cs,g3,g4⟩:=Z7 hr hy hel hc;rw[<-e4]at g3;refine⟨cs,g3,g4,?_⟩;have hcond:(zr 0 i.bytes&&zr 0 i.size&&zf i.zero.length i.size&&(zf i.size 1||OI y))=true:=by
    rw[c1,c2,c3];rcases g2 with g2|g2
    ·rw[e4,g2];rfl
    ·rw[g2,y7];rfl
   have hint:isInt ex=false:=by cases ex<;>first|rfl|cases hss
   simp only[Gk,hts,htx,hu,hux,g1,hi,hint,hcond,we,g3];cases x<;>rfl
  split at ht
  case h_3=>simp at ht
  case h_1=>
   simp only[PR]at hx;subst hx;have grow:c=true->0<new.length->(2*new.length+1000)*i.bytes<=yL->OK B h0 F ρ st h (Ft [PV.nil,q]) (Fb (Gk C.T h ts [.nils,y])) (.sl st.nx s.sz 0 new.length none) (st.push (.arr false e s new)):=by
    intro k1 k2 k3;obtain⟨cs,g1,g2,g3⟩:=head k1;have b1:zf new.length 0=false:=by rw[Br];simp;intro e;rw[e]at k2;simp at k2
    have b2:zl ((2*new.length+1000)*i.bytes) 281474976710656=true:=zi k3;rw[g3];simp only[b1,b2,wg,we];exact OK.new hr (o:=.arr false e s new) (n:=new.length) rfl ⟨_,_,rfl,g2,ze _,rfl⟩ (NZ (.inr e4))
   have same:c=true->new.length=0->OK B h0 F ρ st h (Ft [PV.nil,q]) (Fb (Gk C.T h ts [.nils,y])) .nil st:=by
    intro k1 k2;obtain⟨cs,g1,g2,g3⟩:=head k1;have b1:zf new.length 0=true:=by rw[k2];rfl
    rw[g3];simp only[b1,we];exact⟨.nils,h,F,ρ,.inl rfl,by simp[PR],hr,yf,rfl,rfl,ze _,fun _ _=>.inl rfl⟩
   split at ht
   case h_1=>
    simp only[AQ]at ht;obtain⟨rfl,rfl⟩:=ht;simp only[N0,Ny,lz,zj,z8]at hel;obtain⟨rfl,rfl⟩:=hel;exact same rfl rfl
   case h_2=>
    have hc':c=true:=by
     exact aO hel
    by_cases hn:0<new.length
    ·rw[w4 hn]at ht;cases ht with
     |tt ht=>
      simp only[BM,zc,w5]at ht;obtain⟨⟨k1,k3⟩,rfl,rfl⟩:=ht;exact grow k1 hn k3
    ·rw[w8 hn]at ht;cases ht with
     |ff ht=>
      simp only[AQ]at ht;obtain⟨rfl,rfl⟩:=ht;exact same hc' (by omega)
   case h_3=>
    by_cases hn:0<new.length
    ·rw[w4 hn]at ht;cases ht with
     |tt ht=>
      simp only[BM,zc,w5]at ht;obtain⟨⟨k1,k3⟩,rfl,rfl⟩:=ht;exact grow k1 hn k3
    ·rw[w8 hn]at ht;cases ht with
     |ff ht=>
      simp only[BM]at ht;obtain⟨k1,rfl,rfl⟩:=ht;exact same k1 (by omega)
   case h_4=>
    simp only[BM,zc,w5]at ht;obtain⟨⟨⟨k1,k2⟩,k3⟩,rfl,rfl⟩:=ht;exact grow k1 k2 k3
  case h_2=>
   rename_i id sz off len cap;split at ht
   case h_2=>simp at ht
   rename_i e' s' l ho;split at ht
   case h_2=>simp at ht
   rename_i l' hl';obtain⟨ecast,hcast⟩:=CB hl';have es:s'=s:=by cases ecast;rfl
   subst es;have:l'=l:=by have:=hcast;cases this;rfl
   subst this;cases hcc:(zf e e'&&zf sz s'.sz)with
   |false=>rw[hcc]at ht;simp at ht
   |true=>
    rw[hcc]at ht;simp only[zc]at hcc;have ee:=zd hcc.1;have esz:=zd hcc.2;subst ee;subst esz;simp only[we]at ht;split at ht
    case h_2=>
     rename_i k;simp only[BM,zc,w5]at ht;obtain⟨⟨⟨k1,k2⟩,k3⟩,rfl,rfl⟩:=ht;obtain⟨cs,g1,g2,g3⟩:=head k1;obtain⟨b,n,z,h1,h2,⟨bs,fz,rfl,h3,h4,h5⟩,h6,_⟩:=hr.at ho;simp only[PR]at hx;rw[g3];have hone:cs.all V.one=true:=g2.Tg;have hcl:cs.length=new.length*s'.sz:=g2.1;have hbl:=h3.1;have hle:(off+len+new.length)*s'.sz<=l'.length*s'.sz:=zh _ (by omega);have hexp:(off+len+new.length)*s'.sz=off*s'.sz+len*s'.sz+new.length*s'.sz:=by rw[zp,zp]
     have hsp:=Ed.gA h3 g2 (a:=off+len) (by omega);have hlen:(l'.take (off+len)++(new++l'.drop (off+len+new.length))).length=l'.length:=by simp;omega
     rcases hx.2 b n h1 with⟨_,g6,o,g5,rfl⟩|⟨e0,ek,g6,g7⟩
     ·simp only[yh]at g6;have hw:wr h b (off*s'.sz+len*i.size) cs=some (h.put b (.cells (Cv ((off+len)*s'.sz) cs bs) e fz)):=by
       rw[M7 h2 (by rw[e4,hcl,hbl];omega) h4 hone,e4, <-zp]
      have b1:zl (len+new.length) k=true:=zi k2;refine⟨.sl b (off*s'.sz) (len+new.length) k o,h.put b (.cells (Cv ((off+len)*s'.sz) cs bs) e fz),F,ρ,.inl ?_,?_,hr.set ho h1 h2 rfl rfl (o':=.arr false e s' _) ⟨_,fz,rfl,hsp,h4,hlen.trans h5⟩,yf,rfl,rfl,ze _,fun c _=>?_⟩
      ·simp only[yh,b1,we,hw,zq,Fb]
      ·simp only[PR];refine⟨hx.1,fun b' n' hb'=>.inl ?_⟩;rw[h1]at hb';cases hb';exact⟨by simpa using k2,by simpa using g6,o,g5,rfl⟩
      ·rw[H.Bq];by_cases e:c=b
       ·exact .inr ⟨id,by simp[Ft],n,e▸h1⟩
       ·rw[wc e];exact .inl rfl
     ·cases ek;subst e0;have hn0:new.length=0:=by omega
      have hnil:new=[]:=zo.1 hn0;subst hnil;have hcs:cs=[]:=zo.1 (by rw[hcl];simp);subst hcs;have hlp:Cv ((off+0)*s'.sz) [] bs=bs:=P4 (by rw[hbl];have:=zh s'.sz (show off+0<=l'.length by omega);exact this);have hput:∀c,(h.put b (.cells (Cv ((off+0)*s'.sz) [] bs) e fz)).get c=h.get c:=by
       intro c;rw[hlp,H.Bq];by_cases e:c=b
       ·rw[wd e,e,h2]
       ·rw[wc e]
      have hset:=hr.set ho h1 h2 rfl rfl (o':=.arr false e s' _) (x':=.cells (Cv ((off+0)*s'.sz) [] bs) e fz) ⟨_,fz,rfl,hsp,h4,hlen.trans h5⟩;have hset':SR B h0 F ρ st.nx (DE st.ob id (.arr false e s' (l'.take (off+0)++([]++l'.drop (off+0+0))))) h:=
       SR.congr (st:=⟨st.n,st.fr,DE st.ob id _,st.nx⟩) hset (fun c=>(hput c).symm) rfl
      have hpr:∀w,(w=.esl\/∃off',w=.sl b off' 0 0 0/\off'<=off*s'.sz)->PR F ρ st.nx (.sl id s'.sz off (Nat.add 0 0) (some 0)) w:=by
       intro w hw;simp only[PR];refine⟨hx.1,fun b' n' hb'=>.inr ?_⟩;rw[h1]at hb';cases hb';exact⟨by simp,by simp,g6,hw⟩
      rcases g7 with rfl|⟨off',rfl,hoff'⟩
      ·exact⟨.esl,h,F,ρ,.inl rfl,hpr _ (.inl rfl),hset',yf,rfl,rfl,ze _,fun _ _=>.inl rfl⟩
      ·have hob:off'<=bs.length:=by
        have h7:off*s'.sz<=l'.length*s'.sz:=zh _ (by omega);omega
       have hw:wr h b (off'+0*i.size) []=some (h.put b (.cells (Cv (off'+0*i.size) [] bs) e fz)):=M7 h2 (by simpa using hob) h4 rfl;have hput2:∀c,(h.put b (.cells (Cv (off'+0*i.size) [] bs) e fz)).get c=h.get c:=by
        intro c;rw[P4 (by simpa using hob),H.Bq];by_cases e:c=b
        ·rw[wd e,e,h2]
        ·rw[wc e]
       refine⟨.sl b off' 0 0 0,h.put b (.cells (Cv (off'+0*i.size) [] bs) e fz),F,ρ,.inl ?_,hpr _ (.inr ⟨off',rfl,hoff'⟩),SR.congr (st:=⟨st.n,st.fr,DE st.ob id _,st.nx⟩) hset' hput2 rfl,yf,rfl,rfl,ze _,fun c _=>.inl (hput2 c)⟩;simp only[yd,Nat.add_zero,show zl 0 0=true from rfl,we,hw,zq,Fb]
    simp only[BM,zc,w5]at ht;obtain⟨⟨⟨⟨k1,k2⟩,k3⟩,k4⟩,rfl,rfl⟩:=ht;subst k2;obtain⟨cs,g1,g2,g3⟩:=head k1;obtain⟨b,n,z,h1,h2,⟨bs,fz,rfl,h3,h4,h5⟩,h6,_⟩:=hr.at ho;have hFb:=h6 rfl;simp only[PR]at hx;have hB:=(hr.own id b n h1).2;have hPb:b∉h0.pin:=fun hp=>(hr.pn b hp).2.2 id n h1
    have hidN:=(hr.own id b n h1).1;obtain⟨_,_,o,g5,rfl⟩:len<=len/\0+len<=n/\∃o,(o=0\/o=s'.sz)/\x=.sl b (0*s'.sz) len len o:=by
     rcases hx.2 b n h1 with g|⟨_,e,_⟩
     ·exact g
     ·cases e
    have hbl:bs.length=len*i.size:=by rw[h3.1,k3,e4]
    have hfree:∀j oj m,AP (Gn st.ob id) j=some oj->BO ρ id none j≠some (b,m):=by
     intro j oj m hj hjr;rw[D3]at hj;split at hj
     ·cases hj
     ·rename_i hne;simp only[BO,hne,ve]at hjr;exact hne (hr.inj j id oj _ b m n hj ho hjr h1)
    have hdel:=hr.del id;have hle1:Le F ρ st.nx F (BO ρ id none) st.nx:=Le.NJ id;have hnew:Ed F s' (l'++new) (bs++cs):=h3.append g2;have hlen:(l'++new).length=len+new.length:=by rw[List.length_append, <-k3]
    have hone:cs.all V.one=true:=g2.Tg;rw[g3];simp only;by_cases hn:new.length=0
    ·
     have hnil:new=[]:=zo.1 hn;have hcs:cs=[]:=zo.1 (by rw[g2.1,hn,zu]);subst hcs;have b1:zl (len+new.length) len=true:=zi (by omega);have hw:wr h b (0*s'.sz+len*i.size) []=some (h.put b (.cells (Cv (0*s'.sz+len*i.size) [] bs) e fz)):=M7 h2 (by rw[hbl];simp) h4 rfl;have hput:∀c,(h.put b (.cells (Cv (0*s'.sz+len*i.size) [] bs) e fz)).get c=h.get c:=by
      intro c;rw[P4 (by rw[hbl];simp),H.Bq];by_cases e:c=b
      ·rw[wd e,e,h2]
      ·rw[wc e]
     refine⟨.sl b (0*s'.sz) (len+new.length) len o,h.put b (.cells (Cv (0*s'.sz+len*i.size) [] bs) e fz),F,BO (BO ρ id none) st.nx (some (b,n)),.inl ?_,?_,?_,hle1.trans (Le.new _),rfl,rfl,ze _,fun c _=>.inl (hput c)⟩
     ·simp only[b1,we,hw,zq,Fb]
     ·unfold PR;refine⟨zz _,fun b' n' hb=>.inl ?_⟩;simp[BO]at hb;obtain⟨rfl,rfl⟩:=hb;refine⟨ze _,?_,o,g5,?_⟩
      ·show 0+(len+new.length)<=n;omega
      ·show V.sl b (0*s'.sz) (len+new.length) len o=.sl b (0*s'.sz) (len+new.length) (len+new.length) o;rw[hn];rfl
     ·refine SR.kA (ob:=Gn st.ob id) ?_ (x:=.cells bs e fz) ((hput b).trans h2) hfree hFb hB hPb rfl ⟨bs,fz,rfl,?_,h4,?_⟩
      ·exact SR.congr (st:=⟨st.n,st.fr,Gn st.ob id,st.nx⟩) hdel hput rfl
      ·rw[hnil,List.append_nil];exact h3
      ·rw[hnil,List.append_nil];exact h5
    ·
     have b1:zl (len+new.length) len=false:=by
      cases hb:zl (len+new.length) len with
      |false=>rfl
      |true=>have:=Nat.le_of_ble_eq_true hb;omega
     have b2:zl ((2*(len+new.length)+1000)*i.bytes) 281474976710656=true:=zi k4;have hsrc:src h i.size (.sl b (0*s'.sz) len len o) len=some bs:=by
      show rd h b (0*s'.sz) (len*i.size)=_;rw[rd_some h2 (by rw[hbl,zu];omega) (fun u hu=>h3.ok u (List.mem_of_mem_drop (List.mem_of_mem_take hu)))];rw[zu,yg, <-hbl,List.take_length]
     simp only[b1,b2,wg,we,hsrc];have fin:∀ {h1':H},SR B h0 F (BO ρ id none) st.nx (Gn st.ob id) h1'->h1'.nx=h.nx->(∀c,c≠b->h1'.get c=h.get c)->
       OK B h0 F ρ st h [id] (Fb (some (.sl h.nx 0 (len+new.length) (len+new.length) i.size,h1'.push (.cells (bs++cs) e (0,0))))) (.sl st.nx s'.sz 0 (Nat.add len new.length) none) ((st.Om id).push (.arr false e s' (l'++new))):=by
      intro h1' hr1 hnx hg;have hp:=hr1.push (o:=.arr false e s' (l'++new)) (x:=.cells (bs++cs) e (0,0)) (n:=len+new.length) rfl ⟨_,_,rfl,hnew,ze _,hlen⟩;refine⟨_,_,F,_,.inl rfl,?_,hp,hle1.trans (Le.new _),rfl,rfl,by show h.nx<=h1'.nx+1;omega,fun c hc=>?_⟩
      ·rw[<-hnx];exact NZ (.inr e4)
      ·rw[H.BK,wc (by omega)];by_cases e:c=b
       ·exact .inr ⟨id,zk.2 rfl,n,e▸h1⟩
       ·exact .inl (hg c e)
     rcases g5 with rfl|rfl
     ·simp only[z7,we];exact fin hdel rfl (fun _ _=>rfl)
     ·have b3:zf s'.sz 0=false:=by
       rw[<-e4];cases hb:zf i.size 0 with
       |false=>rfl
       |true=>have:=zd hb;rw[this]at c2;cases c2
      have b4:(zf (0*s'.sz) 0&&zf s'.sz i.size&&zf e e&&zl fz.2 fz.1&&cs.all V.one)=true:=by
       rw[zu,e4,hone,zi h4];simp
      simp only[b3,wg,h2,b4,we];exact fin (hdel.kill hfree hFb hB hPb) rfl (fun c hc=>by rw[H.Cb,wc hc])
theorem EX:∀ {s:Sh} {x:s.T} {v:V},DV F s x v->PR F ρ N (Cd s x) v
 | .pair a b,x,v,h=>by obtain⟨cs,rfl,h1⟩:=h.1 rfl;unfold Cd PR;exact⟨cs,rfl,C4 h1⟩
 | .unit,x,v,h=>by obtain⟨cs,rfl,h1⟩:=h.1 rfl;simp only[DC]at h1;subst h1;unfold Cd PR;exact⟨[],rfl,by simp⟩
 | .int _,x,v,h=>by have:=h.2 rfl;unfold Cd PR;exact this
 | .bool,x,v,h=>by have:=h.2 rfl;unfold Cd PR;exact this
 | .str,x,v,h=>by have:=h.2 rfl;unfold Cd PR;exact this
 | .list _,x,v,h=>by have:=h.2 rfl;unfold Cd PR;exact this
 | .nlist _,x,v,h=>by have:=h.2 rfl;unfold Cd PR;exact this
 | .fnv,x,v,h=>by
  have:=h.2 rfl;simp only[DC,yi,wn]at this;subst this;unfold Cd;cases (x:Option Fn)<;>simp[PR]
 | .ptr s,x,v,h=>by
  have:=h.2 rfl;simp only[DC]at this;obtain⟨b,o,bs,h1,h2,h3,h4⟩:=this;unfold Cd PR;exact⟨b,o,bs,List.singleton_inj.1 h1,h2,h3,h4⟩
theorem mM{s:Sh}{p:PV}{x:s.T}{v:V}(hp:PR F ρ N p v)(hd:asV s p=some x):DV F s x v:=by
 unfold asV at hd;cases hb:(MG p==s.Qn)with
 |false=>rw[hb]at hd;cases hd
 |true=>
  rw[hb]at hd;simp only[we]at hd;have hb:MG p=s.Qn:=by simpa using hb
  refine⟨fun e=>?_,fun e=>?_⟩
  ·rw[e]at hb;cases p<;>simp only[MG]at hb<;>try (cases hb;done)
   rename_i l;simp only[PR]at hp;obtain⟨cs,rfl,h1⟩:=hp;exact⟨cs,rfl,CS h1 hd⟩
  ·rw[e]at hb;have:p.cells=[p]:=by cases p<;>first|rfl|(simp[MG]at hb)
   rw[this]at hd;exact CS (by simpa using hp) hd
theorem cH{T:B3}{t:TypeId}{s:Sh}(h:nI T t=some s):(∃k,s=.int k/\T.und t=some (.int k))\/(s=.str/\T.und t=some .string)\/(s=.bool/\T.und t=some .bool):=by
 unfold nI at h;split at h
 ·rename_i k hu;cases h;exact .inl ⟨k,rfl,hu⟩
 ·rename_i hu;cases h;exact .inr (.inl ⟨rfl,hu⟩)
 ·rename_i hu;cases h;exact .inr (.inr ⟨rfl,hu⟩)
 ·cases h
theorem W4{T:B3}{t:TypeId}{s:Sh}(hs:nI T t=some s){p:PV}{x:s.T}{v:V}(hp:PR F ρ N p v)(hd:tX s p=some x):DV F s x v:=by
 have:=Gx hp hd;rcases cH hs with⟨k,rfl,_⟩|⟨rfl,_⟩|⟨rfl,_⟩<;>exact⟨fun e=>(by cases e),fun _=>this⟩
theorem SP{T:B3}{t:TypeId}{s:Sh}(hs:nI T t=some s){x:s.T}{v:V}(hv:DV F s x v):∃d,T.und t=some d/\IF T t d v=true/\(∀es,JW T t v es=LH T t v es 0)/\∀y u,DV F s y u->jC T t v u=some (tD s x y):=by
 rcases cH hs with⟨k,rfl,hu⟩|⟨rfl,hu⟩|⟨rfl,hu⟩<;>
 ·have h1:=hv.2 rfl;simp only[DC,yi,wn]at h1;subst h1;refine⟨_,hu,rfl,fun _=>rfl,fun y u hy=>?_⟩;have h2:=hy.2 rfl;simp only[DC,yi,wn]at h2;subst h2;simp[jC,hu,tD]
theorem Pf{T:B3}{t:TypeId}{ks vs:Sh}(hs:nI T t=some ks){k:ks.T}{kv:V}(hk:DV F ks k kv):∀ {l:List (ks.T×vs.T)} {es:List (V×V×Nat)},MR F ks vs l es->∀i,∃r,LH T t kv es i=some r/\
  (match r with
   |none=>Lc ks vs k l=none/\S0 ks vs k l=l/\∀x xv c,DV F vs x xv->MR F ks vs (Rz ks vs k x l) (es++[(kv,xv,c)])
   |some (j,u)=>(∃v,Lc ks vs k l=some v/\DV F vs v u)/\i<=j/\MR F ks vs (S0 ks vs k l) (es.eraseIdx (j-i))/\∀x xv,DV F vs x xv->MR F ks vs (Rz ks vs k x l) (Wn es (j-i) kv xv)):=by
 intro l es hm;induction hm with
 |nil=>intro i;exact⟨none,rfl,rfl,rfl,fun x xv c hx=>.cons hk hx .nil⟩
 |@cons a b l av bv n es h1 h2 h3 ih=>
  intro i;obtain⟨d,_,_,_,hq⟩:=SP hs hk;have hq:=hq a av h1;unfold LH;rw[hq];cases hb:tD ks k a with
  |true=>
   refine⟨some (i,bv),rfl,⟨b,by simp[Lc,hb],h2⟩,ze _,?_,fun x xv hx=>?_⟩
   ·simp only[yk,List.eraseIdx_cons_zero,S0,hb,we];exact h3
   ·simp only[yk,Rz,hb,we,Wn,List.modify_zero_cons];exact .cons hk hx h3
  |false=>
   obtain⟨r,g1,g2⟩:=ih (i+1);refine⟨r,g1,?_⟩;cases r with
   |none=>
    obtain⟨k1,k2,k3⟩:=g2;refine⟨by simp only[Lc,hb,wg];exact k1,by simp only[S0,hb,wg,k2],fun x xv c hx=>?_⟩;simp only[Rz,hb,wg,List.cons_append];exact .cons h1 h2 (k3 x xv c hx)
   |some ju=>
    obtain⟨j,u⟩:=ju;obtain⟨⟨v,k1,k2⟩,k3,k4,k5⟩:=g2;have e:j-i=(j-(i+1))+1:=by omega
    refine⟨⟨v,by simp only[Lc,hb,wg];exact k1,k2⟩,by omega,?_,fun x xv hx=>?_⟩
    ·rw[e];simp only[List.eraseIdx_cons_succ,S0,hb,wg];exact .cons h1 h2 k4
    ·rw[e];simp only[Rz,hb,wg,Wn,List.modify_succ_cons];exact .cons h1 h2 (k5 x xv hx)
theorem oC(hr:SR B h0 F ρ st.nx st.ob h){t:TypeId}{v:PV}(ht:(Xc C.T t st).To v st'):OK B h0 F ρ st h [] (Fb (IG h none)) v st':=by
 unfold Xc at ht;split at ht
 case h_2=>simp at ht
 split at ht
 case h_2=>simp at ht
 rename_i ks vs hk hv;simp only[AQ]at ht;obtain⟨rfl,rfl⟩:=ht;refine OK.new hr (o:=.map ks vs []) (x:=.map [] 0) (n:=0) rfl ⟨[],0,rfl,.nil⟩ ?_;unfold PR;exact⟨zz _,fun b m hb=>by simp[BO]at hb;rw[hb.1]⟩
theorem ZN(hr:SR B h0 F ρ st.nx st.ob h){ks vs:Sh}{m:PV}{l:List (ks.T×vs.T)}{x:V}(hm:PR F ρ st.nx m x)(hd:fX st ks vs m=some l):∃es,entries h x=some es/\MR F ks vs l es:=by
 unfold fX at hd;split at hd
 ·cases hd;simp only[PR]at hm;subst hm;exact⟨[],rfl,.nil⟩
 ·rename_i id;split at hd
  case h_2=>cases hd
  rename_i ks' vs' l' ho;obtain⟨e,he⟩:=CB hd;simp only[Sh.list.injEq,Sh.pair.injEq]at e;obtain⟨rfl,rfl⟩:=e;obtain rfl:l'=l:=he;obtain⟨b,n,o,h1,h2,⟨es,clk,rfl,h4⟩,_⟩:=hr.at ho;simp only[PR]at hm;obtain rfl:=hm.2 b n h1;exact⟨es,by simp[entries,h2],h4⟩
 ·cases hd
theorem cK{ks vs:Sh}{ok:Bool}{z:vs.T}{x:ks.T}:∀ {l:List (ks.T×vs.T)} {v:PV},(plk ks vs ok z x st l).To v st'->st=st'/\((Lc ks vs x l=none/\v=bif ok then .tup [Cd vs z,.bl false]else Cd vs z)\/∃w,Lc ks vs x l=some w/\v=bif ok then .tup [Cd vs w,.bl true]else Cd vs w)
 |[],v,ht=>by
  unfold plk at ht;simp only[AQ]at ht;exact⟨ht.2,.inl ⟨rfl,ht.1.symm⟩⟩
 |(a,b)::l,v,ht=>by
  unfold plk at ht;generalize hc:tD ks x a=c at ht;cases ht with
  |tt ht=>
   simp only[AQ]at ht;exact⟨ht.2,.inr ⟨b,by simp[Lc,hc],ht.1.symm⟩⟩
  |ff ht=>
   obtain⟨h1,h2⟩:=cK ht;have e:Lc ks vs x ((a,b)::l)=Lc ks vs x l:=by simp[Lc,hc]
   rw[e];exact⟨h1,h2⟩
theorem bQ(hr:SR B h0 F ρ st.nx st.ob h){t:TypeId}{p q:PV}{x y:V}(hx:PR F ρ st.nx p x)(hy:PR F ρ st.nx q y){ok:Bool}{v:PV}(ht:(SB C.T t p q ok st).To v st'):OK B h0 F ρ st h [] (Bz h (EP C.T h t x y ok)) v st':=by
 unfold SB at ht;split at ht
 case h_2=>simp at ht
 rename_i kt e hu;split at ht
 case h_2=>simp at ht
 rename_i ks vs i hks hvs hi;split at ht
 case h_2=>simp at ht
 rename_i k l z hk hl hz;cases hb:(vAg i.zv==vs.Qn)with
 |false=>rw[hb]at ht;simp at ht
 |true=>
  rw[hb]at ht;simp only[we]at ht;have hkd:=W4 hks hy hk;obtain⟨es,he,hm⟩:=ZN hr hx hl;obtain⟨kd,g1,g2,g3,_⟩:=SP hks hkd;obtain⟨r,r1,r2⟩:=Pf hks hkd hm 0;have hzd:DV F vs z i.zv:=by
   have h1:DC F vs z i.zv.cells:=CS (Ei (F:=F) (ρ:=ρ) (N:=st.nx) i.zero) hz;have hb:vAg i.zv=vs.Qn:=by simpa using hb
   refine⟨fun e=>?_,fun e=>?_⟩
   ·rw[e]at hb;cases hv:i.zv<;>rw[hv]at hb<;>simp only[vAg]at hb<;>try (cases hb;done)
    rw[hv]at h1;exact⟨_,rfl,h1⟩
   ·rw[e]at hb;have:i.zv.cells=[i.zv]:=by cases hv:i.zv<;>rw[hv]at hb<;>first|rfl|(simp[vAg]at hb)
    rw[<-this];exact h1
  unfold EP;simp only[hu,g1,he,g2,we,g3,r1];cases hf:vs.qZ with
  |true=>
   rw[hf]at ht;simp only[we]at ht;have hk2:=cK ht;obtain⟨e0,hk3⟩:=hk2;subst e0;rcases hk3 with⟨hn,hv⟩|⟨w,hw,hv⟩
   ·cases r with
    |none=>
     simp only[hi];cases ok with
     |true=>exact zg hr rfl (by rw[hv];simp only[we,PR];exact⟨_,rfl,_,_,rfl,EX hzd,_,_,rfl,by simp[PR],rfl⟩)
     |false=>exact zg hr rfl (by rw[hv];exact EX hzd)
    |some ju=>
     obtain⟨⟨v',k1,_⟩,_⟩:=r2;rw[hn]at k1;cases k1
   ·cases r with
    |none=>rw[r2.1]at hw;cases hw
    |some ju=>
     obtain⟨⟨v',k1,k2⟩,_⟩:=r2;rw[hw]at k1;cases k1;cases ok with
     |true=>exact zg hr rfl (by rw[hv];simp only[we,PR];exact⟨_,rfl,_,_,rfl,EX k2,_,_,rfl,by simp[PR],rfl⟩)
     |false=>exact zg hr rfl (by rw[hv];exact EX k2)
  |false=>
  rw[hf]at ht;simp only[wg,AQ]at ht;obtain⟨rfl,rfl⟩:=ht;cases r with
  |none=>
   obtain⟨k1,_⟩:=r2;simp only[hi,k1,Option.getD_none,Option.isSome_none];cases ok with
   |true=>exact zg hr rfl (by simp only[we,PR];exact⟨_,rfl,_,_,rfl,EX hzd,_,_,rfl,DN _,rfl⟩)
   |false=>exact zg hr rfl (EX hzd)
  |some ju=>
   obtain⟨j,u⟩:=ju;obtain⟨⟨v,k1,k2⟩,_⟩:=r2;simp only[k1,yh,Option.isSome_some];cases ok with
   |true=>exact zg hr rfl (by simp only[we,PR];exact⟨_,rfl,_,_,rfl,EX k2,_,_,rfl,DN _,rfl⟩)
   |false=>exact zg hr rfl (EX k2)
theorem gV(hr:SR B h0 F ρ st.nx st.ob h){t:TypeId}{p q r:PV}{x y z:V}(hx:PR F ρ st.nx p x)(hy:PR F ρ st.nx q y)(hz:PR F ρ st.nx r z){v:PV}(ht:(RX C.T t p q r st).To v st'):
  ∃id,p=.mp id/\OK B h0 F ρ st h [id] (cZ (HD C.T h t x y z)) v st':=by
 unfold RX at ht;split at ht
 case h_2=>simp at ht
 rename_i kt e id hu;split at ht
 case h_2=>simp at ht
 rename_i ks ks' vs l hks ho;split at ht
 case h_2=>simp at ht
 rename_i k l2 w hk hl hw;obtain⟨e1,he⟩:=CB hl;simp only[Sh.list.injEq,Sh.pair.injEq,wn]at e1;subst e1;obtain rfl:l=l2:=he;simp only[AQ]at ht;obtain⟨rfl,rfl⟩:=ht;have hkd:=W4 hks hy hk;have hwd:=mM hz hw;obtain⟨b,n,o,h1,h2,⟨es,clk,rfl,h4⟩,_⟩:=hr.at ho;have hx':=hx;simp only[PR]at hx';obtain rfl:=hx'.2 b n h1;obtain⟨kd,g1,g2,g3,_⟩:=SP hks hkd;obtain⟨r',r1,r2⟩:=Pf hks hkd h4 0;refine⟨id,rfl,?_⟩;have fin:∀es' clk',MR F ks' vs (Rz ks' vs k w l) es'->OK B h0 F ρ st h [id] (cZ (some (h.put b (.map es' clk')))) (.tup []) (st.setObj id (.map ks' vs (Rz ks' vs k w l))):=by
  intro es' clk' hm;refine⟨.tup [],_,F,ρ,.inr ⟨rfl,rfl⟩,by simp[PR],hr.set ho h1 h2 rfl rfl ⟨es',clk',rfl,hm⟩,yf,rfl,rfl,ze _,fun c _=>?_⟩;by_cases ec:c=b
  ·exact .inr ⟨id,zk.2 rfl,n,ec▸h1⟩
  ·exact .inl (by rw[H.Bq,wc ec])
 unfold HD;simp only[hu,g1,h2,g2,we,g3,r1];cases r' with
 |none=>exact fin _ _ (r2.2.2 w z clk hwd)
 |some ju=>exact fin _ _ (r2.2.2.2 w z hwd)
theorem fI(hr:SR B h0 F ρ st.nx st.ob h){ts:Array TypeId}{ps:List PV}{xs:List V}(hx:Bd F ρ st.nx ps xs){v:PV}(ht:(RY C.T ts ps st).To v st'):
  ∃id qs,ps=.mp id::qs/\OK B h0 F ρ st h [id] (Fb (Kq C.T h ts xs)) v st':=by
 unfold RY at ht;split at ht
 case h_2=>simp at ht
 rename_i t id q hts;split at ht
 case h_2=>simp at ht
 rename_i kt e hu;split at ht
 case h_2=>simp at ht
 rename_i ks ks' vs l hks ho;split at ht
 case h_2=>simp at ht
 rename_i k l2 hk hl;obtain⟨e1,he⟩:=CB hl;simp only[Sh.list.injEq,Sh.pair.injEq,wn]at e1;subst e1;obtain rfl:l=l2:=he;simp only[AQ]at ht;obtain⟨rfl,rfl⟩:=ht;simp only[Bd]at hx;obtain⟨x,xs',rfl,hx1,y,xs'',rfl,hy,rfl⟩:=hx;have hkd:=W4 hks hy hk;obtain⟨b,n,o,h1,h2,⟨es,clk,rfl,h4⟩,_⟩:=hr.at ho;obtain rfl:=hx1.2 b n h1;obtain⟨kd,g1,g2,g3,_⟩:=SP hks hkd;obtain⟨r',r1,r2⟩:=Pf hks hkd h4 0;refine⟨id,_,rfl,?_⟩;have fin:∀es',MR F ks' vs (S0 ks' vs k l) es'->OK B h0 F ρ st h [id] (Fb (some (.tup [],h.put b (.map es' clk)))) (.tup []) (st.setObj id (.map ks' vs (S0 ks' vs k l))):=by
  intro es' hm;refine⟨.tup [],_,F,ρ,.inl rfl,by simp[PR],hr.set ho h1 h2 rfl rfl ⟨es',clk,rfl,hm⟩,yf,rfl,rfl,ze _,fun c _=>?_⟩;by_cases ec:c=b
  ·exact .inr ⟨id,zk.2 rfl,n,ec▸h1⟩
  ·exact .inl (by rw[H.Bq,wc ec])
 unfold Kq;simp only[hts,hu,g1,h2,g2,we,g3,r1];cases r' with
 |none=>exact fin es (by rw[r2.2.1];exact h4)
 |some ju=>
  have:=r2.2.2.1;simp only[Nat.sub_zero]at this;exact fin _ this
theorem SR.same(hr:SR B h0 F ρ st.nx st.ob h){id b n:Nat}{o o':Obj}{x:O}(ho:st.obj id=some o)(hb:ρ id=some (b,n))(hg:h.get b=some x)(hf:o.frozen=false)(hf':o'.frozen=false)
  (hx:XA F ρ st.nx n o' x):SR B h0 F ρ st.nx (DE st.ob id o') h:=by
 have hput:∀c,h.get c=(h.put b x).get c:=by
  intro c;rw[H.Bq];by_cases e:c=b
  ·rw[wd e,e,hg]
  ·rw[wc e]
 exact SR.congr (st:=⟨st.n,st.fr,DE st.ob id o',st.nx⟩) (hr.set ho hb hg hf hf' hx) hput rfl
theorem lR(hr:SR B h0 F ρ st.nx st.ob h){ts:Array TypeId}{ps:List PV}{xs:List V}(hx:Bd F ρ st.nx ps xs){v:PV}(ht:(VD C.T ts ps st).To v st'):OK B h0 F ρ st h (Ft ps) (Fb (FF C.T h ts xs)) v st':=by
 unfold VD at ht;split at ht
 case h_2=>simp at ht
 rename_i t p hts;simp only[Bd]at hx;obtain⟨x,_,rfl,hx,rfl⟩:=hx;split at ht
 case h_2=>simp at ht
 rename_i e hu;split at ht
 case h_3=>simp at ht
 case h_1=>
  simp only[AQ]at ht;obtain⟨rfl,rfl⟩:=ht;simp only[PR]at hx;subst hx;exact⟨.tup [],h,F,ρ,.inl (by simp[FF,hts,hu,Fb]),by simp[PR],hr,yf,rfl,rfl,ze _,fun _ _=>.inl rfl⟩
 rename_i id sz off len cap;split at ht
 case h_2=>simp at ht
 rename_i i e' s l hi ho;cases hc:(zf sz s.sz&&zr 0 i.zero.length&&zf i.zero.length s.sz&&Det.Lx V.one i.zero)with
 |false=>rw[hc]at ht;simp at ht
 |true=>
  rw[hc]at ht;simp only[zc,Fo]at hc;obtain⟨⟨⟨c1,c2⟩,c3⟩,c4⟩:=hc;have c1:=zd c1;have c3:=zd c3;subst c1;simp only[we]at ht;split at ht
  case h_2=>simp at ht
  rename_i z hz;simp only[BM,w5]at ht;obtain⟨k1,rfl,rfl⟩:=ht;obtain⟨b,n,y,h1,h2,⟨bs,fz,rfl,h3,h4,h5⟩,h6,_⟩:=hr.at ho;have hz0:DC F s z i.zero:=CS (Ei (F:=F) (ρ:=ρ) (N:=st.nx) i.zero) hz;have hrep:=Ed.replicate hz0 len;have hsp:=Ed.gA h3 hrep (a:=off) (by simpa using k1);rw[ya]at hsp;have hlen:(l.take off++(zn len z++l.drop (off+len))).length=l.length:=by simp;omega
  have skip:FF C.T h ts [x]=some (.tup [],h)->len=0->OK B h0 F ρ st h (Ft [.sl id s.sz off len cap]) (Fb (FF C.T h ts [x])) (.tup []) (st.setObj id (.arr false e' s (l.take off++(zn len z++l.drop (off+len))))):=by
   intro hd h0;subst h0;have el:l.take off++(zn 0 z++l.drop (off+0))=l:=by simp
   refine⟨.tup [],h,F,ρ,.inl (by rw[hd];rfl),by simp[PR],hr.same ho h1 h2 rfl rfl (o':=.arr false e' s _) ⟨bs,fz,rfl,?_,h4,?_⟩,yf,rfl,rfl,ze _,fun _ _=>.inl rfl⟩
   ·rw[el];exact h3
   ·rw[el];exact h5
  simp only[PR]at hx;rcases hx.2 b n h1 with⟨_,g6,o,g5,rfl⟩|⟨e0,ek,g6,rfl|⟨off',rfl,_⟩⟩
  ·by_cases h0:len=0
   ·exact skip (by simp[FF,hts,hu,h0]) h0
   ·have hw:wr h b (off*s.sz) (E2 i.zero (len*i.zero.length))=some (h.put b (.cells (Cv (off*s.sz) ((zn len i.zero).flatten) bs) e' fz)):=by
     rw[HT];refine M7 h2 ?_ h4 ?_
     ·rw[hrep.1,ya, <-zp,h3.1];exact zh _ k1
     ·exact hrep.Tg
    have b0:zf len 0=false:=by rw[Br];simp[h0]
    refine⟨.tup [],h.put b (.cells (Cv (off*s.sz) ((zn len i.zero).flatten) bs) e' fz),F,ρ,.inl ?_,by simp[PR],hr.set ho h1 h2 rfl rfl (o':=.arr false e' s _) ⟨_,fz,rfl,hsp,h4,hlen.trans h5⟩,yf,rfl,rfl,ze _,fun c _=>?_⟩
    ·simp only[FF,hts,hu,b0,wg,hi,c2,we,hw,zq,Fb]
    ·rw[H.Bq];by_cases e:c=b
     ·exact .inr ⟨id,by simp[Ft],n,e▸h1⟩
     ·rw[wc e];exact .inl rfl
  ·exact skip (by simp[FF,hts,hu]) e0
  ·exact skip (by simp[FF,hts,hu]) e0
theorem sG(hr:SR B h0 F ρ st.nx st.ob h){t:TypeId}{p:PV}{x:V}(hx:PR F ρ st.nx p x){v:PV}(ht:(Wd C.T t p st).To v st'):OK B h0 F ρ st h [] (Fb (Hs C.T h t x)) v st':=by
 unfold Wd at ht;split at ht
 case h_2=>simp at ht
 rename_i s hu;simp only[AQ]at ht;obtain⟨rfl,rfl⟩:=ht;obtain rfl:=Fa hx;have hd:Hs C.T h t (.str s)=some (.ptr h.nx 0,h.push (.siter s 0)):=by simp[Hs,Te,hu]
 rw[hd];exact OK.new hr (o:=.siter s 0) (n:=0) rfl rfl LC
theorem wV(hr:SR B h0 F ρ st.nx st.ob h){p:PV}{x:V}(hx:PR F ρ st.nx p x){i:Bool}{v:PV}(ht:(iH p i st).To v st'):i=true/\∃id off,p=.ptr id off/\OK B h0 F ρ st h [id] (Fb (MK h x i)) v st':=by
 unfold iH at ht;split at ht
 case h_2=>simp at ht
 rename_i id;split at ht
 case h_2=>simp at ht
 rename_i s pos ho;obtain⟨b,n,y,h1,h2,h3,h6,_⟩:=hr.at ho;simp only[XA]at h3;subst h3;simp only[PR]at hx;obtain rfl:=hx.2 b n h1;refine⟨rfl,id,0,rfl,?_⟩;by_cases hp:pos<s.length
 ·rw[w4 hp]at ht;cases ht with
  |tt ht=>
   simp only[AQ]at ht;obtain⟨rfl,rfl⟩:=ht;have hd:MK h (.ptr b 0) true=some (.tup [.bool true,i64 pos,.int .i32 (rune s pos)],h.put b (.siter s (pos+uH s pos))):=by
    simp only[MK,h2,GX,w4 hp,we];rfl
   refine⟨_,_,F,ρ,.inl (by rw[hd];rfl),?_,hr.set ho h1 h2 rfl rfl (o':=.siter s _) rfl,yf,rfl,rfl,ze _,fun c _=>?_⟩
   ·simp[PR,DC,i64]
   ·rw[H.Bq];by_cases e:c=b
    ·exact .inr ⟨id,zk.2 rfl,n,e▸h1⟩
    ·rw[wc e];exact .inl rfl
 ·rw[w8 hp]at ht;cases ht with
  |ff ht=>
   simp only[AQ]at ht;obtain⟨rfl,rfl⟩:=ht;refine⟨.tup [.bool false],h,F,ρ,.inl ?_,by simp[PR],hr,yf,rfl,rfl,ze _,fun _ _=>.inl rfl⟩;simp only[MK,h2,GX,w8 hp,wg,Fb]
end
section
variable {B:Nat}{h0:H0}{F:Fz}{ρ:Ec}{N:Nat}{C:Ctx}{st st':AK}{h:H}
def wA:List PV->List Nat
 | .eptr id _ _ _::_=>[id]
 |_=>[]
theorem pM(hr:SR B h0 F ρ st.nx st.ob h){ps:List PV}{xs:List V}(hx:Bd F ρ st.nx ps xs){v:PV}(ht:(WD ps st).To v st'):OK B h0 F ρ st h [] (Bz h (PF xs)) v st':=by
 unfold WD at ht;split at ht
 case h_2=>simp at ht
 rename_i id sz off len;cases hs:H8 (st.obj id)with
 |false=>rw[hs]at ht;simp at ht
 |true=>
  rw[hs]at ht;simp only[we,BM,w5]at ht;obtain⟨hl,rfl,rfl⟩:=ht;obtain⟨o,ho⟩:=VV hs;obtain⟨b,n,z,g1,_⟩:=hr.at ho;simp only[Bd]at hx;obtain⟨x,_,rfl,hx,rfl⟩:=hx;simp only[PR]at hx;obtain⟨_,_,o',_,rfl⟩:len<=len/\off+len<=n/\∃o,(o=0\/o=sz)/\x=.sl b (off*sz) len len o:=by
   rcases hx.2 b n g1 with g|⟨_,e,_⟩
   ·exact g
   ·cases e
  refine zg hr (v':=.ptr b (off*sz)) ?_ ?_
  ·have:zr 0 len=true:=by rw[Nat.blt_eq];exact hl
   simp only[PF,this,we];rfl
  ·simp only[PR];refine⟨hx.1,fun b' n' hb=>?_⟩;rw[g1]at hb;cases hb;rfl
theorem iP{k:IntKind}:∀ {l:List Int} {cs:List V},Ed F (.int k) l cs->cs=l.map (y8 k):=by
 intro l cs hd;have hl:cs.length=l.length:=by rw[hd.1];simp[Sh.sz]
 apply List.ext_getElem
 ·rw[yx];exact hl
 ·intro i h1 h2;have hi:i<l.length:=by omega
  have:=hd.2 i hi;have e:(cs.drop (i*Sh.sz (.int k))).take (Sh.sz (.int k))=[cs[i]]:=by
   rw[show Sh.sz (.int k)=1 from rfl,yn,zw h1];rfl
  rw[e]at this;simpa [DC]using this
theorem O5:∀ {l:List Int},QT l=true->GB (l.map (y8 .u8))=some (VI l)
 |[],_=>rfl
 |x::l,h=>by
  unfold QT at h;rw[List.all_cons,zc,zc,w5,w5]at h;have ih:=O5 (l:=l) h.2;obtain⟨n,rfl⟩:=yt h.1.1;have hb:zr n 256=true:=by rw[Nat.blt_eq];omega
  have hx:SG (.int .u8 (n:Int))=some (UInt8.ofNat n):=by
   show(bif zr n 256 then some (UInt8.ofNat n)else none)=_;rw[hb];rfl
  rw[List.map_cons];unfold GB;rw[hx,ih];rfl
theorem Wo{l:List Int}(h:QT l=true)(n:Nat):QT (l.take n)=true:=by
 unfold QT at*;rw[z6]at*;exact fun x hx=>h x (List.mem_of_mem_take hx)
theorem uO(hr:SR B h0 F ρ st.nx st.ob h){ts:Array TypeId}{ps:List PV}{xs:List V}(hx:Bd F ρ st.nx ps xs){v:PV}(ht:(gM C.T ts.toList ps st).To v st'):OK B h0 F ρ st h (wA ps) (Fb (Ru C.T h ts.toList xs)) v st':=by
 unfold gM at ht;split at ht
 case h_2=>simp at ht
 rename_i pt it id sz i n hts;split at ht
 case h_2=>simp at ht
 rename_i e e' s l hu ho;split at ht
 case h_2=>simp at ht
 rename_i ti bs hi hbs;cases hc:(zf ti.size 1&&zf e e')with
 |false=>rw[hc]at ht;simp at ht
 |true=>
  rw[hc]at ht;simp only[we,BM,zc,w5]at ht;obtain⟨⟨⟨⟨⟨k1,k2⟩,k3⟩,k4⟩,k5⟩,rfl,rfl⟩:=ht;subst k1;obtain⟨es,he⟩:=CB hbs;have e2:s=.int .u8:=by cases es;rfl
  subst e2;have:bs=l:=by have:=he;cases this;rfl
  subst this;obtain⟨m,rfl⟩:=yt (Int.le_of_lt k2);simp only[Int.toNat_natCast]at k3 k4;obtain⟨b,n',z,h1,h2,⟨cs,fz,rfl,h3,h4,h5⟩,h6,_⟩:=hr.at ho;have hFb:=h6 rfl;simp only[Bd]at hx;obtain⟨x,_,rfl,hx,y,_,rfl,hy,rfl⟩:=hx;obtain rfl:=CH hy;simp only[PR]at hx;obtain rfl:=hx.2 b n' h1;have hB:=(hr.own id b n' h1).2;have hPb:b∉h0.pin:=fun hp=>(hr.pn b hp).2.2 id n' h1
  have hfree:∀j oj m,AP (Gn st.ob id) j=some oj->BO ρ id none j≠some (b,m):=by
   intro j oj m hj hjr;rw[D3]at hj;split at hj
   ·cases hj
   ·rename_i hne;simp only[BO,hne,ve]at hjr;exact hne (hr.inj j id oj _ b m n' hj ho hjr h1)
  have hdel:=hr.del id;have hcs:=iP h3;have htk:cs.take m=(bs.take m).map (y8 .u8):=by rw[hcs,List.map_take]
  have hb:=O5 (Wo k5 m);have hd:Ru C.T h ts.toList [.ptr b (0*sz+0),.int .i64 (m:Int)]=some (.str (VI (bs.take m)),h.kill b):=by
   rw[zu];unfold Ru;rw[hts];show(match C.T.und pt,h.get b with
    |some (.pointer e),some (.cells cs e' fz)=>(match C.T.inf e,GB (cs.take m)with
     |some i,some l=>bif zf i.size 1&&zf e e'&&zr 0 m&&zl m cs.length&&zl m 9223372036854775807&&zl fz.2 fz.1 then some (V.str l,h.kill b)else none
     |_,_=>none)
    |_,_=>none)=_
   rw[hu,h2];show(match C.T.inf e,GB (cs.take m)with
    |some i,some l=>bif zf i.size 1&&zf e e'&&zr 0 m&&zl m cs.length&&zl m 9223372036854775807&&zl fz.2 fz.1 then some (V.str l,h.kill b)else none
    |_,_=>none)=_
   rw[hi,htk,hb];have k2:(0:Int)<(m:Int):=k2;have c1:zr 0 m=true:=by rw[Nat.blt_eq];omega
   have c2:zl m cs.length=true:=zi (by rw[hcs,yx];exact k3);have c3:zl m 9223372036854775807=true:=zi k4;have c4:zl fz.2 fz.1=true:=zi h4;simp only[hc,c1,c2,c3,c4,yr,we]
  rw[hd];refine⟨_,_,F,BO ρ id none,.inl rfl,Kf _,hdel.kill hfree hFb hB hPb,Le.NJ id,rfl,rfl,ze _,fun c _=>?_⟩;rw[H.Cb];by_cases ec:c=b
  ·exact .inr ⟨id,zk.2 rfl,n',ec▸h1⟩
  ·rw[wc ec];exact .inl rfl
end
section
variable {B:Nat}{h0:H0}{C:Ctx}{F F1 F':Fz}{ρ:Ec}{N:Nat}{st st':AK}{fr:Fr}{h h':H}
def PC(F:Fz)(p:PV)(v:V):Prop:=∀ρ N,PR F ρ N p v
def MF(F:Fz)(ps:List PV)(vs:List V):Prop:=∀ρ N,Bd F ρ N ps vs
theorem Le.ZV(hF:∀b cs,F b=some cs->F1 b=some cs):Le F ρ N F1 ρ N:=⟨hF,fun _ _=>.inl rfl,ze _⟩
theorem PC.mono(hF:∀b cs,F b=some cs->F1 b=some cs){p:PV}{v:V}(hp:PC F p v):PC F1 p v:=fun ρ N=>(hp ρ N).mono (Le.ZV hF)
theorem MF.cons{p:PV}{ps:List PV}{v:V}{vs:List V}(h1:PC F p v)(h2:MF F ps vs):MF F (p::ps) (v::vs):=fun ρ N=>(A3 ..).2 ⟨h1 ρ N,h2 ρ N⟩
theorem MF.dc{s:Sh}{ps:List PV}{vs:List V}{x:s.T}(hp:MF F ps vs)(hd:DQ s ps=some x):DC F s x vs:=CS (hp (fun _=>none) 0) hd
theorem PC.Cd:∀ {s:Sh} {x:s.T} {cs:List V},DC F s x cs->(s.Qn=true->PC F (Cd s x) (.agg cs))/\(s.Qn=false->∀v,cs=[v]->PC F (Cd s x) v)
 | .pair a b,x,cs,h=>⟨fun _ ρ N=>by unfold y9 PR;exact⟨cs,rfl,C4 h⟩,fun e=>by cases e⟩
 | .unit,x,cs,h=>⟨fun _ ρ N=>by simp only[DC]at h;subst h;unfold y9 PR;exact⟨[],rfl,by simp⟩,fun e=>by cases e⟩
 | .int _,x,cs,h=>⟨fun e=>(by cases e),fun _ v hv ρ N=>by subst hv;unfold y9 PR;exact h⟩
 | .bool,x,cs,h=>⟨fun e=>(by cases e),fun _ v hv ρ N=>by subst hv;unfold y9 PR;exact h⟩
 | .str,x,cs,h=>⟨fun e=>(by cases e),fun _ v hv ρ N=>by subst hv;unfold y9 PR;exact h⟩
 | .list _,x,cs,h=>⟨fun e=>(by cases e),fun _ v hv ρ N=>by subst hv;unfold y9 PR;exact h⟩
 | .nlist _,x,cs,h=>⟨fun e=>(by cases e),fun _ v hv ρ N=>by subst hv;unfold y9 PR;exact h⟩
 | .fnv,x,cs,h=>⟨fun e=>(by cases e),fun _ v hv ρ N=>by
   subst hv;simp only[DC,yi,wn]at h;subst h;unfold y9;cases (x:Option Fn)<;>simp[PR]⟩
 | .ptr s,x,cs,h=>⟨fun e=>(by cases e),fun _ v hv ρ N=>by
   subst hv;simp only[DC]at h;obtain⟨b,o,bs,h1,h2,h3,h4⟩:=h;unfold y9 PR;exact⟨b,o,bs,List.singleton_inj.1 h1,h2,h3,h4⟩⟩
theorem SR.AaK{ob ob':Ob}(hr:SR B h0 F ρ N ob h)(he:∀j,AP ob' j=AP ob j):SR B h0 F ρ N ob' h:=
 ⟨fun id o ho=>hr.obj id o (he id▸ho),fun id id' o o' b n n' h1 h2=>hr.inj id id' o o' b n n' (he id▸h1) (he id'▸h2),hr.frz,hr.own,fun id hid=>hr.dead id (he id▸hid),hr.old,hr.lt,hr.le,hr.fo,hr.gl,hr.pn⟩
theorem vP{s:Sh}{l:List s.T}{cs:List V}{b:Nat}(hF:F b=some cs)(hd:Ed F s l cs){off len:Nat}(hle:off+len<=l.length){cap o:Nat}(hcap:len<=cap)(ho:o=0\/o=s.sz):
  DC F (.list s) ((l.drop off).take len) [.sl b (off*s.sz) len cap o]:=by
 have hlen:((l.drop off).take len).length=len:=by simp;omega
 simp only[DC];refine⟨_,rfl,.inr ⟨b,off*s.sz,cap,o,cs,by rw[hlen],by rw[hlen];exact hcap,hF,?_,ho,fun i hi=>?_⟩⟩
 ·rw[hlen,hd.1, <-zp];exact zh _ hle
 ·rw[hlen]at hi;have h1:=hd.2 (off+i) (by omega);have e1:((l.drop off).take len)[i]=l[off+i]'(by omega):=by simp
  rw[e1, <-zp];exact h1
theorem Kl(st:AK)(p:PV):(BC st p).nx=st.nx/\(BC st p).fr=st.fr/\(BC st p).n=st.n:=by
 unfold BC;split
 ·split<;>exact⟨rfl,rfl,rfl⟩
 ·exact⟨rfl,rfl,rfl⟩
theorem Dt:∀(ps:List PV) (st:AK),(Bt ps st).nx=st.nx/\(Bt ps st).fr=st.fr/\(Bt ps st).n=st.n
 |[],_=>⟨rfl,rfl,rfl⟩
 |p::ps,st=>by
  obtain⟨h1,h2,h3⟩:=Dt ps (BC st p);obtain⟨g1,g2,g3⟩:=Kl st p;exact⟨h1.trans g1,h2.trans g2,h3.trans g3⟩
theorem IT:∀(ps qs:List PV) (st:AK),Bt (ps++qs) st=Bt qs (Bt ps st)
 |[],_,_=>rfl
 |p::ps,qs,st=>IT ps qs (BC st p)
def Ea:Option Obj->Option Obj->Prop
 |some (.arr _ e s l),o=>∃fz,o=some (.arr fz e s l)
 |a,b=>b=a
theorem Ea.refl(o:Option Obj):Ea o o:=by
 cases o with
 |none=>rfl
 |some o=>cases o<;>first|rfl|exact⟨_,rfl⟩
theorem MW(st:AK)(p:PV)(j:Nat):Ea (st.obj j) ((BC st p).obj j):=by
 unfold BC;split
 case h_2=>exact Ea.refl _
 split
 case h_2=>exact Ea.refl _
 rename_i id _ _ _ _ _ fz e s l ho;show Ea (AP st.ob j) (AP (DE st.ob id (.arr true e s l)) j);rw[G7 _ _ _ _ (by show(st.obj id).isSome=true;rw[ho];rfl)];split
 ·rename_i e1;subst e1;show Ea (st.obj j) _;rw[ho];exact⟨_,rfl⟩
 ·exact Ea.refl _
theorem eF{st st':AK}(h:∀id,Ea (st.obj id) (st'.obj id))(p:PV):C2 st' p=C2 st p:=by
 unfold C2;cases p<;>try rfl
 rename_i id sz off len cap;have:=h id;cases ho:st.obj id with
 |none=>rw[ho]at this;simp only[ho,show st'.obj id=none from this]
 |some o=>
  rw[ho]at this;cases o with
  |arr fz e s l=>
   obtain⟨fz',h1⟩:=this;simp only[ho,h1]
  |box _=>simp only[ho,show st'.obj id=_ from this]
  |tbox _ _=>simp only[ho,show st'.obj id=_ from this]
  |map _ _ _=>simp only[ho,show st'.obj id=_ from this]
  |siter _ _=>simp only[ho,show st'.obj id=_ from this]
  |lp _ _ _ _ _ _ _ _=>simp only[ho,show st'.obj id=_ from this]
theorem Ma{st st':AK}(h:∀id,Ea (st.obj id) (st'.obj id)):∀ps:List PV,F7 st' ps=F7 st ps
 |[]=>rfl
 |p::ps=>by unfold F7;rw[eF h p,Ma h ps]
theorem Ea.trans{a b c:Option Obj}(h1:Ea a b)(h2:Ea b c):Ea a c:=by
 cases a with
 |none=>have:b=none:=h1;subst this;exact h2
 |some o=>
  cases o with
  |arr fz e s l=>obtain⟨fz',rfl⟩:=h1;exact h2
  |box _=>have:b=_:=h1;subst this;exact h2
  |tbox _ _=>have:b=_:=h1;subst this;exact h2
  |map _ _ _=>have:b=_:=h1;subst this;exact h2
  |siter _ _=>have:b=_:=h1;subst this;exact h2
  |lp _ _ _ _ _ _ _ _=>have:b=_:=h1;subst this;exact h2
theorem MU:∀(ps:List PV) (st:AK) (id:Nat),Ea (st.obj id) ((Bt ps st).obj id)
 |[],_,_=>Ea.refl _
 |p::ps,st,id=>(MW st p id).trans (MU ps (BC st p) id)
theorem Ux{st st':AK}(h:∀id,Ea (st.obj id) (st'.obj id))(s:Sh)(p:PV):KP st' s p=KP st s p:=by
 unfold KP;rw[Ma h]
theorem Mr{st st':AK}(h:∀id,Ea (st.obj id) (st'.obj id)):∀(l:List Sh) (ps:List PV),EG st' l ps=EG st l ps
 |[],[]=>rfl
 |[],_::_=>rfl
 |[a],[p]=>Ux h a p
 |[a],[]=>rfl
 |[a],_::_::_=>rfl
 |a::b::l,[]=>rfl
 |a::b::l,p::ps=>by unfold EG;rw[Ux h a p,Mr h (b::l) ps]
theorem MQ(hr:SR B h0 F ρ st.nx st.ob h){p:PV}{v:V}(hp:PR F ρ st.nx p v):
  ∃F1,SR B h0 F1 ρ (BC st p).nx (BC st p).ob h/\(∀b cs,F b=some cs->F1 b=some cs)/\∀x,C2 st p=some (true,x)->PC F1 x v:=by
 have same:∀ {q:PV},(∀x,C2 st q=some (true,x)->PC F x v)->BC st q=st->∃F1,SR B h0 F1 ρ (BC st q).nx (BC st q).ob h/\(∀b cs,F b=some cs->F1 b=some cs)/\∀x,C2 st q=some (true,x)->PC F1 x v:=
  fun h1 h2=>⟨F,by rw[h2];exact hr,fun _ _ h=>h,h1⟩
 cases p with
 |sl id sz off len cap=>
  cases ho:st.obj id with
  |none=>exact same (fun x hx=>by simp[C2,ho]at hx) (by simp[BC,ho])
  |some o=>
   cases o with
   |box _=>exact same (fun x hx=>by simp[C2,ho]at hx) (by simp[BC,ho])
   |tbox _ _=>exact same (fun x hx=>by simp[C2,ho]at hx) (by simp[BC,ho])
   |map _ _ _=>exact same (fun x hx=>by simp[C2,ho]at hx) (by simp[BC,ho])
   |siter _ _=>exact same (fun x hx=>by simp[C2,ho]at hx) (by simp[BC,ho])
   |lp _ _ _ _ _ _ _ _=>exact same (fun x hx=>by simp[C2,ho]at hx) (by simp[BC,ho])
   |arr fz e s l=>
    obtain⟨b,n,x,h1,h2,⟨cs,fz',rfl,h4,h5,h6⟩,h7,h8⟩:=hr.at ho;have hst:BC st (.sl id sz off len cap)=st.setObj id (.arr true e s l):=by simp[BC,ho]
    have hset:∀j,AP (DE st.ob id (.arr true e s l)) j=if j=id then some (.arr true e s l)else AP st.ob j:=fun j=>G7 _ _ _ _ (by show(st.obj id).isSome=true;rw[ho];rfl)
    have fin:∀ {G:Fz},G b=some cs->(∀b cs,F b=some cs->G b=some cs)->∀x,C2 st (.sl id sz off len cap)=some (true,x)->PC G x v:=by
     intro G hG hFG x hx ρ' N';simp only[C2,ho]at hx;cases hsz:zf sz s.sz with
     |false=>rw[hsz]at hx;simp at hx
     |true=>
      rw[hsz]at hx;simp only[we,zj,z8,w5]at hx;obtain⟨hle,rfl⟩:=hx;have hsz:=zd hsz;subst hsz;unfold PR;simp only[PR]at hp;rcases hp.2 b n h1 with⟨k1,k2,o,k3,rfl⟩|⟨rfl,rfl,k3,rfl|⟨off',rfl,k4⟩⟩
      ·exact vP hG (h4.mono hFG) hle k1 k3
      ·simp[DC]
      ·simp only[List.take_zero,DC];refine⟨_,rfl,.inr ⟨b,off',0,0,cs,rfl,ze _,hG,?_,.inl rfl,fun i hi=>by simp at hi⟩⟩;simp only[yd,zu,Nat.add_zero];rw[h4.1];exact yu k4 (zh _ (by rw[h6];exact k3))
    cases hfz:fz with
    |true=>
     subst hfz;obtain⟨cs',t',fz2,k1,k2⟩:=h8 rfl;cases k1;refine⟨F,?_,fun _ _ h=>h,fin k2 (fun _ _ h=>h)⟩;rw[hst];refine SR.AaK hr fun j=>?_
     show AP (DE st.ob id _) j=_;rw[hset];split
     ·rename_i ej;subst ej;exact ho.symm
     ·rfl
    |false=>
     subst hfz;have hFb:F b=none:=h7 rfl;have hmono:∀c cs',F c=some cs'->(fun c=>if c=b then some cs else F c) c=some cs':=by
      intro c cs' hc;have:c≠b:=fun e=>by rw[e,hFb]at hc;cases hc
      simp[this,hc]
     refine⟨fun c=>if c=b then some cs else F c,?_,hmono,fin (by simp) hmono⟩;rw[hst];have hle:Le F ρ st.nx (fun c=>if c=b then some cs else F c) ρ st.nx:=Le.ZV hmono;have get':∀k ok,AP (DE st.ob id (.arr true e s l)) k=some ok->∃o2,AP st.ob k=some o2:=by
      intro k ok hk;rw[hset]at hk;by_cases ek:k=id
      ·exact⟨_,ek▸ho⟩
      ·rw[wc ek]at hk;exact⟨ok,hk⟩
     refine⟨fun j oj hj=>?_,fun i j oi oj c m m' hi hj g1 g2=>?_,fun c cs' hc=>?_,hr.own,fun j hj=>?_,hr.old,hr.lt,hr.le,fun c cs' hc=>?_,hr.gl,hr.pn⟩
     ·have hj:AP (DE st.ob id (.arr true e s l)) j=some oj:=hj;rw[hset]at hj;by_cases ej:j=id
      ·subst ej;simp only[wk,zj]at hj;subst hj;refine⟨b,n,_,h1,h2,⟨cs,fz',rfl,h4.mono hmono,h5,h6⟩,fun e=>(by cases e),fun _=>⟨cs,_,_,rfl,by simp⟩⟩
      ·rw[wc ej]at hj;obtain⟨c,m,y,g1,g2,g3,g4,g5⟩:=hr.obj j oj hj;have hne:c≠b:=fun ec=>ej (hr.inj j id oj _ c m n hj ho g1 (ec▸h1))
       exact⟨c,m,y,g1,g2,g3.mono hle,fun e=>by simp[hne,g4 e],fun e=>by obtain⟨a1,a2,a3,a4,a5⟩:=g5 e;exact⟨a1,a2,a3,a4,by simp[hne,a5]⟩⟩
     ·obtain⟨_,k1⟩:=get' i oi hi;obtain⟨_,k2⟩:=get' j oj hj;exact hr.inj i j _ _ c m m' k1 k2 g1 g2
     ·split at hc
      ·rename_i ec;cases hc;subst ec;exact⟨_,_,h2⟩
      ·exact hr.frz c cs' hc
     ·have hj:AP (DE st.ob id (.arr true e s l)) j=none:=hj;rw[hset]at hj;split at hj
      ·cases hj
      ·exact hr.dead j hj
     ·split at hc
      ·rename_i ec;subst ec;exact .inr (hr.own id c n h1).2
      ·exact hr.fo c cs' hc
 |dat s x=>exact same (fun y hy ρ' N'=>by simp only[C2,zj,z8,true_and]at hy;subst hy;unfold PR at hp ⊢;exact hp) rfl
 |bl b=>exact same (fun y hy ρ' N'=>by simp only[C2,zj,z8,true_and]at hy;subst hy;unfold PR at hp ⊢;exact hp) rfl
 |nil=>exact same (fun y hy ρ' N'=>by simp only[C2,zj,z8,true_and]at hy;subst hy;unfold PR at hp ⊢;exact hp) rfl
 |CW s x off=>exact same (fun y hy ρ' N'=>by simp only[C2,zj,z8,true_and]at hy;subst hy;unfold PR at hp ⊢;exact hp) rfl
 |any|ub|yl _|nilp|nilm|nilf|nili|agg _|tup _|ptr _ _|eptr _ _ _ _|mp _|fn _ _ _=>exact same (fun x hx=>by simp[C2]at hx) rfl
theorem Ib:∀ {ps:List PV} {vs:List V} {st:AK} {F:Fz},SR B h0 F ρ st.nx st.ob h->Bd F ρ st.nx ps vs->
  ∃F1,SR B h0 F1 ρ (Bt ps st).nx (Bt ps st).ob h/\(∀b cs,F b=some cs->F1 b=some cs)/\∀xs,F7 st ps=some (true,xs)->MF F1 xs vs
 |[],vs,st,F,hr,hp=>⟨F,hr,fun _ _ h=>h,fun xs hx=>by
  cases hx;have hv:vs=[]:=by simpa using hp
  subst hv;intro ρ' N';simp⟩
 |p::ps,vs,st,F,hr,hp=>by
  simp only[Bd]at hp;obtain⟨v,vs,rfl,h1,h2⟩:=hp;obtain⟨F1,g1,g2,g3⟩:=MQ hr h1;have h2':Bd F1 ρ (BC st p).nx ps vs:=by rw[(Kl st p).1];exact h2.mono (Le.ZV g2)
  obtain⟨F2,k1,k2,k3⟩:=Ib g1 h2';refine⟨F2,k1,fun b cs hb=>k2 b cs (g2 b cs hb),fun xs hx=>?_⟩;unfold F7 at hx;split at hx
  case h_2=>cases hx
  rename_i c x d xs' e1 e2;simp only[zj,z8,zc]at hx;obtain⟨⟨rfl,rfl⟩,rfl⟩:=hx;exact MF.cons ((g3 x e1).mono k2) (k3 xs' (by rw[Ma (MW st p)];exact e2))
theorem jK(hr:SR B h0 F ρ st.nx st.ob h){t:TypeId}{n:Nat}{l:List (Nat×PV)}{l':List (Nat×V)}(hl:xQ F ρ st.nx l l'){v:PV}(ht:(Ss C.T t n l st).To v st'):OK B h0 F ρ st h [] (Fb (EU C.T h t n l')) v st':=by
 unfold Ss at ht;split at ht
 case h_2=>simp at ht
 rename_i e hu;split at ht
 case h_2=>simp at ht
 rename_i i s hi hs;cases hc:(zl (Nat.mul n i.size) 16777216&&zr 0 i.zero.length&&zf i.zero.length i.size&&zf i.size s.sz)with
 |false=>rw[hc]at ht;simp at ht
 |true=>
  rw[hc]at ht;simp only[zc]at hc;obtain⟨⟨⟨c1,c2⟩,c3⟩,c4⟩:=hc;simp only[we]at ht;split at ht
  case h_2=>simp at ht
  rename_i cs hcs;split at ht
  case h_2=>
   split at ht
   case h_2=>simp at ht
   rename_i c cs' hb;split at ht
   case h_2=>simp at ht
   rename_i el hel;simp only[BM]at ht;obtain⟨rfl,rfl,rfl⟩:=ht;have e3:=zd c3;have e4:=zd c4;have hz:Bd F ρ st.nx (Kh (i.zero.map WS) n) (E2 i.zero (n*i.size)):=by
    rw[<-e3,HT];exact J8 _ _
   obtain⟨ys,g1,g2⟩:=Jr hr hl hz hcs;have hlen:ys.length=n*s.sz:=by
    rw[<-e4];rw[Mo g1];simp[E2]
   obtain⟨F1,j1,j2,j3⟩:=Ib hr g2;obtain⟨k1,k2⟩:=Jk (j3 cs' hb ρ st.nx) hel hlen;have hd:EU C.T h t n l'=some (.sl h.nx 0 n n 0,h.push (.cells ys e (0,0))):=by
    have c1':zl (n*i.size) 16777216=true:=c1;simp only[EU,hu,hi,c1',c2,c3,yr,we,g1,Ii]
   rw[hd];obtain⟨f1,f2,f3⟩:=Dt cs st;have res:=OK.new (F:=F1) (ρ:=ρ) (st:=Bt cs st) j1 (o:=.arr false e s el) (x:=.cells ys e (0,0)) (n:=n) (v:=.sl (Bt cs st).nx s.sz 0 n none) (v':=.sl h.nx 0 n n 0) rfl ⟨_,_,rfl,k2.mono (fun _ _ h=>h),ze _,k1⟩ (NZ (.inl rfl));obtain⟨v',h',F',ρ',q1,q2,q3,q4,q5,q6,q7,q8⟩:=res;rw[f1]at q2;exact⟨v',h',F',ρ',q1,q2,q3,(by rw[f1]at q4;exact(Le.ZV j2).trans q4),q5.trans f2,q6.trans f3,q7,q8⟩
  rename_i el hel;simp only[AQ]at ht;obtain⟨rfl,rfl⟩:=ht;have e3:=zd c3;have e4:=zd c4;have hz:Bd F ρ st.nx (Kh (i.zero.map WS) n) (E2 i.zero (n*i.size)):=by
   rw[<-e3,HT];exact J8 _ _
  obtain⟨ys,g1,g2⟩:=Jr hr hl hz hcs;have hlen:ys.length=n*s.sz:=by
   rw[<-e4];rw[Mo g1];simp[E2]
  obtain⟨k1,k2⟩:=Jk g2 hel hlen;have hd:EU C.T h t n l'=some (.sl h.nx 0 n n 0,h.push (.cells ys e (0,0))):=by
   have c1':zl (n*i.size) 16777216=true:=c1;simp only[EU,hu,hi,c1',c2,c3,yr,we,g1,Ii]
  rw[hd];exact OK.new hr (o:=.arr false e s el) (n:=n) rfl ⟨_,_,rfl,k2.mono (fun _ _ h=>h),ze _,k1⟩ (NZ (.inl rfl))
end
section
variable {B:Nat}{h0:H0}{F:Fz}{ρ:Ec}{N:Nat}{C:Ctx}{st st':AK}{fr:Fr}{h h':H}
theorem D6{x:Operand}{k:PV->PO}{v:PV}:(v1 st x k).To v st'↔∃p,Qp st x=some p/\(k p).To v st':=by
 unfold v1;cases Qp st x with
 |none=>simp
 |some p=>simp
theorem gQ(hf:FP F ρ N st fr){x:Option Operand}{k:Option PV->PO}{v:PV}(ht:(o1 st x k).To v st'):∃p y,Vu C fr x=some y/\Tk F ρ N p y/\(k p).To v st':=by
 unfold o1 at ht;cases x with
 |none=>exact⟨none,none,rfl,rfl,ht⟩
 |some x=>
  obtain⟨p,h1,h2⟩:=D6.1 ht;obtain⟨y,g1,g2⟩:=Ce (C:=C) hf h1;exact⟨some p,some y,by simp[Vu,g1],⟨y,rfl,g2⟩,h2⟩
theorem ZM(hr:SR B h0 F ρ st.nx st.ob h){b:Builtin}{ts:Array TypeId}{ps:List PV}{xs:List V}(hx:Bd F ρ st.nx ps xs){v:PV}(ht:(IP C.T b ts ps st).To v st'):
  OK B h0 F ρ st h (match b with| .append| .clear=>Ft ps| .unsafeString=>wA ps|_=>[]) (Eg C h b ts xs) v st':=by
 unfold IP at ht;split at ht
 case h_8=>simp at ht
 case h_7=>exact uO hr hx ht
 case h_6=>exact pM hr hx ht
 case h_5=>exact lR hr hx ht
 case h_1=>exact AaJ hr hx ht
 case h_2=>exact gG hr hx ht
 case h_3=>exact Aay (g:=kL) hr (fun k x y=>by simp[kL,imax]) hx ht
 case h_4=>exact Aay (g:=dK) hr (fun k x y=>by simp[dK,EK]) hx ht
theorem rI(hr:Rel B h0 F ρ st fr h){o:Oper}{v:PV}(ht:(pop o.op C.T st).To v st'):
  ∃tch,OK B h0 F ρ st h tch (Gu C fr h o) v st'/\∀sp ids,Hi sp st o.op=some ids->∀i∈tch,i∈ids:=by
 have nil:∀ {d:Option OR} {op:Op},OK B h0 F ρ st h [] d v st'->∃tch,OK B h0 F ρ st h tch d v st'/\∀sp ids,Hi sp st op=some ids->∀i∈tch,i∈ids:=fun h=>⟨[],h,fun _ _ _ i hi=>by cases hi⟩
 have ev1:∀ {x p},Qp st x=some p->∃y,ev C fr x=some y/\PR F ρ st.nx p y:=fun hp=>Ce hr.fp hp
 unfold pop at ht;rw[CU];unfold GL;cases hop:o.op<;>rw[hop]at ht<;>simp only[Jz,Mf]at ht<;>simp only
 case move x|assign x=>
  simp only[W5,Lh]at ht;obtain⟨h1,rfl⟩:=ht;obtain⟨y,g1,g2⟩:=ev1 h1;refine nil ?_;rw[g1];exact zg hr.sr rfl g2
 case pick c a b=>
  simp only[kK,D6]at ht;obtain⟨p,h1,q,h2,r,h3,ht⟩:=ht;obtain⟨x,g1,g2⟩:=ev1 h1;obtain⟨y,g3,g4⟩:=ev1 h2;obtain⟨z,g5,g6⟩:=ev1 h3;obtain⟨t,rfl,hk⟩:=uL hr.sr g2 g4 g6 ht;refine nil ?_;rw[g1];simp only;cases t
  ·simpa [g5]using hk
  ·simpa [g3]using hk
 case alloc t=>exact nil (oE hr.sr ht)
 case box t x=>
  simp only[tO,D6]at ht;obtain⟨p,h1,ht⟩:=ht;obtain⟨y,g1,g2⟩:=ev1 h1;split at ht
  case h_2=>simp at ht
  rename_i cs hcs;cases hs:Det.Lx (JP st) cs with
  |false=>rw[hs]at ht;simp at ht
  |true=>
  rw[hs]at ht;simp only[we,AQ]at ht;obtain⟨rfl,rfl⟩:=ht;refine nil ?_;rw[g1];exact zV hr.sr g2 hcs (by rw[<-Fo];exact hs)
 case build t ps=>
  simp only[Yx]at ht;split at ht
  case h_2=>simp at ht
  rename_i l hl;obtain⟨l',g1,g2⟩:=Pd (C:=C) hr.fp hl;refine nil ?_;rw[g1];exact lV hr.sr g2 ht
 case buildSlice t n ps=>
  simp only[TH]at ht;split at ht
  case h_2=>simp at ht
  rename_i l hl;obtain⟨l',g1,g2⟩:=Pd (C:=C) hr.fp hl;refine nil ?_;rw[g1];exact jK hr.sr g2 ht
 case load t x=>
  simp only[gN,D6]at ht;obtain⟨p,h1,ht⟩:=ht;obtain⟨y,g1,g2⟩:=ev1 h1;refine nil ?_;rw[g1];exact jD hr.sr g2 ht
 case store t x y=>
  simp only[Xt,D6]at ht;obtain⟨p,h1,q,h2,ht⟩:=ht;obtain⟨a,g1,g2⟩:=ev1 h1;obtain⟨b,g3,g4⟩:=ev1 h2;obtain⟨id,hid,hk⟩:=mI hr.sr g2 g4 ht;refine⟨[id],by rw[g1,g3];exact hk,fun sp ids hids=>?_⟩;simp only[Hi,h1]at hids;rcases hid with⟨off,rfl⟩|⟨sz,j,off,rfl⟩<;>(simp only[zj]at hids;subst hids;intro i hi;exact hi)
 case nilCheck x=>
  simp only[ON,D6]at ht;obtain⟨p,h1,ht⟩:=ht;obtain⟨y,g1,g2⟩:=ev1 h1;rw[g1];split at ht
  case h_4=>simp at ht
  case h_1=>
   rename_i id off;cases hl:H8 (st.obj id)with
   |false=>rw[hl]at ht;simp at ht
   |true=>
    rw[hl]at ht;simp only[we,AQ]at ht;obtain⟨rfl,rfl⟩:=ht;obtain⟨b,n,k1⟩:=hr.sr.live hl;have g2':=g2;simp only[PR]at g2';obtain rfl:=g2'.2 b n k1;exact nil (zg hr.sr rfl g2)
  case h_2=>
   rename_i id sz j off;cases hl:H8 (st.obj id)with
   |false=>rw[hl]at ht;simp at ht
   |true=>
    rw[hl]at ht;simp only[we,AQ]at ht;obtain⟨rfl,rfl⟩:=ht;obtain⟨b,n,k1⟩:=hr.sr.live hl;have g2':=g2;simp only[PR]at g2';obtain rfl:=g2'.2 b n k1;exact nil (zg hr.sr rfl g2)
  case h_3=>
   simp only[AQ]at ht;obtain⟨rfl,rfl⟩:=ht;have g2':=g2;simp only[PR]at g2';obtain⟨b,o',cs,rfl,_⟩:=g2';exact nil (zg hr.sr rfl g2)
 case binOp op t x y t2=>
  simp only[tF,D6]at ht;obtain⟨p,h1,q,h2,ht⟩:=ht;obtain⟨a,g1,g2⟩:=ev1 h1;obtain⟨b,g3,g4⟩:=ev1 h2;refine nil ?_;rw[g1,g3];split at ht
  case h_2=>exact AaS hr.sr g2 g4 ht
  rename_i r hn;simp only[AQ]at ht;obtain⟨rfl,rfl⟩:=ht;unfold tJ at hn;split at hn
  case h_3=>cases hn
  all_goals
   rename_i m hu;cases hc:(Yg x||Yg y)with
   |false=>rw[hc]at hn;cases hn
   |true=>
    rw[hc]at hn;cases hn;simp only[PR]at g2 g4;subst g2 g4;exact zg hr.sr (by simp only[MJ,oU,hu,hc,we,Bz]) (Ic _)
 case unOp op t x=>
  simp only[AaE,D6]at ht;obtain⟨p,h1,ht⟩:=ht;obtain⟨y,g1,g2⟩:=ev1 h1;refine nil ?_;rw[g1];exact AbJ hr.sr g2 ht
 case convert s d x=>
  simp only[gY,D6]at ht;obtain⟨p,h1,ht⟩:=ht;obtain⟨y,g1,g2⟩:=ev1 h1;refine nil ?_;rw[g1];exact uP hr.sr g2 ht
 case makeFunc f a b=>
  simp only[eI]at ht;split at ht
  case h_2=>simp at ht
  rename_i x y hx hy;simp only[AQ]at ht;obtain⟨rfl,rfl⟩:=ht;obtain⟨u,g1,g2⟩:=E0 (C:=C) hr.fp hx;obtain⟨w,g3,g4⟩:=E0 (C:=C) hr.fp hy;refine nil ?_;rw[g1,g3];exact zg hr.sr rfl (by unfold PR;exact⟨_,_,rfl,g2,g4⟩)
 case makeMap t r=>
  simp only[XQ]at ht;split at ht
  case h_2=>simp at ht
  refine nil ?_;exact oC hr.sr ht
 case lookup t x i ok=>
  simp only[Tn,D6]at ht;obtain⟨p,h1,q,h2,ht⟩:=ht;obtain⟨a,g1,g2⟩:=ev1 h1;obtain⟨b,g3,g4⟩:=ev1 h2;refine nil ?_;rw[g1,g3];exact bQ hr.sr g2 g4 ht
 case mapUpdate t m k x|insert t m k x=>
  simp only[Qa,D6]at ht;obtain⟨p,h1,q,h2,r,h3,ht⟩:=ht;obtain⟨a,g1,g2⟩:=ev1 h1;obtain⟨b,g3,g4⟩:=ev1 h2;obtain⟨c,g5,g6⟩:=ev1 h3;obtain⟨id,rfl,hk⟩:=gV hr.sr g2 g4 g6 ht;refine⟨[id],by rw[g1,g3,g5];exact hk,fun sp ids hids=>?_⟩;simp only[Hi,h1,zj]at hids;subst hids;intro i hi;exact hi
 case makeSlice t l c=>
  simp only[fW,D6]at ht;obtain⟨p,h1,q,h2,ht⟩:=ht;obtain⟨a,g1,g2⟩:=ev1 h1;obtain⟨b,g3,g4⟩:=ev1 h2;refine nil ?_;rw[g1,g3];exact vJ hr.sr g2 g4 ht
 case slice t x lo hi mx=>
  simp only[XP,D6]at ht;obtain⟨p,h1,ht⟩:=ht;obtain⟨a,g1,g2⟩:=ev1 h1;obtain⟨l,l',k1,k2,ht⟩:=gQ (C:=C) hr.fp ht;obtain⟨m,m',k3,k4,ht⟩:=gQ (C:=C) hr.fp ht;obtain⟨n,n',k5,k6,ht⟩:=gQ (C:=C) hr.fp ht;refine nil ?_;rw[g1,k1,k3,k5];exact oK hr.sr g2 k2 k4 k6 ht
 case fieldAddr t x f=>
  simp only[Ys,D6]at ht;obtain⟨p,h1,ht⟩:=ht;obtain⟨y,g1,g2⟩:=ev1 h1;refine nil ?_;rw[g1];exact pQ hr.sr g2 ht
 case field t x f=>
  simp only[YQ,D6]at ht;obtain⟨p,h1,ht⟩:=ht;obtain⟨y,g1,g2⟩:=ev1 h1;refine nil ?_;rw[g1];exact qR hr.sr g2 ht
 case indexAddr t x i=>
  simp only[Yk,D6]at ht;obtain⟨p,h1,q,h2,ht⟩:=ht;obtain⟨a,g1,g2⟩:=ev1 h1;obtain⟨b,g3,g4⟩:=ev1 h2;refine nil ?_;rw[g1,g3];exact lS hr.sr g2 g4 ht
 case index t x i=>
  simp only[Yj,D6]at ht;obtain⟨p,h1,q,h2,ht⟩:=ht;obtain⟨a,g1,g2⟩:=ev1 h1;obtain⟨b,g3,g4⟩:=ev1 h2;refine nil ?_;rw[g1,g3];exact nH hr.sr g2 g4 ht
 case extract x i=>
  simp only[QK,D6]at ht;obtain⟨p,h1,ht⟩:=ht;obtain⟨y,g1,g2⟩:=ev1 h1;refine nil ?_;rw[g1];exact Y3 hr.sr g2 ht
 case range t x=>
  simp only[Xu,D6]at ht;obtain⟨p,h1,ht⟩:=ht;obtain⟨y,g1,g2⟩:=ev1 h1;refine nil ?_;rw[g1];exact sG hr.sr g2 ht
 case next x i=>
  simp only[iF,D6]at ht;obtain⟨p,h1,ht⟩:=ht;obtain⟨y,g1,g2⟩:=ev1 h1;obtain⟨rfl,id,off,rfl,hk⟩:=wV hr.sr g2 ht;refine⟨[id],by rw[g1];exact hk,fun sp ids hids=>?_⟩;simp only[Hi]at hids;cases hids
 case call c=>
  simp only[Tf]at ht;split at ht
  case h_1=>simp at ht
  rename_i args hargs;obtain⟨args',g1,g2⟩:=E0 (C:=C) hr.fp hargs;split at ht
  case h_2=>simp at ht
  case h_1=>
   rename_i b hb;split at ht
   case h_1=>
    obtain⟨id,qs,rfl,hk⟩:=fI hr.sr g2 ht;refine⟨[id],by rw[hb,g1];exact hk,fun sp ids hids=>?_⟩;simp only[Hi,hb,hargs,zj]at hids;subst hids;intro i hi;exact hi
   case h_2=>
   have:=ZM hr.sr g2 ht;refine⟨_,by rw[hb,g1];exact this,fun sp ids hids=>?_⟩;simp only[Hi,hb,hargs]at hids;cases b<;>simp only at hids ⊢<;>try (first|(intro i hi;cases hi;done)|(cases hids;done))
   case append=>
    cases args with
    |nil=>simp[Ft]
    |cons p ps=>cases p<;>simp only[zj]at hids<;>subst hids<;>(intro i hi;exact hi)
   case unsafeString=>
    cases args with
    |nil=>simp[wA]
    |cons p ps=>cases p<;>first|(cases hids;done)|(cases hids;intro i hi;exact hi)
end
section
variable {B:Nat}{h0:H0}{F:Fz}{ρ:Ec}{N:Nat}{X:A6}{st st':AK}{fr:Fr}{h h':H}{Q:PV->Ob->Prop}{n:Nat}
@[simp] theorem Db(st:AK)(t:Nat)(p:PV)(s:Nat):(st.set t p).get s=if s=t then p else st.get s:=by
 unfold AK.get AK.set;simp only[PM.Db];split<;>rfl
theorem Rel.set(hr:Rel B h0 F ρ st fr h){t:Nat}{p:PV}{x:V}(hp:PR F ρ st.nx p x):Rel B h0 F ρ (st.set t p) ⟨fr.n,fr.m.set t (some x)⟩ h:=by
 refine⟨⟨hr.fp.n,fun s=>?_⟩,hr.sr⟩;rw[Db];unfold Fr.get;simp only[PM.Db];split
 ·exact hp
 ·exact hr.fp.slot s
theorem Rel.note(hr:Rel B h0 F ρ st fr h){t:Nat}{p:PV}(hp:PR F ρ st.nx p (fr.get t)):Rel B h0 F ρ (st.set t p) fr h:=by
 refine⟨⟨hr.fp.n,fun s=>?_⟩,hr.sr⟩;rw[Db];split
 ·rename_i e;subst e;exact hp
 ·exact hr.fp.slot s
theorem Rel.put(hr:Rel B h0 F ρ st fr h){d:Option Nat}{p:PV}{x:V}(hp:PR F ρ st.nx p x)(hd:st.put d p=some st'):∃fr',fr.put d x=some fr'/\Rel B h0 F ρ st' fr' h/\st'.nx=st.nx/\st'.ob=st.ob:=by
 unfold AK.put at hd;unfold Fr.put;cases d with
 |none=>cases hd;exact⟨fr,rfl,hr,rfl,rfl⟩
 |some t=>
  simp only at hd ⊢;have hn:st.n=fr.n:=hr.fp.n;rw[hn]at hd;cases hb:zr t fr.n with
  |false=>rw[hb]at hd;cases hd
  |true=>
   rw[hb]at hd;simp only[we,zj]at hd;subst hd;exact⟨_,rfl,hr.set hp,rfl,rfl⟩
structure Dj(B:Nat)(h0:H0)(F:Fz)(ρ:Ec)(N:Nat)(h:H)(st':AK)(fr':Fr)(h':H)(F':Fz)(ρ':Ec):Prop where
 rel:Rel B h0 F' ρ' st' fr' h'
 le:Le F ρ N F' ρ' st'.nx
 nx:h.nx<=h'.nx
theorem Dj.refl(hr:Rel B h0 F ρ st fr h):Dj B h0 F ρ st.nx h st fr h F ρ:=⟨hr,yf,ze _⟩
theorem Dj.trans{F' F'':Fz}{ρ' ρ'':Ec}{st'':AK}{fr' fr'':Fr}{h'':H}(a:Dj B h0 F ρ N h st' fr' h' F' ρ')(b:Dj B h0 F' ρ' st'.nx h' st'' fr'' h'' F'' ρ''):Dj B h0 F ρ N h st'' fr'' h'' F'' ρ'':=
 ⟨b.rel,a.le.trans b.le,yu a.nx b.nx⟩
def AaA(X:A6)(ρ:Ec)(h:H)(args':List V):vK->Cl->Prop
 | .fn g,c=>c=.fn g args'/\X.C.prim g=none/\∃i,X.C.fn g=some i
 | .rnd id,c=>∃b n ls,ρ id=some (b,n)/\h.get b=some (.loop ls)/\args'.length=ls.ps.size/\c=.rnd b ls (Gg ls.ps.toList args' ls.fr)
inductive MV (X:A6) (ρ:Ec) (h:H) (args':List V):vK->List (V×H)->Prop where
 |Bl {g:vK} {c:Cl} {l:List (V×H)} {M:Nat}:AaA X ρ h args' g c->(∀m,M<=m->Det.Bl X.C m c h=some l)->MV X ρ h args' g l
 |prim {g:FuncId} {q:List V->H->Option (V×H)} {x:V×H}:X.C.prim g=some q->q args' h=some x->MV X ρ h args' (.fn g) [x]
def Ff(B:Nat)(h0:H0)(X:A6)(nd:Bool)(call:F5):Prop:=
 ∀ {Q:PV->Ob->Prop} {n:Nat} {g:vK} {args:List PV} {st:AK} {k:PV->AK->Tr},Ev X Q n (call g args st k)->∀ {F:Fz} {ρ:Ec} {fr:Fr} {h:H} {args':List V},Rel B h0 F ρ st fr h->Bd F ρ st.nx args args'->
  ∃l,MV X ρ h args' g l/\(nd=false->∃x,l=[x])/\
   ∀x∈l,∃n',n'<=n/\∃r st',Ev X Q n' (k r st')/\∃F' ρ',PR F' ρ' st'.nx r x.1/\Dj B h0 F ρ st.nx h st' fr x.2 F' ρ'/\(∀gg,g=.fn gg->∀sp,X.sp gg=some sp->∀b,b<h.nx->x.2.get b=h.get b)
theorem Ev.EM{c:Bool}{a b:Tr}(he:Ev X Q n (.ite c a b)):(c=true/\Ev X Q n a)\/(c=false/\Ev X Q n b):=by
 cases he with
 |ite h1 h2=>
  cases c with
  |true=>exact .inl ⟨rfl,h1 rfl⟩
  |false=>exact .inr ⟨rfl,h2 rfl⟩
theorem Ev.Tm{a b:Tr}(he:Ev X Q n (.both a b)):Ev X Q n a/\Ev X Q n b:=by
 cases he with
 |both h1 h2=>exact⟨h1,h2⟩
theorem Ev.AD:¬Ev X Q n .fail:=fun h=>by cases h
theorem Ev.XZ{v:PV}{ob:Ob}(he:Ev X Q n (.leaf v ob)):Q v ob:=by
 cases he with
 |leaf h=>exact h
theorem Nc(hr:Rel B h0 F ρ st fr h){ops:Array Oper}{o:Oper}{yes no:AK->Tr}(he:Ev X Q n (guarded ops o st yes no)):
  ∃st1,Rel B h0 F ρ st1 fr h/\st1.nx=st.nx/\st1.ob=st.ob/\((Bb fr ops o=true/\Ev X Q n (yes st1))\/(Bb fr ops o=false/\Ev X Q n (no st1))):=by
 unfold guarded at he;unfold Bb;cases hg:o.guard with
 |none=>rw[hg]at he;exact⟨st,hr,rfl,rfl,.inl ⟨rfl,he⟩⟩
 |some jw=>
  obtain⟨j,want⟩:=jw;rw[hg]at he;simp only at he ⊢;cases hb:(ops[j]?).bind (·.dst)with
  |none=>rw[hb]at he;exact wh he Ev.AD
  |some t=>
   rw[hb]at he;simp only at he ⊢;rw[show st.n=fr.n from hr.fp.n]at he;cases hlt:zr t fr.n with
   |false=>rw[hlt]at he;exact wh he Ev.AD
   |true=>
    rw[hlt]at he;simp only[we]at he ⊢;have hs:=hr.fp.slot t;split at he
    case h_1=>
     rename_i b hb2;rw[hb2]at hs;rw[Pb hs];refine⟨st,hr,rfl,rfl,?_⟩;cases hbw:(b==want)with
     |true=>rw[hbw]at he;exact .inl ⟨hbw,he⟩
     |false=>rw[hbw]at he;exact .inr ⟨hbw,he⟩
    case h_2=>
     rename_i b hb2;rw[hb2]at hs;have hv:=Ht hs;have note:∀c:Bool,b=c->Rel B h0 F ρ (st.set t (.bl c)) fr h:=by
      rintro c rfl;exact hr.note (by rw[hv];exact Ic _)
     rw[hv];cases want with
     |true=>
      simp only[we]at he;rcases he.EM with⟨hb3,he⟩|⟨hb3,he⟩
      ·exact⟨_,note true hb3,rfl,rfl,.inl ⟨by rw[show b=true from hb3];rfl,he⟩⟩
      ·exact⟨_,note false hb3,rfl,rfl,.inr ⟨by rw[show b=false from hb3];rfl,he⟩⟩
     |false=>
      simp only[wg]at he;rcases he.EM with⟨hb3,he⟩|⟨hb3,he⟩
      ·exact⟨_,note true hb3,rfl,rfl,.inr ⟨by rw[show b=true from hb3];rfl,he⟩⟩
      ·exact⟨_,note false hb3,rfl,rfl,.inl ⟨by rw[show b=false from hb3];rfl,he⟩⟩
    case h_5=>exact wh he Ev.AD
    case h_4=>
     rename_i hb2;rw[hb2]at hs;simp only[PR]at hs;obtain⟨b,hv⟩:=hs;have note:∀c:Bool,b=c->Rel B h0 F ρ (st.set t (.bl c)) fr h:=by
      rintro c rfl;exact hr.note (by rw[hv];exact Ic _)
     obtain⟨he1,he2⟩:=he.Tm;rw[hv];cases b with
     |true=>
      cases want with
      |true=>exact⟨_,note true rfl,rfl,rfl,.inl ⟨rfl,he1⟩⟩
      |false=>exact⟨_,note true rfl,rfl,rfl,.inr ⟨rfl,he1⟩⟩
     |false=>
      cases want with
      |true=>exact⟨_,note false rfl,rfl,rfl,.inr ⟨rfl,he2⟩⟩
      |false=>exact⟨_,note false rfl,rfl,rfl,.inl ⟨rfl,he2⟩⟩
    case h_3=>
     rename_i l hb2;rw[hb2]at hs;simp only[PR]at hs;obtain⟨cs,hv,_⟩:=hs;rw[hv];exact⟨st,hr,rfl,rfl,.inr ⟨rfl,he⟩⟩
theorem I9{d:Option Nat}{k:AK->Tr}:∀ {po:PO},Ev X Q n (PE d k po)->∃u s st1,po.To u s/\s.put d u=some st1/\Ev X Q n (k st1)
 | .bad,he=>wh he Ev.AD
 | .val u s,he=>by
  simp only[PE]at he;split at he
  ·rename_i s1 hs;exact⟨u,s,s1,.val,hs,he⟩
  ·exact wh he Ev.AD
 | .ite c a b,he=>by
  simp only[PE]at he;rcases he.EM with⟨rfl,he2⟩|⟨rfl,he2⟩
  ·obtain⟨u,s,s1,h1,h2⟩:=I9 he2;exact⟨u,s,s1,.tt h1,h2⟩
  ·obtain⟨u,s,s1,h1,h2⟩:=I9 he2;exact⟨u,s,s1,.ff h1,h2⟩
inductive pV (X:A6) (fr:Fr) (h:H) (o:Oper):List (V×H)->Prop where
 |val {x:V} {h':H}:Gu X.C fr h o=some (.val x h')->pV X fr h o [(x,h')]
 |skip {h':H}:Gu X.C fr h o=some (.skip h')->pV X fr h o [(.tup [],h')]
 |alts {l:List (V×H)}:Gu X.C fr h o=some (.alts l)->pV X fr h o l
 |call {g:FuncId} {args:List V} {l:List (V×H)} {M:Nat}:Gu X.C fr h o=some (.enter g args)->(∀m,M<=m->Bl X.C m (.fn g args) h=some l)->pV X fr h o l
 |round {b:Nat} {ls:LS} {f:Fr} {l:List (V×H)} {M:Nat}:Gu X.C fr h o=some (.round b ls f)->(∀m,M<=m->Bl X.C m (.rnd b ls f) h=some l)->pV X fr h o l
theorem HF{nd:Bool}{call:F5}(hcall:Ff B h0 X nd call)(hr:Rel B h0 F ρ st fr h){o:Oper}{k:AK->Tr}(he:Ev X Q n (HA X.C.T call o st k)):
  ∃l,pV X fr h o l/\((nd=false->(∃x,l=[x])/\∀l',Gu X.C fr h o≠some (.alts l'))/\((∀id a,J2 st o.op≠ .yes (.rnd id) a)->∀b ls f,Gu X.C fr h o≠some (.round b ls f)))/\∀x∈l,∃n',n'<=n/\∃st1,Ev X Q n' (k st1)/\∃F' ρ' fr',fr.put o.dst x.1=some fr'/\Dj B h0 F ρ st.nx h st1 fr' x.2 F' ρ'/\
   ∀ids,Hi X.sp st o.op=some ids->∀b,b<h.nx->x.2.get b=h.get b\/∃id∈ids,∃m,ρ id=some (b,m):=by
 unfold HA at he;split at he
 case h_2=>exact wh he Ev.AD
 case h_1=>
  rename_i g args hc;unfold J2 at hc;split at hc
  case h_2=>cases hc
  rename_i c hop;split at hc
  case h_2=>cases hc
  rename_i f hcal;split at hc
  case h_3=>cases hc
  case h_2=>
   rename_i id ps hf hps;cases hc;obtain⟨fv,f1,f2⟩:=Ce (C:=X.C) hr.fp hf;obtain⟨av,a1,a2⟩:=E0 (C:=X.C) hr.fp hps;simp only[PR]at f2;obtain⟨l,hcd,hnd,hall⟩:=hcall he hr a2;obtain⟨hcd1,hM⟩:=hcd;obtain⟨b,m,ls,c1,c2,c3,rfl⟩:=hcd1;obtain rfl:=f2.2 b m c1;have hdop:Gu X.C fr h o=some (.round b ls (Gg ls.ps.toList av ls.fr)):=by
    rw[CU];unfold GL;have hb:zf av.length ls.ps.size=true:=by rw[c3];exact z7 _
    simp only[hop,hcal,a1,f1,KS,c2,hb,we]
   refine⟨l,.round hdop hM,⟨fun e=>⟨hnd e,fun l'=>by rw[hdop];intro h;cases h⟩,fun hno=>?_⟩,fun x hx=>?_⟩
   ·exact wh (by unfold J2;simp only[hop,hcal,hf,hps]) (hno id args)
   obtain⟨n',hn,r,st',he',F',ρ',hp,hw,hsp⟩:=hall x hx;split at he'
   case h_2=>exact wh he' Ev.AD
   rename_i st1 hput;obtain⟨fr',g1,g2,g3,g4⟩:=hw.rel.put hp hput;refine⟨n',hn,st1,he',F',ρ',fr',g1,⟨g2,by rw[g3];exact hw.le,hw.nx⟩,fun ids hids b hb=>?_⟩;simp only[hop,Hi,hcal,hf]at hids;cases hids
  rename_i g' first cap ps hf hps
  cases hc;obtain⟨fv,f1,f2⟩:=Ce (C:=X.C) hr.fp hf;obtain⟨av,a1,a2⟩:=E0 (C:=X.C) hr.fp hps;simp only[PR]at f2;obtain⟨fa,fb,rfl,f3,f4⟩:=f2;have hargs:Bd F ρ st.nx (first++ps++cap) (fa++av++fb):=(f3.append a2).append f4;obtain⟨l,hcd,hnd,hall⟩:=hcall he hr hargs;have hdid:pV X fr h o l/\(∀l',Gu X.C fr h o≠some (.alts l'))/\∀b ls f,Gu X.C fr h o≠some (.round b ls f):=by
   cases hcd with
   |Bl hc hM=>
    obtain⟨rfl,hprim,i,hfn⟩:=hc;have hdop:Gu X.C fr h o=some (.enter g' (fa++av++fb)):=by
     rw[CU];unfold GL;simp only[hop,hcal,a1,f1,KS,hprim,hfn]
    exact⟨.call hdop hM,fun l'=>(by rw[hdop];intro h;cases h),fun b ls f=>(by rw[hdop];intro h;cases h)⟩
   |prim hq hx=>
    rename_i q x;have hdop:Gu X.C fr h o=some (.val x.1 x.2):=by
     rw[CU];unfold GL;simp only[hop,hcal,a1,f1,KS,hq,hx,Fb]
    exact⟨.val hdop,fun l'=>(by rw[hdop];intro h;cases h),fun b ls f=>(by rw[hdop];intro h;cases h)⟩
  refine⟨l,hdid.1,⟨fun e=>⟨hnd e,hdid.2.1⟩,fun _=>hdid.2.2⟩,fun x hx=>?_⟩;obtain⟨n',hn,r,st',he',F',ρ',hp,hw,hsp⟩:=hall x hx;split at he'
  case h_2=>exact wh he' Ev.AD
  rename_i st1 hput;obtain⟨fr',g1,g2,g3,g4⟩:=hw.rel.put hp hput;refine⟨n',hn,st1,he',F',ρ',fr',g1,⟨g2,by rw[g3];exact hw.le,hw.nx⟩,fun ids hids b hb=>?_⟩;simp only[hop,Hi,hcal,hf]at hids;cases hs:X.sp g' with
  |none=>rw[hs]at hids;cases hids
  |some sp=>exact .inl (hsp g' rfl sp hs b hb)
 case h_3=>
  obtain⟨u,s,st1,h1,h2,h3⟩:=I9 he;obtain⟨tch,⟨v',h',F',ρ',g1,g2,g3,g4,g5,g6,g7,g8⟩,htch⟩:=rI (C:=X.C) hr h1;have hrs:Rel B h0 F' ρ' s fr h':=⟨⟨by rw[g6];exact hr.fp.n,fun t=>by
   have:s.get t=st.get t:=by unfold AK.get;rw[g5]
   rw[this];exact(hr.fp.slot t).mono g4⟩,g3⟩
  obtain⟨fr',k1,k2,k3,k4⟩:=hrs.put g2 h2;refine⟨[(v',h')],?_,⟨fun _=>⟨⟨_,rfl⟩,fun l'=>by rcases g1 with g1|⟨g1,_⟩<;>rw[g1]<;>intro h<;>cases h⟩,fun _ b ls f=>by rcases g1 with g1|⟨g1,_⟩<;>rw[g1]<;>intro h<;>cases h⟩,fun x hx=>?_⟩
  ·rcases g1 with g1|⟨g1,rfl⟩
   ·exact .val g1
   ·exact .skip g1
  ·cases zk.1 hx;refine⟨n,ze _,st1,h3,F',ρ',fr',k1,⟨k2,by rw[k3];exact g4,g7⟩,fun ids hids b hb=>?_⟩;rcases g8 b hb with e|⟨id,hi,m,e⟩
   ·exact .inl e
   ·exact .inr ⟨id,htch _ _ hids id hi,m,e⟩
theorem vU{α β:Type}{f:α->Option (List β)}{x:α}:bl [x] f=f x:=by
 unfold bl;cases f x<;>rfl
theorem Lf{α β:Type}{f:Nat->Nat->α->Option (List β)}{P:β->Prop}{nd:Bool}{l:List α}(hone:nd=false->∃x,l=[x])(h:∀a∈l,∃r M,(∀m,M<=m->∀q,M<=q->f m q a=some r)/\(nd=false->∃x,r=[x])/\∀y∈r,P y):
  ∃r M,(∀m,M<=m->∀q,M<=q->bl l (f m q)=some r)/\(nd=false->∃x,r=[x])/\∀y∈r,P y:=by
 cases nd with
 |false=>
  obtain⟨x,rfl⟩:=hone rfl;obtain⟨r,M,h1,h2,h3⟩:=h x (zk.2 rfl);exact⟨r,M,fun m hm q hq=>by rw[vU];exact h1 m hm q hq,h2,h3⟩
 |true=>
  clear hone;suffices hs:∃r M,(∀m,M<=m->∀q,M<=q->bl l (f m q)=some r)/\∀y∈r,P y by
   obtain⟨r,M,h1,h2⟩:=hs;exact⟨r,M,h1,fun e=>(by cases e),h2⟩
  induction l with
  |nil=>exact⟨[],0,fun _ _ _ _=>rfl,fun y hy=>by cases hy⟩
  |cons a l ih=>
   obtain⟨r,M,h1,_,h2⟩:=h a List.mem_cons_self;obtain⟨r2,M2,h3,h4⟩:=ih (fun x hx=>h x (List.mem_cons_of_mem _ hx));cases l with
   |nil=>exact⟨r,M,fun m hm q hq=>(by simp only[bl,h1 m hm q hq]),h2⟩
   |cons b l=>
    refine⟨r++r2,max M M2,fun m hm q hq=>?_,fun y hy=>?_⟩
    ·unfold bl;rw[h1 m (by omega) q (by omega)];simp only;rw[h3 m (by omega) q (by omega)]
    ·rcases List.mem_append.1 hy with hy|hy
     ·exact h2 y hy
     ·exact h4 y hy
theorem Ol{d:Option Nat}{P:Fr×H->Prop}:∀ {l:List (V×H)},(∀x∈l,∃fr',fr.put d x.1=some fr'/\P (fr',x.2))->∃r,HE fr d l=some r/\(∀y∈r,P y)/\((∃x,l=[x])->∃y,r=[y])
 |[],_=>⟨[],rfl,fun y hy=>(by cases hy),fun⟨x,h⟩=>by cases h⟩
 |x::l,h=>by
  obtain⟨fr',h1,h2⟩:=h x List.mem_cons_self;obtain⟨r,h3,h4,_⟩:=Ol (l:=l) (fun y hy=>h y (List.mem_cons_of_mem _ hy));refine⟨(fr',x.2)::r,?_,fun y hy=>?_,fun⟨z,hz⟩=>?_⟩
  ·obtain⟨v,hv⟩:=x;unfold HE;rw[h1];simp only;rw[h3]
  ·rcases List.mem_cons.1 hy with rfl|hy
   ·exact h2
   ·exact h4 y hy
  ·cases hz;cases h3;exact⟨_,rfl⟩
theorem pV.Abg{l:List (V×H)}{o:Oper}{ops:Array Oper}(hd:pV X fr h o l)(hw:Bb fr ops o=true){P:Fr×H->Prop}(hp:∀x∈l,∃fr',fr.put o.dst x.1=some fr'/\P (fr',x.2)):
  ∃r M,(∀m,M<=m->step1 X.C (Bl X.C m) ops o fr h=some r)/\((∃x,l=[x])->∃y,r=[y])/\∀y∈r,P y:=by
 obtain⟨r,h3,h4,h5⟩:=Ol hp;cases hd with
 |@val x h' hd=>
  obtain⟨fr',k1,k2⟩:=hp _ (zk.2 rfl);exact⟨[(fr',h')],0,fun m _=>(by simp only[step1,hw,we,IE,hd,k1]),fun _=>⟨_,rfl⟩,fun y hy=>by cases zk.1 hy;exact k2⟩
 |@skip h' hd=>
  obtain⟨fr',k1,k2⟩:=hp _ (zk.2 rfl);exact⟨[(fr',h')],0,fun m _=>(by simp only[step1,hw,we,IE,hd,k1]),fun _=>⟨_,rfl⟩,fun y hy=>by cases zk.1 hy;exact k2⟩
 |alts hd=>exact⟨r,0,fun m _=>by simp only[step1,hw,we,IE,hd,h3],h5,h4⟩
 |@call g args l M hd hM=>exact⟨r,M,fun m hm=>by simp only[step1,hw,we,IE,hd,hM m hm,h3],h5,h4⟩
 |@round b ls f l M hd hM=>exact⟨r,M,fun m hm=>by simp only[step1,hw,we,IE,hd,hM m hm,h3],h5,h4⟩
theorem aL{T:B3}{h:H}{s d:TypeId}{b off:Nat}:FQ T h s d (.ptr b off)=none:=by
 unfold FQ;split<;>first|rfl|(rename_i e;cases e)
theorem eO(hr:Rel B h0 F ρ st fr h){o:Oper}{v:PV}(hb:wW X.C.T st o.op=some v):OK B h0 F ρ st h [] (IE X.C fr h o) v st:=by
 have fin:∀ {s d:TypeId} {x:Operand} {b off:Nat} {u:V},o.op=.convert s d x->ev X.C fr x=some (.ptr b off)->CW X.C.T h s d (.ptr b off)=some u->PR F ρ st.nx v u->OK B h0 F ρ st h [] (IE X.C fr h o) v st:=by
  intro s d x b off u hop g1 g2 g3;have hdop:Gu X.C fr h o=none:=by
   rw[CU];unfold GL;rw[hop];simp only[g1,aL];rfl
  refine zg hr.sr (v':=u) ?_ g3;unfold IE;rw[hdop,hop];simp only[g1,g2]
 unfold wW at hb;split at hb
 case h_2=>cases hb
 rename_i s d x hop;split at hb
 case h_3=>cases hb
 case h_1=>
  rename_i t id off hs hd hx;split at hb
  case h_2=>cases hb
  rename_i i tb cs hi ho;cases hc:(zr 0 i.size&&zr off (Det.Ez cs))with
  |false=>rw[hc]at hb;cases hb
  |true=>
   rw[hc]at hb;cases hb;obtain⟨y,g1,g2⟩:=Ce (C:=X.C) hr.fp hx;obtain⟨b,n,z,k1,k2,⟨bs,fz,rfl,k4,_⟩,_⟩:=hr.sr.at ho;have hy:=g2;simp only[PR]at hy;obtain rfl:=hy.2 b n k1;refine fin hop g1 ?_ g2;unfold CW;rw[hs,hd];simp only[hi,k2];rw[CZ,k4.len]at hc;rw[hc];rfl
 case h_2=>
  rename_i u id off hs hd hx;split at hb
  case h_2=>cases hb
  rename_i i e cs hi ho;cases hc:(zr 0 i.size&&zl i.size (Det.Ez cs)&&zf e u&&zf off 0)with
  |false=>rw[hc]at hb;cases hb
  |true=>
   rw[hc]at hb;cases hb;obtain⟨y,g1,g2⟩:=Ce (C:=X.C) hr.fp hx;obtain⟨b,n,z,k1,k2,⟨bs,fz,rfl,k4,_⟩,_⟩:=hr.sr.at ho;have hy:=g2;simp only[PR]at hy;obtain rfl:=hy.2 b n k1;have h0:off=0:=by
    simp only[zc]at hc;exact zd hc.2
   subst h0;refine fin hop g1 (u:=.ptr b 0) ?_ g2;unfold CW;rw[hs,hd];simp only[hi,k2];rw[CZ,k4.len]at hc;rw[hc];rfl
theorem Tp(hr:Rel B h0 F ρ st fr h){o:Oper}{v:PV}{stx:AK}(hb:Tc X.C.T st o.op=some (v,stx)):OK B h0 F ρ st h [] (IE X.C fr h o) v stx:=by
 unfold Tc at hb;split at hb
 case h_2=>cases hb
 rename_i s d x hop;split at hb
 case h_2=>cases hb
 rename_i e l hs hd hx;split at hb
 case h_2=>cases hb
 rename_i he;cases hb;obtain⟨y,g1,g2⟩:=Ce (C:=X.C) hr.fp hx;obtain rfl:=Fa g2;have hdop:Gu X.C fr h o=none:=by
  rw[CU];unfold GL;rw[hop];simp only[g1,FQ,hs,hd];rfl
 have hx:IE X.C fr h o=Fb (some (.sl h.nx 0 l.length l.length 1,h.push (.cells (l.map fun b=>.int .u8 (.ofNat b.toNat)) e (0,0)))):=by
  have hpt:CW X.C.T h s d (.str l)=none:=by unfold CW;rw[hs,hd]
  unfold IE;rw[hdop,hop];simp only[g1,hpt,R4,hs,hd,he]
 rw[hx];refine OK.new hr.sr (o:=.arr false e (.int .u8) (l.map fun b=>(b.toNat:Int))) (n:=l.length) rfl ⟨l.map fun b=>y8 .u8 (.ofNat b.toNat),(0,0),rfl,⟨by simp[Sh.sz],fun j hj=>?_⟩,ze _,by simp⟩ ?_
 ·have hj':j<l.length:=by simpa using hj
  have e1:((l.map fun b=>y8 .u8 (.ofNat b.toNat)).drop (j*1)).take 1=[y8 .u8 (.ofNat (l[j]).toNat)]:=by
   rw[yn,zw (by simpa using hj')];simp
  show DC _ (.int .u8) _ (((l.map fun b=>y8 .u8 (.ofNat b.toNat)).drop (j*1)).take 1);rw[e1];simp[DC]
 ·unfold PR;refine⟨zz _,fun b m hb=>.inl ⟨ze _,?_,1,.inr rfl,?_⟩⟩
  ·simp[BO]at hb;show 0+l.length<=m;omega
  ·simp[BO]at hb;rw[<-hb.1];simp
theorem WQ(hr:Rel B h0 F ρ st fr h){o:Oper}{v:PV}{stx:AK}(hb:VK X.C.T st o.op=some (v,stx)):OK B h0 F ρ st h [] (IE X.C fr h o) v stx:=by
 unfold VK at hb;split at hb
 case h_1=>rename_i r hr0;cases hb;exact Tp hr hr0
 case h_2=>
  split at hb
  case h_2=>cases hb
  rename_i u hu;cases hb;exact eO hr hu
theorem UJ{nd:Bool}{call:F5}(hcall:Ff B h0 X nd call){ops:Array Oper}:∀ {l:List Oper} {n:Nat} {st:AK} {F:Fz} {ρ:Ec} {fr:Fr} {h:H} {k:AK->Tr},Rel B h0 F ρ st fr h->Ev X Q n (prun X.C.T call ops l st k)->
  ∃r M,(∀m,M<=m->R1 X.C (Bl X.C m) ops l fr h=some r)/\(nd=false->∃x,r=[x])/\∀x∈r,∃n',n'<=n/\∃st1,Ev X Q n' (k st1)/\∃F' ρ',Dj B h0 F ρ st.nx h st1 x.1 x.2 F' ρ'
 |[],n,st,F,ρ,fr,h,k,hr,he=>⟨[(fr,h)],0,fun _ _=>rfl,fun _=>⟨_,rfl⟩,fun x hx=>by cases zk.1 hx;exact⟨n,ze _,st,he,F,ρ,Dj.refl hr⟩⟩
 |o::rest,n,st,F,ρ,fr,h,k,hr,he=>by
  unfold prun at he;obtain⟨st1,hr1,e1,e2,hcase⟩:=Nc hr he;have fin:∀ {l:List (Fr×H)},(∃M,∀m,M<=m->step1 X.C (Bl X.C m) ops o fr h=some l)->(nd=false->∃x,l=[x])->
    (∀y∈l,∃n',n'<=n/\∃st2,Ev X Q n' (prun X.C.T call ops rest st2 k)/\∃F' ρ',Dj B h0 F ρ st.nx h st2 y.1 y.2 F' ρ')->
    ∃r M,(∀m,M<=m->R1 X.C (Bl X.C m) ops (o::rest) fr h=some r)/\(nd=false->∃x,r=[x])/\∀x∈r,∃n',n'<=n/\∃st1,Ev X Q n' (k st1)/\∃F' ρ',Dj B h0 F ρ st.nx h st1 x.1 x.2 F' ρ':=by
   rintro l ⟨M1,hM1⟩ hone hl;obtain⟨r,M,h1,h2,h3⟩:=Lf (f:=fun m _ (x:Fr×H)=>R1 X.C (Bl X.C m) ops rest x.1 x.2) (P:=fun x=>∃n',n'<=n/\∃st1,Ev X Q n' (k st1)/\∃F' ρ',Dj B h0 F ρ st.nx h st1 x.1 x.2 F' ρ') hone fun y hy=>by
    obtain⟨n1,hn1,st2,he2,F1,ρ1,hwent⟩:=hl y hy;obtain⟨r,M,h1,h3,h2⟩:=UJ hcall hwent.rel he2;refine⟨r,M,fun m hm _ _=>h1 m hm,h3,fun z hz=>?_⟩;obtain⟨n2,hn2,st3,he3,F2,ρ2,hwent2⟩:=h2 z hz;exact⟨n2,yu hn2 hn1,st3,he3,F2,ρ2,hwent.trans hwent2⟩
   refine⟨r,max M M1,fun m hm=>?_,h2,h3⟩;simp only[R1,hM1 m (by omega)];exact h1 m (by omega) m (by omega)
  rcases hcase with⟨hw,he⟩|⟨hw,he⟩
  ·unfold sZ at he;split at he
   case h_1=>
    rename_i v stx hb;split at he
    case h_2=>exact wh he Ev.AD
    rename_i st2 hput;obtain⟨v',h',F',ρ',g1,g2,g3,g4,g5,g6,g7,g8⟩:=WQ hr1 hb;have hrs:Rel B h0 F' ρ' stx fr h':=⟨⟨by rw[g6];exact hr1.fp.n,fun t=>by
     have:stx.get t=st1.get t:=by unfold AK.get;rw[g5]
     rw[this];exact(hr1.fp.slot t).mono g4⟩,g3⟩
    have hpr:∃u,PR F' ρ' stx.nx v u/\∀fr',fr.put o.dst u=some fr'->∀m,step1 X.C (Bl X.C m) ops o fr h=some [(fr',h')]:=by
     rcases g1 with g1|⟨g1,rfl⟩
     ·exact⟨v',g2,fun fr' k1 m=>by simp only[step1,hw,we,g1,k1]⟩
     ·exact⟨.tup [],g2,fun fr' k1 m=>by simp only[step1,hw,we,g1,k1]⟩
    obtain⟨u,hu,DJ⟩:=hpr;obtain⟨fr',k1,k2,k3,k4⟩:=hrs.put hu hput;refine fin (l:=[(fr',h')]) ⟨0,fun m _=>DJ fr' k1 m⟩ (fun _=>⟨_,rfl⟩) fun y hy=>?_
    cases zk.1 hy;exact⟨n,ze _,st2,he,F',ρ',k2,by rw[k3, <-e1];exact g4,g7⟩
   obtain⟨l,hdid,hnd,hall⟩:=HF hcall hr1 he;obtain⟨r,M,h1,h3,h2⟩:=hdid.Abg (ops:=ops) (P:=fun y=>∃n',n'<=n/\∃st2,Ev X Q n' (prun X.C.T call ops rest st2 k)/\∃F' ρ',Dj B h0 F ρ st.nx h st2 y.1 y.2 F' ρ') hw fun x hx=>by
    obtain⟨n1,hn1,st2,he2,F1,ρ1,fr1,hput,hwent,_⟩:=hall x hx;rw[e1]at hwent;exact⟨fr1,hput,n1,hn1,st2,he2,F1,ρ1,hwent⟩
   exact fin ⟨M,h1⟩ (fun e=>h3 (hnd.1 e).1) h2
  ·unfold Mi at he;split at he
   case h_2=>exact wh he Ev.AD
   rename_i st2 hput;obtain⟨fr1,g1,g2,g3,g4⟩:=hr1.put (x:=.tup []) (by simp[PR]) hput;refine fin (l:=[(fr1,h)]) ⟨0,fun m _=>by simp only[step1,hw,wg,g1]⟩ (fun _=>⟨_,rfl⟩) fun y hy=>?_
   cases zk.1 hy;exact⟨n,ze _,st2,he,F,ρ,g2,by rw[g3,e1];exact yf,ze _⟩
end
end Go.Pe
