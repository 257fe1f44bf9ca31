import Derived.Test.YtknhdhchejmpgaaGreatDoorX07
/- A part of a proof (no law is stated here). Made by program out of texts by AI agents. -/
noncomputable section
open Bool renaming and_eq_true -> zc, and_self -> yv, or_true -> qc
open Nat renaming eq_of_beq_eq_true -> ze, le_refl -> zg, beq -> zh, mul_le_mul_right -> zk, ble_eq_true_of_le -> zl, ble -> zo, add_mul -> zt, blt -> zw, succ_mul -> zx, zero_mul -> zy, lt_succ_self -> ya, beq_refl -> yc, min_eq_left -> yi, sub_self -> yp, mul_one -> yq, le_trans -> yx, add_assoc -> y8, add_comm -> y9
open Go.Pe.OK renaming pure -> zj
open List renaming mem_singleton -> zm, replicate -> zq, length_eq_zero_iff -> zr, drop_eq_getElem_cons -> zz, replicate_succ -> z7, all_eq_true -> yb, length_replicate -> yd, getElem?_append_right -> ye, getElem?_append_left -> yf, length_nil -> yh, drop_zero -> yk, getElem?_range -> yo, flatten_cons -> yr, ext_getElem? -> yt, getElem?_map -> yu, getElem_cons_zero -> yy, take_of_length_le -> yz, length_map -> y7
open Option.some renaming injEq -> zn
open Option renaming map_eq_some_iff -> zp, map_some -> zu, getD_some -> ym
open Int renaming ofNat -> z8, eq_ofNat_of_zero_le -> yw
open Prod.mk renaming injEq -> yg
open Go.Pe.Le renaming refl -> yj
open List.cons renaming injEq -> yn
open Go.Det.V renaming int -> qd
namespace Go.Pe
open Go.Det
section
variable {B:Nat}{h0:H0}{F:Fz}{ρ:D2}{N:Nat}{C:Ctx}{st st':AK}{fr:Fr}{h:H}
theorem SR.live(hr:SR B h0 F ρ st.nx st.ob h){id:Nat}(hi:HW (st.obj id)=true):∃b n,ρ id=some (b,n):=by
 obtain⟨o,ho⟩:=HY hi;obtain⟨b,n,_,h1,_⟩:=hr.at ho;exact⟨b,n,h1⟩
theorem DA{i:Int}(h:0<=i):∃n:Nat,i=z8 n/\i.toNat=n:=⟨i.toNat,(Int.toNat_of_nonneg h).symm,rfl⟩
theorem Dv{a b:Nat}(h:a<b):zw a b=true:=zl h
theorem fA(hr:SR B h0 F ρ st.nx st.ob h){t:TypeId}{p q:PV}{x y:V}(hx:PR F ρ st.nx p x)(hy:PR F ρ st.nx q y){v:PV}(ht:(SX C.T t p q st).To v st'):
  OK B h0 F ρ st h [] (Bv h (CW C.T t x y)) v st':=by
 unfold SX at ht;split at ht
 case h_3=>simp at ht
 case h_2=>
  rename_i alen e k i hu;obtain rfl:=CA hy;split at ht
  case h_2=>simp at ht
  rename_i ti hti;split at ht
  case h_4=>simp at ht
  case h_1=>
   rename_i id off;simp only[PR]at hx;split at ht
   case h_3=>exact wh ht (by simp)
   case h_1=>
    rename_i fzb te s l ho;cases hcc:(zh off 0&&zh ti.size s.sz)with
    |false=>rw[hcc]at ht;simp at ht
    |true=>
     rw[hcc]at ht;rw[zc]at hcc;have hoff:=ze hcc.1;have hs1:=ze hcc.2;subst hoff;simp only[we,BI,zc,w5]at ht;obtain⟨⟨hi0,hi1⟩,rfl,rfl⟩:=ht;obtain⟨n,rfl,hn⟩:=DA hi0;have hlt:n<alen:=by simp at hi1;exact hi1
     obtain⟨b,m,_,h1,_⟩:=hr.at ho;obtain rfl:=hx.2 b m h1;refine zj hr (v':=.ptr b (0+n*ti.size)) ?_ ?_
     ·show Bv h (CW C.T t (.ptr b 0) (.int k (z8 n)))=_;simp only[CW,hu,hti,Dv hlt,we,Bv]
     ·simp only[PR];refine⟨hx.1,fun b' n' hb=>?_⟩;rw[h1]at hb;cases hb;rw[hn,hs1,Nat.zero_add];rfl
   case h_2=>
    rename_i o _ ho;simp only[BI,zc,w5]at ht;obtain⟨⟨hi0,hi1⟩,rfl,rfl⟩:=ht;obtain⟨n,rfl,hn⟩:=DA hi0;have hlt:n<alen:=by simp at hi1;exact hi1
    obtain⟨b,m,_,h1,_⟩:=hr.at ho;obtain rfl:=hx.2 b m h1;refine zj hr (v':=.ptr b (off+n*ti.size)) ?_ ?_
    ·show Bv h (CW C.T t (.ptr b off) (.int k (z8 n)))=_;simp only[CW,hu,hti,Dv hlt,we,Bv]
    ·simp only[PR];refine⟨hx.1,fun b' n' hb=>?_⟩;rw[h1]at hb;cases hb;rw[hn];rfl
  case h_2=>
   rename_i id sz j off;cases hl:HW (st.obj id)with
   |false=>rw[hl]at ht;simp at ht
   |true=>
    rw[hl]at ht;simp only[we,BI,zc,w5]at ht;obtain⟨⟨hi0,hi1⟩,rfl,rfl⟩:=ht;obtain⟨n,rfl,hn⟩:=DA hi0;have hlt:n<alen:=by simp at hi1;exact hi1
    obtain⟨b,m,h1⟩:=hr.live hl;simp only[PR]at hx;obtain rfl:=hx.2 b m h1;refine zj hr (v':=.ptr b (j*sz+off+n*ti.size)) ?_ ?_
    ·show Bv h (CW C.T t (.ptr b (j*sz+off)) (.int k (z8 n)))=_;simp only[CW,hu,hti,Dv hlt,we,Bv]
    ·simp only[PR];refine⟨hx.1,fun b' n' hb=>?_⟩;rw[h1]at hb;cases hb;rw[hn,y8];rfl
  case h_3=>
   rename_i s y off;simp only[BI,zc,w5]at ht;obtain⟨⟨hi0,hi1⟩,rfl,rfl⟩:=ht;obtain⟨n,rfl,hn⟩:=DA hi0;have hlt:n<alen:=by simp at hi1;exact hi1
   simp only[PR]at hx;obtain⟨b,o,cs,rfl,h1,h2,h3⟩:=hx;refine zj hr (v':=.ptr b (o+off+n*ti.size)) ?_ ?_
   ·show Bv h (CW C.T t (.ptr b (o+off)) (.int k (z8 n)))=_;simp only[CW,hu,hti,Dv hlt,we,Bv]
   ·simp only[PR];refine⟨b,o,cs,?_,h1,h2,h3⟩;rw[hn,y8];rfl
 case h_1=>
 rename_i e k i hu;obtain rfl:=CA hy;split at ht
 case h_2=>simp at ht
 rename_i ti hti;split at ht
 case h_3=>simp at ht
 case h_1=>
  rename_i s l;cases hz:zh ti.size s.sz with
  |false=>rw[hz]at ht;simp at ht
  |true=>
   rw[hz]at ht;have hz:=ze hz;simp only[we,BI,zc,w5]at ht;obtain⟨⟨hi0,hi1⟩,rfl,rfl⟩:=ht;obtain⟨n,rfl,hn⟩:=DA hi0;have hlt:n<l.length:=by simp at hi1;exact hi1
   simp only[PR,DC]at hx;obtain⟨u,hu1,hx⟩:=hx;obtain rfl:x=u:=by simpa using hu1
   rcases hx with⟨rfl,_⟩|⟨b,off,cap,o,bs,rfl,h1,h2,h3,_,h4⟩
   ·simp at hlt
   ·refine zj hr (v':=.ptr b (off+n*ti.size)) ?_ ?_
    ·show Bv h (CW C.T t (.sl b off l.length cap o) (.int k (z8 n)))=_;simp only[CW,hu,hti,Dv hlt,we,Bv]
    ·simp only[PR];refine⟨b,off+n*s.sz,bs,by rw[hz];rfl,h2,?_,?_⟩
     ·have:(n+1)*s.sz<=l.length*s.sz:=zk _ hlt;rw[zx]at this;omega
     ·have:=h4 n hlt;rw[hn,show l.getD n s.Ht=l[n]from by simp[hlt]];exact this
 case h_2=>
  rename_i id sz off len cap;cases hz:(zh ti.size sz&&HW (st.obj id))with
  |false=>rw[hz]at ht;simp at ht
  |true=>
   rw[hz]at ht;simp only[zc]at hz;obtain⟨hz,hl⟩:=hz;have hz:=ze hz;simp only[we,BI,zc,w5]at ht;obtain⟨⟨hi0,hi1⟩,rfl,rfl⟩:=ht;obtain⟨n,rfl,hn⟩:=DA hi0;have hlt:n<len:=by simp at hi1;exact hi1
   obtain⟨b,m,h1⟩:=hr.live hl;simp only[PR]at hx;rcases hx.2 b m h1 with⟨_,_,o,_,rfl⟩|⟨e0,_⟩
   ·refine zj hr (v':=.ptr b (off*sz+n*ti.size)) ?_ ?_
    ·show Bv h (CW C.T t (.sl b (off*sz) len _ o) (.int k (z8 n)))=_;simp only[CW,hu,hti,Dv hlt,we,Bv]
    ·simp only[PR];refine⟨hx.1,fun b' n' hb=>?_⟩;rw[h1]at hb;cases hb;rw[hz,hn];show V.ptr b (off*sz+n*sz)=.ptr b ((n+off)*sz+0);rw[zt,y9 (n*sz)];rfl
   ·omega
theorem pD(hr:SR B h0 F ρ st.nx st.ob h){t:TypeId}{p q:PV}{x y:V}(hx:PR F ρ st.nx p x)(hy:PR F ρ st.nx q y){v:PV}(ht:(WH C.T t p q st).To v st'):
  OK B h0 F ρ st h [] (Bv h (Ho C.T t x y)) v st':=by
 unfold WH at ht;split at ht
 case h_3=>simp at ht
 case h_2=>
  rename_i alen e ps k i hu;obtain rfl:=CA hy;split at ht
  case h_2=>simp at ht
  rename_i d ti hd hti;simp only[N4,zc,w5]at ht;obtain⟨⟨hi0,hi1⟩,hpk,rfl⟩:=ht;obtain⟨n,rfl,hn⟩:=DA hi0;have hlt:n<alen:=by simp at hi1;exact hi1
  simp only[PR]at hx;obtain⟨cs,rfl,hps⟩:=hx;rw[LU,hn]at hpk;have hp:=hps.drop (n*ti.size);have hdx:Ho C.T t (.agg cs) (.int k (z8 n))=Lh C.T e cs (n*ti.size):=by simp only[Ho,hu,hti,Dv hlt,we]
  rcases Ki hp hpk with⟨ha,_,_,hv⟩|⟨ha,u,us,e',hv⟩
  ·exact zj hr (by rw[hdx];simp only[Lh,hd,hti,ha,we,Bv]) hv
  ·have:cs[n*ti.size]?=some u:=by
    have:=wi (·[0]?) e';simpa using this
   exact zj hr (by rw[hdx];simp only[Lh,hd,hti,ha,wg,this,Bv]) hv
 case h_1=>
 rename_i s k i hu;obtain rfl:=EX hx;obtain rfl:=CA hy;simp only[BI,zc,w5]at ht;obtain⟨⟨hi0,hi1⟩,rfl,rfl⟩:=ht;obtain⟨n,rfl,hn⟩:=DA hi0;have hlt:n<List.length s:=by simp at hi1;exact hi1
 have hg:(s:List UInt8)[n]?=some (s:List UInt8)[n]:=List.getElem?_eq_getElem hlt;refine zj hr (v':=.int .u8 ((s:List UInt8)[n].toNat:Int)) ?_ ?_
 ·show Bv h (Ho C.T t (.str s) (.int k (z8 n)))=_;simp only[Ho,hu,hg,Bv]
 ·rw[hn,show List.getD (s:List UInt8) n 0=(s:List UInt8)[n]from by simp[hlt]];exact Da _ _
theorem ZP(hr:SR B h0 F ρ st.nx st.ob h){p:PV}{x:V}(hx:PR F ρ st.nx p x){i:Nat}{v:PV}(ht:(OF p i st).To v st'):OK B h0 F ρ st h [] (Bv h (GU x i)) v st':=by
 unfold OF at ht;split at ht
 case h_2=>simp at ht
 rename_i ps;split at ht
 case h_2=>simp at ht
 rename_i q hq;simp only[AR]at ht;obtain⟨rfl,rfl⟩:=ht;simp only[PR]at hx;obtain⟨cs,rfl,hps⟩:=hx;obtain⟨u,h1,h2⟩:=hps.get hq;exact zj hr (by simp only[GU,h1,Bv]) h2
def S1(F:Fz)(ρ:D2)(N:Nat):Option PV->Option V->Prop
 |none,x=>x=none
 |some p,x=>∃v,x=some v/\PR F ρ N p v
theorem DK{o:Option PV}{x:Option V}{d:Nat}{c:Bool}{n:Nat}(hx:S1 F ρ N o x)(hp:pb o d=some (c,n))(hc:c=true){y:Nat}(hy:n<=y):G6 x y d=some n:=by
 unfold pb at hp;split at hp
 ·cases hp;simp only[S1]at hx;subst hx;rfl
 ·cases hp;simp only[S1]at hx;obtain⟨v,rfl,hv⟩:=hx;obtain rfl:=CA hv;simp only[w5]at hc;obtain⟨m,rfl,hm⟩:=DA hc;rw[hm]at hy;show(bif zo m y then some m else none)=_;rw[zl hy,hm];rfl
 ·cases hp
theorem S1.isNone{o:Option PV}{x:Option V}(hx:S1 F ρ N o x):(o=none↔x=none):=by
 cases o with
 |none=>simp only[S1]at hx;simp[hx]
 |some p=>simp only[S1]at hx;obtain⟨v,rfl,_⟩:=hx;simp
theorem LM{T:BS}{t e:TypeId}{ti:TI}{b off len cap o m hh l:Nat}{lo hi mx:Option V}(hu:T.und t=some (.slice e))(hti:T.inf e=some ti)(hm:G6 mx cap cap=some m)(hb:G6 hi m len=some hh)
  (hl:G6 lo hh 0=some l) (hno:hi=none->mx=none):
  Dq T t (.sl b off len cap o) lo hi mx=bif zh m l then(bif zh (JD mx o) 0 then some (.sl b off (hh-l) (m-l) 0)else some .esl)
   else bif zh (JD mx o) 0||zh (JD mx o) ti.size then some (.sl b (off+l*ti.size) (hh-l) (m-l) (JD mx o))else none:=by
 cases hi with
 |some x=>cases mx<;>simp only[Dq,hu,hti,hm,hb,hl]
 |none=>
  cases hno rfl;simp only[Dq,hu,hti,hm,hb,hl]
theorem cT(hr:SR B h0 F ρ st.nx st.ob h){t:TypeId}{p:PV}{x:V}{lo hi mx:Option PV}{a b c:Option V}(hx:PR F ρ st.nx p x)(hlo:S1 F ρ st.nx lo a)(hhi:S1 F ρ st.nx hi b)(hmx:S1 F ρ st.nx mx c)
  {v:PV} (ht:(SQ C.T t p lo hi mx st).To v st'):OK B h0 F ρ st h [] (Bv h (Dq C.T t x a b c)) v st':=by
 unfold SQ at ht;split at ht
 case h_3=>simp at ht
 case h_1=>
  rename_i hu;split at ht
  case h_2=>simp at ht
  rename_i s;obtain rfl:=EX hx;split at ht
  case h_2=>simp at ht
  rename_i c1 l c2 hh hb1 hb2;simp only[BI,zc,w5]at ht;obtain⟨⟨⟨⟨k1,k2⟩,k3⟩,k4⟩,rfl,rfl⟩:=ht;simp only[S1]at hmx;subst hmx;have e1:=DK hlo hb1 k1 k3;have e2:=DK hhi hb2 k2 k4;exact zj hr (by simp only[Dq,hu,e1,e2,Bv];rfl) (J6 _)
 case h_2=>
  rename_i e hu;split at ht
  case h_2=>simp at ht
  rename_i ti hti;split at ht
  case h_4=>simp at ht
  case h_1=>
   rename_i s xs;cases hz:zh ti.size s.sz with
   |false=>rw[hz]at ht;simp at ht
   |true=>
    rw[hz]at ht;have hz:=ze hz;simp only[we]at ht;split at ht
    case h_2=>simp at ht
    rename_i c1 l c2 hh hb1 hb2;simp only[BI,zc,w5]at ht;obtain⟨⟨⟨⟨k1,k2⟩,k3⟩,k4⟩,rfl,rfl⟩:=ht;simp only[S1]at hmx;subst hmx;have e1:=DK hlo hb1 k1 k3;simp only[PR,DC]at hx;obtain⟨u,hu1,hx⟩:=hx;obtain rfl:x=u:=by simpa using hu1
    rcases hx with⟨rfl,rfl|rfl|rfl⟩|⟨bb,off,cap,o,bs,rfl,h1,h2,h3,h5,h4⟩
    ·have e2:=DK hhi hb2 k2 k4;simp only[yh]at e2 k4;refine zj hr (v':=.nils) (by simp only[Dq,hu,show G6 none 0 0=some 0 from rfl,show aM b none=G6 b 0 0 from by cases b<;>rfl,e1,e2,hti,Bv]) ?_;simp[PR,DC]
    ·have e2:=DK hhi hb2 k2 k4;simp only[yh]at e2 k4;refine zj hr (v':=.esl) (by simp only[Dq,hu,show G6 none 0 0=some 0 from rfl,show aM b none=G6 b 0 0 from by cases b<;>rfl,e1,e2,hti,Bv,Pw,wg]) ?_;simp[PR,DC]
    ·have e2:=DK hhi hb2 k2 k4;simp only[yh]at e2 k4;refine zj hr (v':=.es0) (by simp only[Dq,hu,show G6 none 0 0=some 0 from rfl,show aM b none=G6 b 0 0 from by cases b<;>rfl,e1,e2,hti,Bv]) ?_;simp[PR,DC]
    ·have e2:G6 b cap xs.length=some hh:=DK hhi hb2 k2 (yx k4 h1);have hds:=LM (b:=bb) (off:=off) (len:=xs.length) (cap:=cap) (o:=o) (mx:=none) hu hti rfl e2 e1 (fun _=>rfl);have hlen:((xs.drop l).take (Nat.sub hh l)).length=hh-l:=by
      have:Nat.sub hh l=hh-l:=rfl;rw[this];simp;omega
     by_cases hcl:cap=l
     ·have hhl:hh=l:=by omega
      have hemp:(xs.drop l).take (Nat.sub hh l)=[]:=by
       apply List.eq_nil_of_length_eq_zero;rw[hlen];omega
      rw[hemp];by_cases ho:o=0
      ·refine zj hr (v':=.sl bb off (hh-l) (cap-l) 0) ?_ ?_
       ·have:JD none o=0:=ho;rw[hds,this,hcl,yc];rfl
       ·simp only[PR,DC];exact⟨_,rfl,.inr ⟨bb,off,cap-l,0,bs,by simp[hhl],by simp,h2,by simp;omega,.inl rfl,fun i hi=>by simp at hi⟩⟩
      ·refine zj hr (v':=.esl) ?_ ?_
       ·have h1:zh (JD none o) 0=false:=by rw[Bp];simp[JD,ho]
        rw[hds,h1,hcl,yc];rfl
       ·simp[PR,DC]
     ·refine zj hr (v':=.sl bb (off+l*ti.size) (hh-l) (cap-l) o) ?_ ?_
      ·have hb1:zh cap l=false:=by rw[Bp];simp[hcl]
       have ho:(zh (JD none o) 0||zh (JD none o) ti.size)=true:=by
        rcases h5 with rfl|rfl
        ·rfl
        ·rw[hz];show(zh s.sz 0||zh s.sz s.sz)=true;rw[yc,qc]
       rw[hds,hb1,ho];rfl
      ·simp only[PR,DC];refine⟨_,rfl,.inr ⟨bb,off+l*ti.size,cap-l,o,bs,by rw[hlen],by rw[hlen];omega,h2,?_,h5,fun i hi=>?_⟩⟩
       ·rw[hlen,hz];have:(l+(hh-l))*s.sz<=xs.length*s.sz:=zk _ (by omega);rw[zt]at this;omega
       ·rw[hlen]at hi;have hi2:l+i<xs.length:=by omega
        have:=h4 (l+i) hi2;rw[List.getElem_take,List.getElem_drop,hz];rw[zt, <-y8]at this;exact this
  case h_2=>
   rename_i id sz off len cap;cases hz:(zh ti.size sz&&HW (st.obj id))with
   |false=>rw[hz]at ht;simp at ht
   |true=>
    rw[hz]at ht;simp only[zc]at hz;obtain⟨hz,hl⟩:=hz;have hz:=ze hz;simp only[we]at ht;have hno:¬(hi=none/\mx≠none):=by
     rintro⟨rfl,hm⟩;cases mx with
     |none=>exact hm rfl
     |some _=>simp at ht
    split at ht
    case h_1=>simp at ht
    split at ht
    case h_2=>simp at ht
    rename_i c1 l c2 hh c3 m hb1 hb2 hb3;simp only[BI,zc,w5]at ht;obtain⟨⟨⟨⟨⟨⟨⟨k1,k2⟩,k3⟩,k4⟩,k5⟩,k6⟩,k7⟩,rfl,rfl⟩:=ht;have e1:=DK hlo hb1 k1 k4;have e3:=DK hmx hb3 k3 k6;have e2:=DK hhi hb2 k2 k5;have hno':b=none->c=none:=by
     intro hbn;cases hcc:c with
     |none=>rfl
     |some z=>
      exfalso;apply hno;exact⟨hhi.isNone.2 hbn,fun e=>by have:=hmx.isNone.1 e;rw[this]at hcc;cases hcc⟩
    obtain⟨b0,n0,h1⟩:=hr.live hl;simp only[PR]at hx;rcases hx.2 b0 n0 h1 with⟨g1,g2,o,g3,rfl⟩|⟨rfl,rfl,g2,g3⟩
    ·have hds:=LM (b:=b0) (off:=off*sz) (len:=len) (cap:=cap.getD len) (o:=o) hu hti e3 e2 e1 hno';have hoz:JD c o=0\/JD c o=sz:=by
      unfold JD;cases c with
      |none=>exact g3
      |some _=>exact .inl rfl
     by_cases hml:m=l
     ·have hhl:hh-l=0:=by omega
      by_cases ho:JD c o=0
      ·refine zj hr (v':=.sl b0 (off*sz) (hh-l) (m-l) 0) ?_ ?_
       ·rw[hds,ho,hml,yc];rfl
       ·unfold PR;refine⟨hx.1,fun b' n' hb=>.inr ?_⟩;rw[h1]at hb;cases hb;refine⟨hhl,?_,?_,.inr ⟨off*sz,by rw[hhl,hml,yp],zk _ (Nat.le_add_right _ _)⟩⟩
        ·show some (m-l)=some 0;rw[hml,yp]
        ·show off+l<=n0;omega
      ·refine zj hr (v':=.esl) ?_ ?_
       ·have hb0:zh (JD c o) 0=false:=by rw[Bp];simp[ho]
        rw[hds,hb0,hml,yc];rfl
       ·unfold PR;refine⟨hx.1,fun b' n' hb=>.inr ?_⟩;rw[h1]at hb;cases hb;refine⟨hhl,?_,?_,.inl rfl⟩
        ·show some (m-l)=some 0;rw[hml,yp]
        ·show off+l<=n0;omega
     ·refine zj hr (v':=.sl b0 (off*sz+l*ti.size) (hh-l) (m-l) (JD c o)) ?_ ?_
      ·have hb1:zh m l=false:=by rw[Bp];simp[hml]
       have ho:(zh (JD c o) 0||zh (JD c o) ti.size)=true:=by
        rcases hoz with e|e
        ·rw[e];rfl
        ·rw[e,hz,yc,qc]
       rw[hds,hb1,ho];rfl
      ·unfold PR;refine⟨hx.1,fun b' n' hb=>.inl ?_⟩;rw[h1]at hb;cases hb;refine⟨?_,?_,JD c o,hoz,?_⟩
       ·show hh-l<=m-l;omega
       ·show off+l+(m-l)<=n0;omega
       ·show V.sl b0 (off*sz+l*ti.size) (hh-l) (m-l) (JD c o)=.sl b0 ((off+l)*sz) (hh-l) (m-l) (JD c o);rw[hz,zt]
    ·simp only[ym]at k6 k7 e3;obtain rfl:m=0:=by omega
     obtain rfl:hh=0:=by omega
     obtain rfl:l=0:=by omega
     have hc:c=none:=by
      cases mx with
      |none=>exact hmx
      |some _=>simp[has]at k7
     subst hc;rcases g3 with rfl|⟨off',rfl,g4⟩
     ·refine zj hr (v':=.esl) (by simp only[Dq,hu,hti,show G6 none 0 0=some 0 from rfl,show aM b none=G6 b 0 0 from by cases b<;>rfl,e2,e1,Bv,Pw,wg]) ?_;unfold PR;exact⟨hx.1,fun b' n' hb=>.inr ⟨by rfl,by rfl,by rw[h1]at hb;cases hb;exact g2,.inl rfl⟩⟩
     ·refine zj hr (v':=.sl b0 off' 0 0 0) ?_ ?_
      ·rw[LM (mx:=none) hu hti rfl e2 e1 (fun _=>rfl)];rfl
      ·unfold PR;refine⟨hx.1,fun b' n' hb=>.inr ⟨rfl,rfl,?_,.inr ⟨off',?_,?_⟩⟩⟩
       ·rw[h1]at hb;cases hb;exact g2
       ·rw[h1]at hb;cases hb;rfl
       ·show off'<=(off+0)*sz;exact g4
  case h_3=>
   split at ht
   case h_3=>simp at ht
   case h_2=>
    rename_i c1 l c2 hh q hb1 hb2;split at ht
    case h_2=>simp at ht
    rename_i p' c3 m hb3;simp only[BI,zc,w5]at ht;obtain⟨⟨⟨⟨⟨⟨k1,k2⟩,k5⟩,k3⟩,k4⟩,k6⟩,rfl,rfl⟩:=ht;have e1:=DK hlo hb1 k1 k3;have e2:=DK hhi hb2 k2 (show hh<=0 by omega);have e3:=DK hmx hb3 k5 k6;simp only[PR]at hx;subst hx;cases b with
    |none=>simp[S1]at hhi
    |some b=>exact zj hr (v':=.nils) (by simp only[Dq,hu,e3,show aM (some b) c=G6 (some b) 0 0 from by cases c<;>rfl,e2,e1,hti,Bv]) (by simp[PR])
   rename_i c1 l c2 hh hb1 hb2;simp only[BI,zc,w5]at ht;obtain⟨⟨⟨⟨k1,k2⟩,k3⟩,k4⟩,rfl,rfl⟩:=ht;simp only[S1]at hmx;subst hmx;have e1:=DK hlo hb1 k1 k3;have e2:=DK hhi hb2 k2 k4;simp only[PR]at hx;subst hx;exact zj hr (v':=.nils) (by simp only[Dq,hu,show G6 none 0 0=some 0 from rfl,show aM b none=G6 b 0 0 from by cases b<;>rfl,e1,e2,hti,Bv]) (by simp[PR])
theorem pC(hr:SR B h0 F ρ st.nx st.ob h){t:TypeId}{p q:PV}{x y:V}(hx:PR F ρ st.nx p x)(hy:PR F ρ st.nx q y){v:PV}(ht:(fX C.T t p q st).To v st'):
  OK B h0 F ρ st h [] (Bv h (CW C.T t x y)) v st':=fA hr hx.lz hy ht
theorem mL(hr:SR B h0 F ρ st.nx st.ob h){t:TypeId}{p:PV}{x:V}{lo hi mx:Option PV}{a b c:Option V}(hx:PR F ρ st.nx p x)(hlo:S1 F ρ st.nx lo a)(hhi:S1 F ρ st.nx hi b)(hmx:S1 F ρ st.nx mx c)
  {v:PV} (ht:(cO C.T t p lo hi mx st).To v st'):OK B h0 F ρ st h [] (Bv h (Dq C.T t x a b c)) v st':=cT hr hx.lz hlo hhi hmx ht
theorem MR.len{ks vs:Sh}{l:List (ks.T×vs.T)}{es:List (V×V×Nat)}(h:MR F ks vs l es):l.length=es.length:=by
 induction h with
 |nil=>rfl
 |cons _ _ _ ih=>simp[ih]
theorem uN(hr:SR B h0 F ρ st.nx st.ob h){ts:Array TypeId}{ps:List PV}{xs:List V}(hx:Bc F ρ st.nx ps xs){v:PV}(ht:(TP C.T ts ps st).To v st'):OK B h0 F ρ st h [] (Bv h (Fv C.T h ts xs)) v st':=by
 unfold TP at ht;split at ht
 case h_2=>simp at ht
 rename_i t p hts;simp only[Bc]at hx;obtain⟨x,xs',rfl,hx,rfl⟩:=hx;split at ht
 case h_6=>simp at ht
 case h_1=>
  rename_i s hu;simp only[AR]at ht;obtain⟨rfl,rfl⟩:=ht;obtain rfl:=EX hx;exact zj hr (by simp only[Fv,hts,hu,Bv];rfl) (Da _ _)
 case h_2=>
  rename_i s l hu;simp only[AR]at ht;obtain⟨rfl,rfl⟩:=ht;simp only[PR,DC]at hx;obtain⟨u,hu1,hx⟩:=hx;obtain rfl:x=u:=by simpa using hu1
  rcases hx with⟨rfl,rfl|rfl|rfl⟩|⟨b,off,cap,o,bs,rfl,_⟩
  ·exact zj hr (by simp only[Fv,hts,hu,Bv];rfl) (Da _ _)
  ·exact zj hr (by simp only[Fv,hts,hu,Bv];rfl) (Da _ _)
  ·exact zj hr (by simp only[Fv,hts,hu,Bv];rfl) (Da _ _)
  ·exact zj hr (by simp only[Fv,hts,hu,Bv];rfl) (Da _ _)
 case h_3=>
  rename_i id sz off len cap hu;cases hl:HW (st.obj id)with
  |false=>rw[hl]at ht;simp at ht
  |true=>
   rw[hl]at ht;simp only[we,AR]at ht;obtain⟨rfl,rfl⟩:=ht;obtain⟨b,n,h1⟩:=hr.live hl;simp only[PR]at hx;rcases hx.2 b n h1 with⟨_,_,o,_,rfl⟩|⟨rfl,_,_,rfl|⟨_,rfl,_⟩⟩
   ·exact zj hr (by simp only[Fv,hts,hu,Bv];rfl) (Da _ _)
   ·exact zj hr (by simp only[Fv,hts,hu,Bv];rfl) (Da _ _)
   ·exact zj hr (by simp only[Fv,hts,hu,Bv];rfl) (Da _ _)
 case h_4=>
  rename_i hu;simp only[AR]at ht;obtain⟨rfl,rfl⟩:=ht;simp only[PR]at hx;subst hx;exact zj hr (by simp only[Fv,hts,hu,Bv];rfl) (Da _ _)
 case h_5=>
  rename_i id hu;split at ht
  case h_2=>simp at ht
  rename_i ks vs l ho;simp only[AR]at ht;obtain⟨rfl,rfl⟩:=ht;obtain⟨b,n,y,h1,h2,⟨es,clk,rfl,h3⟩,_⟩:=hr.at ho;simp only[PR]at hx;obtain rfl:=hx.2 b n h1;have hl:l.length=es.length:=h3.len;refine zj hr (v':=i64 es.length) (by simp only[Fv,hts,hu,h2,Bv]) ?_;rw[<-hl];exact Da _ _
theorem xD(hr:SR B h0 F ρ st.nx st.ob h){ts:Array TypeId}{ps:List PV}{xs:List V}(hx:Bc F ρ st.nx ps xs){v:PV}(ht:(kF C.T ts ps st).To v st'):OK B h0 F ρ st h [] (Bv h (Fv C.T h ts xs)) v st':=uN hr hx.lz ht
theorem xL(hr:SR B h0 F ρ st.nx st.ob h){f:Int->Int->Int}{g:V->V->Option V}(hg:∀k x y,g (.int k x) (.int k y)=some (.int k (f x y))){ps:List PV}{xs:List V}(hx:Bc F ρ st.nx ps xs){v:PV}
  (ht:(Nk f ps st).To v st'):OK B h0 F ρ st h [] (Bv h (Gq g xs)) v st':=by
 have key:∀(ps:List PV) (xs:List V) (k:IntKind) (x z:Int),Bc F ρ st.nx ps xs->vX f k x ps=some z->dfold g (.int k x) xs=some (.int k z):=by
  intro ps;induction ps with
  |nil=>intro xs k x z hx hz;simp at hx;subst hx;simp only[vX,zn]at hz;subst hz;rfl
  |cons p ps ih=>
   intro xs k x z hx hz;simp only[Bc]at hx;obtain⟨u,us,rfl,h1,h2⟩:=hx;unfold vX at hz;split at hz
   case h_1=>rename_i e;cases e
   case h_2=>
    rename_i e;cases e;rename_i k' y;cases hk:(k==k')with
    |false=>rw[hk]at hz;cases hz
    |true=>
     rw[hk]at hz;have hk:=wj.1 hk;subst hk;obtain rfl:=CA h1;simp only[dfold,hg];exact ih us k _ z h2 hz
   case h_3=>cases hz
 unfold Nk at ht;split at ht
 case h_2=>simp at ht
 rename_i k x ys;split at ht
 case h_2=>simp at ht
 rename_i z hz;simp only[AR]at ht;obtain⟨rfl,rfl⟩:=ht;simp only[Bc]at hx;obtain⟨u,us,rfl,h1,h2⟩:=hx;obtain rfl:=CA h1;exact zj hr (v':=.int k z) (by simp only[Gq,key ys us k x z h2 hz,Bv]) (Da _ _)
theorem OK.new(hr:SR B h0 F ρ st.nx st.ob h){o:Obj}{x:O}{n:Nat}(hf:o.frozen=false)(hx:X2 F (BJ ρ st.nx (some (h.nx,n))) (st.nx+1) n o x){v:PV}{v':V}
  (hv:PR F (BJ ρ st.nx (some (h.nx,n))) (st.nx+1) v v'):OK B h0 F ρ st h [] (E4 (some (v',h.push x))) v (st.push o):=by
 refine⟨v',h.push x,F,_,.inl rfl,hv,hr.push hf hx,Le.new _,rfl,rfl,Nat.le_succ _,fun b hb=>.inl ?_⟩;rw[H.BE,wc (by omega)]
theorem Ks{n:Nat}:PR F (BJ ρ N (some (h.nx,n))) (N+1) (.ptr N 0) (.ptr h.nx 0):=by
 unfold PR;exact⟨ya _,fun b m hb=>by simp[BJ]at hb;rw[hb.1]⟩
theorem rY{F:Fz}:∀ {s:Sh} {v:V},uW s v=true->DC F s s.Ht [v]
 | .bool,.bool b,h=>by
  have:b=false:=by simpa [uW]using h
  subst this;simp[DC,Sh.Ht]
 | .int k,.int k' n,h=>by
  unfold uW at h;rw[zc,w5,w5]at h;obtain⟨rfl,rfl⟩:=h;simp[DC,Sh.Ht]
theorem kG{T:BS}{t:TypeId}{s:Sh}{n:Nat}(h:sC T t=some (s,n)):∃i,T.inf t=some i/\n=i.zero.length/\(∀v∈i.zero,uW s v=true)/\s.sz=1:=by
 unfold sC at h;split at h
 case h_2=>cases h
 rename_i i hu hi;split at h
 case h_2=>cases h
 rename_i s' hs;cases hc:(zo 32 (Det.DB i.zero)&&Det.KS (uW s') i.zero)with
 |false=>rw[hc]at h;cases h
 |true=>
  rw[hc]at h;cases h;rw[zc,E8]at hc;refine⟨i,hi,Cy ..,yb.1 hc.2,?_⟩;unfold zsh at hs;split at hs<;>first|(cases hs;rfl)|cases hs
theorem kQ(hr:SR B h0 F ρ st.nx st.ob h){t:TypeId}{v:PV}(ht:(Rt t C.T st).To v st'):OK B h0 F ρ st h [] (E4 (GD C.T h t)) v st':=by
 unfold Rt iX at ht;split at ht
 case h_1=>
  rename_i s n hz;simp only[AR]at ht;obtain⟨rfl,rfl⟩:=ht;obtain⟨i,hi,rfl,hall,hs⟩:=kG hz;have:GD C.T h t=some (.ptr h.nx 0,h.push (.cells i.zero t (0,0))):=by simp[GD,hi,Ie]
  rw[this];refine OK.new hr (o:=.arr false t s (zq i.zero.length s.Ht)) (n:=i.zero.length) rfl ⟨_,_,rfl,⟨by rw[yd,hs,yq],fun j hj=>?_⟩,zg _,yd ..⟩ Ks;have hj':j<i.zero.length:=by simpa using hj
  have:=hall i.zero[j] (List.getElem_mem hj');rw[List.getElem_replicate,hs,yq,zz hj'];exact rY this
 split at ht
 case h_2=>exact wh ht (by simp)
 rename_i cs hcs;rw[Option.bind_eq_some_iff]at hcs;obtain⟨i,hi,hcs⟩:=hcs;cases hok:KS V.ok i.zero with
 |false=>rw[hok]at hcs;cases hcs
 |true=>
 rw[hok]at hcs;cases hcs;rw[E8]at hok;simp only[AR]at ht;obtain⟨rfl,rfl⟩:=ht;have:GD C.T h t=some (.ptr h.nx 0,h.push (.cells i.zero t (0,0))):=by simp[GD,hi,Ie]
 rw[this];cases pV C.T t with
 |true=>exact OK.new hr (o:=.tbox t (i.zero.map Vq)) (n:=0) rfl ⟨_,_,rfl,Ec _,zg _,fun u hu=>yb.1 hok u hu⟩ Ks
 |false=>exact OK.new hr (o:=.box (i.zero.map Vq)) (n:=0) rfl ⟨_,_,_,rfl,Ec _,zg _,fun u hu=>yb.1 hok u hu⟩ Ks
theorem vG(hr:SR B h0 F ρ st.nx st.ob h){t:TypeId}{p:PV}{x:V}(hx:PR F ρ st.nx p x){cs:List PV}(hcs:vD st p=some cs)(hs:cs.all (JG st)=true):OK B h0 F ρ st h [] (E4 (some (Zf h t x))) (.ptr st.nx 0) (st.push (.box cs)):=
 OK.new hr (o:=.box cs) (n:=0) rfl ⟨_,_,_,rfl,(No hr hx hcs).mono (Le.new _),zg _,fun u hu=>V.Lr (yb.1 (J3 hr hs (No hr hx hcs)) u hu)⟩ Ks
theorem Ja(hr:SR B h0 F ρ st.nx st.ob h){place:Nat->Option (Nat×Nat)}:∀ {l:List (Nat×PV)} {l':List (Nat×V)},sL F ρ st.nx l l'->∀ {cs:List PV} {xs:List V},Bc F ρ st.nx cs xs->∀ {out:List PV},Qt st place cs l=some out->
  ∃ys,H6 place xs l'=some ys/\Bc F ρ st.nx out ys:=by
 intro l l' hl;induction hl with
 |nil=>intro cs xs hx out ho;cases ho;exact⟨xs,rfl,hx⟩
 |@cons i p v l l' hp _ ih=>
  intro cs xs hx out ho;unfold Qt at ho;unfold H6;split at ho
  case h_1=>cases ho
  rename_i off size hpl;split at ho
  case h_2=>cases ho
  rename_i vs hvs;cases hc:(zh (Det.DB vs) size&&zo (Nat.add off size) (Det.DB cs))with
  |false=>rw[hc]at ho;cases ho
  |true=>
   rw[hc]at ho;have hv:=No hr hp hvs;rw[Cy,Cy,hv.len,hx.len]at hc;have hc':(zh v.cells.length size&&zo (off+size) xs.length)=true:=hc;rw[hpl];simp only[hc',we];have:=hv.Ck off hx;rw[IV v.cells]at this;exact ih this ho
theorem kA(hr:SR B h0 F ρ st.nx st.ob h){t:TypeId}{l:List (Nat×PV)}{l':List (Nat×V)}(hl:sL F ρ st.nx l l'){v:PV}(ht:(ov st (Wd C.T st t l)).To v st'):OK B h0 F ρ st h [] (Bv h (JQ C.T t l')) v st':=by
 simp only[Kr]at ht;obtain⟨hb,rfl⟩:=ht;unfold Wd at hb;split at hb
 case h_3=>cases hb
 case h_1=>
  rename_i i fs hi hu;split at hb
  case h_2=>cases hb
  rename_i pl hpl;rw[zp]at hb;obtain⟨out,ho,rfl⟩:=hb;obtain⟨ys,g1,g2⟩:=Ja hr hl (Ec i.zero) ho;exact zj hr (v':=.agg ys) (by simp only[JQ,hi,hu,hpl,g1,zu,Bv]) (by unfold PR;exact⟨_,rfl,g2⟩)
 case h_2=>
  rename_i i nn e hi hu;split at hb
  case h_2=>cases hb
  rename_i j hj;rw[zp]at hb;obtain⟨out,ho,rfl⟩:=hb;obtain⟨ys,g1,g2⟩:=Ja hr hl (Ec i.zero) ho;exact zj hr (v':=.agg ys) (by simp only[JQ,hi,hu,hj,g1,zu,Bv]) (by unfold PR;exact⟨_,rfl,g2⟩)
theorem JX(z:List V):∀n,Bc F ρ N (JP (z.map Vq) n) ((zq n z).flatten)
 |0=>by simp[JP]
 |n+1=>by
  simp only[JP,z7,yr];exact(Ec z).append (JX z n)
theorem Hk(z:List V):∀n,EM z (n*z.length)=(zq n z).flatten:=by
 intro n;apply yt;intro i;unfold EM;by_cases hz:z.length=0
 ·have:z=[]:=zr.1 hz;subst this;have:(zq n ([]:List V)).flatten=[]:=by induction n with|zero=>rfl|succ n ih=>simp[z7]
  rw[this];simp
 ·have hpos:0<z.length:=Nat.pos_of_ne_zero hz;induction n generalizing i with
  |zero=>simp
  |succ n ih=>
   rw[z7,yr];by_cases hi:i<z.length
   ·rw[yf hi,yu,yo (by rw[zx];omega)];simp only[zu,Nat.mod_eq_of_lt hi];simp[List.getD_eq_getElem?_getD,hi]
   ·rw[ye (by omega), <-ih (i-z.length)];rw[yu,yu];by_cases h2:i<(n+1)*z.length
    ·rw[yo h2,yo (by rw[zx]at h2;omega)];simp only[zu];rw[Nat.mod_eq_sub_mod (by omega)]
    ·rw[List.getElem?_eq_none (by simp;omega),List.getElem?_eq_none (by simp;rw[zx]at h2;omega)]
theorem Pd{sz n:Nat}{o:Nat}(ho:o=0\/o=sz):PR F (BJ ρ N (some (h.nx,n))) (N+1) (.sl N sz 0 n none) (.sl h.nx 0 n n o):=by
 unfold PR;refine⟨ya _,fun b m hb=>.inl ?_⟩;simp[BJ]at hb;obtain⟨rfl,rfl⟩:=hb;exact⟨zg _,by show 0+n<=n;omega,o,ho,by rw[zy];rfl⟩
theorem LH{place:Nat->Option (Nat×Nat)}:∀ {l:List (Nat×V)} {xs ys:List V},H6 place xs l=some ys->ys.length=xs.length
 |[],xs,ys,h=>by cases h;rfl
 |(i,v)::l,xs,ys,h=>by
  unfold H6 at h;split at h
  ·cases h
  ·rename_i off size _;cases hc:(zh v.cells.length size&&zo (off+size) xs.length)with
   |false=>rw[hc]at h;cases h
   |true=>
    rw[hc]at h;rw[LH h,Gt]
end
section
variable {B:Nat}{h0:H0}{F:Fz}{ρ:D2}{N:Nat}{C:Ctx}{st st':AK}{fr:Fr}{h h':H}
theorem D1.nil{s:Sh}:D1 F s [] []:=⟨by simp,fun i hi=>by simp at hi⟩
theorem D1.cons{s:Sh}{x:s.T}{l:List s.T}{a b:List V}(ha:DC F s x a)(hb:D1 F s l b):D1 F s (x::l) (a++b):=by
 refine⟨by rw[List.length_append,ha.len,hb.1,List.length_cons,zx];omega,fun i hi=>?_⟩;cases i with
 |zero=>
  simp only[zy,yk,yy];rw[<-ha.len,List.take_left];exact ha
 |succ i=>
  have e:(a++b).drop ((i+1)*s.sz)=b.drop (i*s.sz):=by
   rw[zx,y9,FG, <-ha.len,List.drop_left]
  rw[e];exact hb.2 i (by simpa using hi)
theorem D1.eZ{s:Sh}{x:s.T}{l:List s.T}{cs:List V}(h:D1 F s (x::l) cs):∃a b,cs=a++b/\DC F s x a/\D1 F s l b:=by
 have h0:=h.2 0 (by simp);simp only[zy,yk,yy]at h0;refine⟨cs.take s.sz,cs.drop s.sz,(List.take_append_drop _ _).symm,h0,?_,fun i hi=>?_⟩
 ·rw[List.length_drop,h.1,List.length_cons,zx];omega
 ·have:=h.2 (i+1) (by simpa using hi);rw[<-FG,y9, <-zx];exact this
theorem D1.append{s:Sh}:∀ {l m:List s.T} {a b:List V},D1 F s l a->D1 F s m b->D1 F s (l++m) (a++b)
 |[],m,a,b,h,h'=>by
  have:a=[]:=zr.1 (by rw[h.1];simp);subst this;simpa using h'
 |x::l,m,a,b,h,h'=>by
  obtain⟨c,d,rfl,h1,h2⟩:=h.eZ;rw[List.append_assoc,List.cons_append];exact D1.cons h1 (h2.append h')
theorem D1.replicate{s:Sh}{z:s.T}{c:List V}(hz:DC F s z c):∀n,D1 F s (zq n z) ((zq n c).flatten)
 |0=>D1.nil
 |n+1=>by
  rw[z7,z7,yr];exact D1.cons hz (D1.replicate hz n)
theorem D1.Rb{s:Sh}:∀ {l:List s.T} {a:List V},D1 F s l a->a.all V.one=true
 |[],a,h=>by
  have:a=[]:=zr.1 (by rw[h.1];simp);subst this;rfl
 |x::l,a,h=>by
  obtain⟨c,d,rfl,h1,h2⟩:=h.eZ;rw[List.all_append,h2.Rb,Bool.and_true];exact yb.2 h1.Rb
theorem D1.part{s:Sh}{l:List s.T}{cs:List V}(h:D1 F s l cs){off len:Nat}(hl:off+len<=l.length):D1 F s ((l.drop off).take len) ((cs.drop (off*s.sz)).take (len*s.sz)):=by
 have hle:(off+len)*s.sz<=l.length*s.sz:=zk _ hl;rw[zt]at hle;have h1:=h.1;refine⟨by simp;rw[yi (by omega),yi (by omega)],fun i hi=>?_⟩;have hi':i<len:=by simp at hi;omega
 have hi2:(i+1)*s.sz<=len*s.sz:=zk _ hi';rw[zx]at hi2;rw[List.getElem_take,List.getElem_drop];have:=h.2 (off+i) (by omega);have e:(((cs.drop (off*s.sz)).take (len*s.sz)).drop (i*s.sz)).take s.sz=(cs.drop ((off+i)*s.sz)).take s.sz:=by
  rw[List.drop_take,List.take_take,List.drop_drop,zt,yi (by omega)]
 rw[e];exact this
theorem rR(hr:SR B h0 F ρ st.nx st.ob h){t:TypeId}{p q:PV}{x y:V}(hx:PR F ρ st.nx p x)(hy:PR F ρ st.nx q y){v:PV}(ht:(eJ C.T t p q st).To v st'):OK B h0 F ρ st h [] (E4 (NS C.T h t x y)) v st':=by
 unfold eJ at ht;split at ht
 case h_2=>simp at ht
 rename_i e k l k' c hu;obtain rfl:=CA hx;obtain rfl:=CA hy;split at ht
 case h_2=>simp at ht
 rename_i i s hi hs;cases hc:(zw 0 i.zero.length&&zh i.zero.length i.size&&zh i.size s.sz)with
 |false=>rw[hc]at ht;simp at ht
 |true=>
  rw[hc]at ht;simp only[zc]at hc;obtain⟨⟨c2,c3⟩,c4⟩:=hc;simp only[we]at ht;split at ht
  case h_2=>simp at ht
  rename_i z hz;simp only[BI,zc,w5]at ht;obtain⟨⟨⟨⟨k1,k2⟩,k3⟩,k4⟩,rfl,rfl⟩:=ht;have k2':l=c:=k2;subst k2';obtain⟨n,rfl,hn⟩:=DA k1;rw[hn]at k3 ⊢;have e3:=ze c3;have e4:=ze c4;have hd:NS C.T h t (.int k (z8 n)) (.int k' (z8 n))=some (.sl h.nx 0 n n 0,h.push (.cells (EM i.zero (n*i.size)) e (0,0))):=by
   have a1:zo n n=true:=zl (zg _);have a2:zw n 9223372036854775808=true:=Dv (by have:(z8 n:Int)<9223372036854775808:=k4;simp at this;omega);have a3:zo (i.bytes*n) 281474976710656=true:=zl k3;simp only[NS,hu,hi,a1,a2,a3,c2,c3,yv,we,Ie]
  rw[hd];have hzc:=CN (Ec (F:=F) (ρ:=ρ) (N:=st.nx) i.zero) hz;have hcells:D1 F s (zq n z) (EM i.zero (n*i.size)):=by
   rw[<-e3,Hk];exact D1.replicate hzc n
  exact OK.new hr (o:=.arr false e s (zq n z)) (n:=n) rfl ⟨_,_,rfl,hcells,zg _,by simp⟩ (Pd (.inl rfl))
theorem WA(hr:SR B h0 F ρ st.nx st.ob h){s:Sh}{p:PV}{x:V}(hx:PR F ρ st.nx p x){c:Bool}{l:List s.T}(hd:M6 st s p=some (c,l))(hc:c=true):
  O8 x=some l.length/\(s.sz=1\/OB x=true)/\∃cs,src h s.sz x l.length=some cs/\D1 F s l cs:=by
 unfold M6 at hd;split at hd
 case h_1=>
  cases hd;simp only[PR]at hx;subst hx;exact⟨rfl,.inr rfl,[],rfl,D1.nil⟩
 case h_2=>
  rename_i s' l';rw[zp]at hd;obtain⟨r,h1,h2⟩:=hd;obtain⟨e,he⟩:=CE h1;have e':s'=s:=by cases e;rfl
  subst e';have:r=l':=by have:=he;cases this;rfl
  subst this;cases h2;simp only[PR,DC]at hx;obtain⟨u,hu1,hx⟩:=hx;obtain rfl:x=u:=by simpa using hu1
  rcases hx with⟨rfl,rfl|rfl|rfl⟩|⟨b,off,cap,o,bs,rfl,g1,g2,g3,g5,g4⟩
  ·exact⟨rfl,.inr rfl,[],rfl,D1.nil⟩
  ·exact⟨rfl,.inr rfl,[],rfl,D1.nil⟩
  ·exact⟨rfl,.inr rfl,[],rfl,D1.nil⟩
  ·obtain⟨te,fz,hg⟩:=hr.frz b bs g2;suffices hD:D1 F s' l ((bs.drop off).take (l.length*s'.sz))from⟨rfl,.inr rfl,_,rd_some hg g3 hD.ok,hD⟩
   refine⟨?_,fun i hi=>?_⟩
   ·simp;rw[yi (by omega)]
   ·have hi2:(i+1)*s'.sz<=l.length*s'.sz:=zk _ hi;rw[zx]at hi2;have e:(((bs.drop off).take (l.length*s'.sz)).drop (i*s'.sz)).take s'.sz=(bs.drop (off+i*s'.sz)).take s'.sz:=by
     rw[List.drop_take,List.take_take,List.drop_drop,yi (by omega)]
    rw[e];exact g4 i hi
 case h_3=>
  rename_i id sz off len cap;split at hd
  case h_2=>cases hd
  rename_i fzb te s' l' ho;cases hz:zh sz s'.sz with
  |false=>rw[hz]at hd;cases hd
  |true=>
   rw[hz]at hd;have hz:=ze hz;simp only[we,zp]at hd;obtain⟨r,h1,h2⟩:=hd;obtain⟨e,he⟩:=CE h1;have e':s'=s:=by cases e;rfl
   subst e';have:r=l':=by have:=he;cases this;rfl
   subst this;cases h2;simp only[w5]at hc;obtain⟨b,n,y,g1,g2,⟨cs,fz,rfl,g3,g4,g5⟩,_⟩:=hr.at ho;simp only[PR]at hx;have hlen:((r.drop off).take len).length=len:=by simp;omega
   have hle:(off+len)*s'.sz<=r.length*s'.sz:=zk _ hc;rw[zt]at hle;rw[hlen];rcases hx.2 b n g1 with⟨_,_,o,_,rfl⟩|⟨rfl,_,hof,rfl|⟨off',rfl,hoff⟩⟩
   ·refine⟨rfl,.inr rfl,_,rd_some g2 ?_ ?_,?_⟩
    ·rw[hz,g3.1];exact hle
    ·rw[hz];exact(g3.part hc).ok
    ·rw[hz];exact g3.part hc
   ·refine⟨rfl,.inr rfl,[],rfl,?_⟩;simpa using D1.nil
   ·refine⟨rfl,.inr rfl,_,rd_some g2 ?_ ?_,?_⟩
    ·rw[hz]at hoff;rw[g3.1];simp at hle ⊢;omega
    ·simp
    ·simp;exact D1.nil
 case h_5=>cases hd
 case h_4=>
  rename_i t;rw[zp]at hd;obtain⟨r,h1,h2⟩:=hd;obtain⟨e,he⟩:=CE h1;have e':s=.int .u8:=by cases e;rfl
  subst e';have:r=List.map (fun b:UInt8=>(b.toNat:Int)) t:=by have:=he;cases this;rfl
  subst this;cases h2;obtain rfl:=EX hx;refine⟨by simp[O8],.inl rfl,_,rfl,?_⟩;rw[y7,List.take_length];refine⟨by simp[Sh.sz],fun j hj=>?_⟩;have hj':j<t.length:=by simpa using hj
  have e1:((t.map fun b=>qd .u8 (b.toNat:Int)).drop (j*1)).take 1=[qd .u8 ((t[j]).toNat:Int)]:=by
   rw[yq,zz (by simpa using hj')];simp
  show DC _ (.int .u8) _ (((t.map fun b=>qd .u8 (b.toNat:Int)).drop (j*1)).take 1);rw[e1];simp[DC]
theorem YO(hr:SR B h0 F ρ st.nx st.ob h){s:Sh}{p:PV}{x:V}(hx:PR F ρ st.nx p x){c:Bool}{l:List s.T}(hd:Po st s p=some (c,l))(hc:c=true):
  O8 x=some l.length/\(s.sz=1\/OB x=true)/\∃cs,src h s.sz x l.length=some cs/\D1 F s l cs:=WA hr hx.lz hd hc
theorem SR.congr(hr:SR B h0 F ρ N st.ob h)(hg:∀c,h'.get c=h.get c)(hn:h'.nx=h.nx):SR B h0 F ρ N st.ob h':=
 ⟨fun id o ho=>by obtain⟨b,n,x,h1,h2,h3⟩:=hr.obj id o ho;exact⟨b,n,x,h1,(hg b).trans h2,h3⟩,hr.inj,fun b cs hb=>by obtain⟨t,fz,h1⟩:=hr.frz b cs hb;exact⟨t,fz,(hg b).trans h1⟩,hr.own,hr.dead,
  fun b hb he=>(hg b).trans (hr.old b hb he),fun b o hb=>by rw[hn];exact hr.lt b o ((hg b).symm.trans hb),by rw[hn];exact hr.le,hr.fo,hr.gl,fun c hc=>by obtain⟨g1,g2,g3⟩:=hr.pn c hc;exact⟨(hg c).trans g1,g2,g3⟩⟩
theorem SR.eF{ob:Ob}(hr:SR B h0 F ρ N ob h){o:Obj}{x:O}{b n:Nat}(hg:h.get b=some x)(hfree:∀id o m,AO ob id=some o->ρ id≠some (b,m))(hF:F b=none)(hB:h0.Zo B b)(hP:b∉h0.pin)(hf:o.frozen=false)
  (hx:X2 F (BJ ρ N (some (b,n))) (N+1) n o x):SR B h0 F (BJ ρ N (some (b,n))) (N+1) ((N,o)::ob) h:=by
 have hl:Le F ρ N F (BJ ρ N (some (b,n))) (N+1):=Le.new _;have hget:∀j,AO ((N,o)::ob) j=if j=N then some o else AO ob j:=by
  intro j;simp only[AO,Bp];by_cases e:N=j
  ·subst e;simp
  ·rw[wc (fun h=>e h.symm)];simp[e]
 refine⟨fun j oj hj=>?_,fun i j oi oj c m m' hi hj h1 h2=>?_,hr.frz,fun id c m hb=>?_,fun j hj=>?_,hr.old,hr.lt,hr.le,hr.fo,hr.gl,fun c hc=>?_⟩
 ·rw[hget]at hj;by_cases e:j=N
  ·subst e;simp only[wk,zn]at hj;subst hj;exact⟨b,n,x,by simp[BJ],hg,hx,fun _=>hF,fun e=>by rw[hf]at e;cases e⟩
  ·rw[wc e]at hj;obtain⟨c,m,y,h1,h2,h3,h4⟩:=hr.obj j oj hj;exact⟨c,m,y,by simp[BJ,e,h1],h2,h3.mono hl,h4⟩
 ·rw[hget]at hi hj;have key:∀k ok m,(if k=N then some o else AO ob k)=some ok->BJ ρ N (some (b,n)) k=some (c,m)->(k=N/\c=b)\/(k≠N/\AO ob k=some ok/\ρ k=some (c,m)/\c≠b):=by
   intro k ok m hk hr';by_cases e:k=N
   ·subst e;simp[BJ]at hr';exact .inl ⟨rfl,hr'.1.symm⟩
   ·rw[wc e]at hk;simp only[BJ,e,ve]at hr';exact .inr ⟨e,hk,hr',fun ec=>hfree k ok m hk (ec▸hr')⟩
  rcases key i oi m hi h1 with⟨e1,e2⟩|⟨e1,e2,e3,e4⟩<;>rcases key j oj m' hj h2 with⟨f1,f2⟩|⟨f1,f2,f3,f4⟩
  ·rw[e1,f1]
  ·exact wh e2 f4
  ·exact wh f2 e4
  ·exact hr.inj i j oi oj c m m' e2 f2 e3 f3
 ·unfold BJ at hb;split at hb
  ·rename_i e;cases hb;subst e;exact⟨ya _,hB⟩
  ·have:=hr.own id c m hb;exact⟨by omega,this.2⟩
 ·rw[hget]at hj;by_cases e:j=N
  ·rw[wd e]at hj;cases hj
  ·rw[wc e]at hj;simp[BJ,e,hr.dead j hj]
 ·obtain⟨g1,g2,g3⟩:=hr.pn c hc;refine⟨g1,g2,fun id m e=>?_⟩;unfold BJ at e;split at e
  ·cases e;exact hP hc
  ·exact g3 id m e
theorem PQ{off:Nat}{cs:List V}(h:off<=cs.length):Ck off [] cs=cs:=by
 apply yt;intro j;rw[GR (by simpa using h)];rw[wc (by simp)]
theorem Uj{off:Nat}{vs cs:List V}(h:off+vs.length<=cs.length):Ck off vs cs=cs.take off++(vs++cs.drop (off+vs.length)):=by
 apply yt;intro j;rw[GR h];by_cases h1:j<off
 ·rw[wc (by omega),yf (by simp;omega),List.getElem?_take_of_lt h1]
 ·rw[ye (by simp;omega)];have hm:(cs.take off).length=off:=by simp;omega
  rw[hm];by_cases h2:j<off+vs.length
  ·rw[wd ⟨by omega,h2⟩,yf (by omega)]
  ·rw[wc (by omega),ye (by omega),List.getElem?_drop];congr 1;omega
theorem D1.eG{s:Sh}{l new:List s.T}{cs ns:List V}{a:Nat}(h:D1 F s l cs)(hn:D1 F s new ns)(ha:a+new.length<=l.length):
  D1 F s (l.take a++(new++l.drop (a+new.length))) (Ck (a*s.sz) ns cs):=by
 have h1:=h.1;have h2:=hn.1;have hle:(a+new.length)*s.sz<=l.length*s.sz:=zk _ ha;rw[Uj (by rw[h2, <-zt,h1];exact hle)];have p1:=h.part (off:=0) (len:=a) (by omega);have p2:=h.part (off:=a+new.length) (len:=l.length-(a+new.length)) (by omega);rw[zy,yk,yk]at p1;rw[yz (by simp),yz (by rw[List.length_drop,h1, <-Nat.sub_mul];exact zg _)]at p2;rw[h2, <-zt];exact p1.append (hn.append p2)
def Fi:List PV->List Nat
 | .sl id _ _ _ _::_=>[id]
 |_=>[]
theorem Ze{s s':Sh}{x:s'.T}{c:Bool}{l:List s.T}(hd:Po st s (.dat s' x)=some (c,l)):c=true:=by
 unfold Po at hd;cases s' with
 |list a=>
  have hd:(DU (.list a) (.list s) x).map (fun r=>(true,r))=some (c,l):=hd;rw[zp]at hd;obtain⟨r,_,e⟩:=hd;cases e;rfl
 |nlist a=>
  have hd:(DU (.list a) (.list s) x).map (fun r=>(true,r))=some (c,l):=hd;rw[zp]at hd;obtain⟨r,_,e⟩:=hd;cases e;rfl
 |str=>
  have hd:(DU (.list (.int .u8)) (.list s) (List.map (fun b:UInt8=>(b.toNat:Int)) x)).map (fun r=>(true,r))=some (c,l):=hd;rw[zp]at hd;obtain⟨r,_,e⟩:=hd;cases e;rfl
 |_=>cases hd
theorem cE(hr:SR B h0 F ρ st.nx st.ob h){ts:Array TypeId}{ps:List PV}{xs:List V}(hx:Bc F ρ st.nx ps xs){v:PV}(ht:(RS C.T ts ps st).To v st'):OK B h0 F ρ st h (Fi ps) (E4 (Gg C.T h ts xs)) v st':=by
 unfold RS at ht;split at ht
 case h_2=>simp at ht
 rename_i t tx p q hts htx;simp only[Bc]at hx;obtain⟨x,_,rfl,hx,y,_,rfl,hy,rfl⟩:=hx;split at ht
 case h_2=>simp at ht
 rename_i e ex hu hux;have hss:SF ex=true:=by
  cases hq:SF ex with
  |true=>rfl
  |false=>rw[hq]at ht;simp at ht
 rw[hss]at ht;simp only[we]at ht;split at ht
 case h_2=>simp at ht
 rename_i i s hi hs;cases hc:(zw 0 i.bytes&&zw 0 i.size&&zh i.zero.length i.size&&zh i.size s.sz)with
 |false=>rw[hc]at ht;simp at ht
 |true=>
  rw[hc]at ht;simp only[zc]at hc;obtain⟨⟨⟨c1,c2⟩,c3⟩,c4⟩:=hc;have e4:=ze c4;simp only[we]at ht;split at ht
  case h_2=>simp at ht
  rename_i c new hel;have head:c=true->∃cs,src h i.size y new.length=some cs/\D1 F s new cs/\Gg C.T h ts [x,y]=(match x with
      | .nils=>bif zh new.length 0 then some (.nils,h)
       else bif zo ((2*new.length+1000)*i.bytes) 281474976710656 then some (.sl h.nx 0 new.length new.length i.size,Ie h e cs)else none
      | .es0=>bif zh new.length 0 then some (.es0,h)
       else bif zo ((2*new.length+1000)*i.bytes) 281474976710656 then some (.sl h.nx 0 new.length new.length i.size,Ie h e cs)else none
      | .esl=>bif zh new.length 0 then some (.esl,h)else none
      | .sl b off len cap o=>
       bif zo (len+new.length) cap then(wr h b (off+len*i.size) cs).map fun h'=>(.sl b off (len+new.length) cap o,h')
       else bif zo ((2*(len+new.length)+1000)*i.bytes) 281474976710656 then
        match src h i.size x len with
        |some old=>
         bif zh o 0 then some (.sl h.nx 0 (len+new.length) (len+new.length) i.size,Ie h e (old++cs))
         else
          match h.get b with
          |some (.cells _ te fz)=>
           bif zh off 0&&zh o i.size&&zh te e&&zo fz.2 fz.1&&cs.all V.one then some (.sl h.nx 0 (len+new.length) (len+new.length) i.size,(h.kill b).push (.cells (old++cs) e (0,0)))
           else none
          |_=>none
        |none=>none
       else none
      |_=>none):=by
   intro hc;obtain⟨g1,g2,cs,g3,g4⟩:=YO hr hy hel hc;rw[<-e4]at g3;refine⟨cs,g3,g4,?_⟩;have hcond:(zw 0 i.bytes&&zw 0 i.size&&zh i.zero.length i.size&&(zh i.size 1||OB y))=true:=by
    rw[c1,c2,c3];rcases g2 with g2|g2
    ·rw[e4,g2];rfl
    ·rw[g2,qc];rfl
   have hint:isInt ex=false:=by cases ex<;>first|rfl|cases hss
   simp only[Gg,hts,htx,hu,hux,g1,hi,hint,hcond,we,g3];cases x<;>rfl
  split at ht
  case h_3=>simp at ht
  case h_1=>
   simp only[PR]at hx;subst hx;have grow:c=true->0<new.length->(2*new.length+1000)*i.bytes<=uU->OK B h0 F ρ st h (Fi [PV.nil,q]) (E4 (Gg C.T h ts [.nils,y])) (.sl st.nx s.sz 0 new.length none) (st.push (.arr false e s new)):=by
    intro k1 k2 k3;obtain⟨cs,g1,g2,g3⟩:=head k1;have b1:zh new.length 0=false:=by rw[Bp];simp;intro e;rw[e]at k2;simp at k2
    have b2:zo ((2*new.length+1000)*i.bytes) 281474976710656=true:=zl k3;rw[g3];simp only[b1,b2,wg,we];exact OK.new hr (o:=.arr false e s new) (n:=new.length) rfl ⟨_,_,rfl,g2,zg _,rfl⟩ (Pd (.inr e4))
   have same:c=true->new.length=0->OK B h0 F ρ st h (Fi [PV.nil,q]) (E4 (Gg C.T h ts [.nils,y])) .nil st:=by
    intro k1 k2;obtain⟨cs,g1,g2,g3⟩:=head k1;have b1:zh new.length 0=true:=by rw[k2];rfl
    rw[g3];simp only[b1,we];exact⟨.nils,h,F,ρ,.inl rfl,by simp[PR],hr,yj,rfl,rfl,zg _,fun _ _=>.inl rfl⟩
   split at ht
   case h_1=>
    simp only[AR]at ht;obtain⟨rfl,rfl⟩:=ht;simp only[Po,M6,lz,zn,yg]at hel;obtain⟨rfl,rfl⟩:=hel;exact same rfl rfl
   case h_2=>
    have hc':c=true:=by
     exact Ze hel
    by_cases hn:0<new.length
    ·rw[w4 hn]at ht;cases ht with
     |tt ht=>
      simp only[BI,zc,w5]at ht;obtain⟨⟨k1,k3⟩,rfl,rfl⟩:=ht;exact grow k1 hn k3
    ·rw[w8 hn]at ht;cases ht with
     |ff ht=>
      simp only[AR]at ht;obtain⟨rfl,rfl⟩:=ht;exact same hc' (by omega)
   case h_3=>
    by_cases hn:0<new.length
    ·rw[w4 hn]at ht;cases ht with
     |tt ht=>
      simp only[BI,zc,w5]at ht;obtain⟨⟨k1,k3⟩,rfl,rfl⟩:=ht;exact grow k1 hn k3
    ·rw[w8 hn]at ht;cases ht with
     |ff ht=>
      simp only[BI]at ht;obtain⟨k1,rfl,rfl⟩:=ht;exact same k1 (by omega)
   case h_4=>
    simp only[BI,zc,w5]at ht;obtain⟨⟨⟨k1,k2⟩,k3⟩,rfl,rfl⟩:=ht;exact grow k1 k2 k3
  case h_2=>
   rename_i id sz off len cap;split at ht
   case h_2=>simp at ht
   rename_i e' s' l ho;split at ht
   case h_2=>simp at ht
   rename_i l' hl';obtain⟨ecast,hcast⟩:=CE hl';have es:s'=s:=by cases ecast;rfl
   subst es;have:l'=l:=by have:=hcast;cases this;rfl
   subst this;cases hcc:(zh e e'&&zh sz s'.sz)with
   |false=>rw[hcc]at ht;simp at ht
   |true=>
    rw[hcc]at ht;simp only[zc]at hcc;have ee:=ze hcc.1;have esz:=ze hcc.2;subst ee;subst esz;simp only[we]at ht;split at ht
    case h_2=>
     rename_i k;simp only[BI,zc,w5]at ht;obtain⟨⟨⟨k1,k2⟩,k3⟩,rfl,rfl⟩:=ht;obtain⟨cs,g1,g2,g3⟩:=head k1;obtain⟨b,n,z,h1,h2,⟨bs,fz,rfl,h3,h4,h5⟩,h6,_⟩:=hr.at ho;simp only[PR]at hx;rw[g3];have hone:cs.all V.one=true:=g2.Rb;have hcl:cs.length=new.length*s'.sz:=g2.1;have hbl:=h3.1;have hle:(off+len+new.length)*s'.sz<=l'.length*s'.sz:=zk _ (by omega);have hexp:(off+len+new.length)*s'.sz=off*s'.sz+len*s'.sz+new.length*s'.sz:=by rw[zt,zt]
     have hsp:=D1.eG h3 g2 (a:=off+len) (by omega);have hlen:(l'.take (off+len)++(new++l'.drop (off+len+new.length))).length=l'.length:=by simp;omega
     rcases hx.2 b n h1 with⟨_,g6,o,g5,rfl⟩|⟨e0,ek,g6,g7⟩
     ·simp only[ym]at g6;have hw:wr h b (off*s'.sz+len*i.size) cs=some (h.put b (.cells (Ck ((off+len)*s'.sz) cs bs) e fz)):=by
       rw[MD h2 (by rw[e4,hcl,hbl];omega) h4 hone,e4, <-zt]
      have b1:zo (len+new.length) k=true:=zl k2;refine⟨.sl b (off*s'.sz) (len+new.length) k o,h.put b (.cells (Ck ((off+len)*s'.sz) cs bs) e fz),F,ρ,.inl ?_,?_,hr.set ho h1 h2 rfl rfl (o':=.arr false e s' _) ⟨_,fz,rfl,hsp,h4,hlen.trans h5⟩,yj,rfl,rfl,zg _,fun c _=>?_⟩
      ·simp only[ym,b1,we,hw,zu,E4]
      ·simp only[PR];refine⟨hx.1,fun b' n' hb'=>.inl ?_⟩;rw[h1]at hb';cases hb';exact⟨by simpa using k2,by simpa using g6,o,g5,rfl⟩
      ·rw[H.Bm];by_cases e:c=b
       ·exact .inr ⟨id,by simp[Fi],n,e▸h1⟩
       ·rw[wc e];exact .inl rfl
     ·cases ek;subst e0;have hn0:new.length=0:=by omega
      have hnil:new=[]:=zr.1 hn0;subst hnil;have hcs:cs=[]:=zr.1 (by rw[hcl];simp);subst hcs;have hlp:Ck ((off+0)*s'.sz) [] bs=bs:=PQ (by rw[hbl];have:=zk s'.sz (show off+0<=l'.length by omega);exact this);have hput:∀c,(h.put b (.cells (Ck ((off+0)*s'.sz) [] bs) e fz)).get c=h.get c:=by
       intro c;rw[hlp,H.Bm];by_cases e:c=b
       ·rw[wd e,e,h2]
       ·rw[wc e]
      have hset:=hr.set ho h1 h2 rfl rfl (o':=.arr false e s' _) (x':=.cells (Ck ((off+0)*s'.sz) [] bs) e fz) ⟨_,fz,rfl,hsp,h4,hlen.trans h5⟩;have hset':SR B h0 F ρ st.nx (Dx st.ob id (.arr false e s' (l'.take (off+0)++([]++l'.drop (off+0+0))))) h:=
       SR.congr (st:=⟨st.n,st.fr,Dx st.ob id _,st.nx⟩) hset (fun c=>(hput c).symm) rfl
      have hpr:∀w,(w=.esl\/∃off',w=.sl b off' 0 0 0/\off'<=off*s'.sz)->PR F ρ st.nx (.sl id s'.sz off (Nat.add 0 0) (some 0)) w:=by
       intro w hw;simp only[PR];refine⟨hx.1,fun b' n' hb'=>.inr ?_⟩;rw[h1]at hb';cases hb';exact⟨by simp,by simp,g6,hw⟩
      rcases g7 with rfl|⟨off',rfl,hoff'⟩
      ·exact⟨.esl,h,F,ρ,.inl rfl,hpr _ (.inl rfl),hset',yj,rfl,rfl,zg _,fun _ _=>.inl rfl⟩
      ·have hob:off'<=bs.length:=by
        have h7:off*s'.sz<=l'.length*s'.sz:=zk _ (by omega);omega
       have hw:wr h b (off'+0*i.size) []=some (h.put b (.cells (Ck (off'+0*i.size) [] bs) e fz)):=MD h2 (by simpa using hob) h4 rfl;have hput2:∀c,(h.put b (.cells (Ck (off'+0*i.size) [] bs) e fz)).get c=h.get c:=by
        intro c;rw[PQ (by simpa using hob),H.Bm];by_cases e:c=b
        ·rw[wd e,e,h2]
        ·rw[wc e]
       refine⟨.sl b off' 0 0 0,h.put b (.cells (Ck (off'+0*i.size) [] bs) e fz),F,ρ,.inl ?_,hpr _ (.inr ⟨off',rfl,hoff'⟩),SR.congr (st:=⟨st.n,st.fr,Dx st.ob id _,st.nx⟩) hset' hput2 rfl,yj,rfl,rfl,zg _,fun c _=>.inl (hput2 c)⟩;simp only[yh,Nat.add_zero,show zo 0 0=true from rfl,we,hw,zu,E4]
    simp only[BI,zc,w5]at ht;obtain⟨⟨⟨⟨k1,k2⟩,k3⟩,k4⟩,rfl,rfl⟩:=ht;subst k2;obtain⟨cs,g1,g2,g3⟩:=head k1;obtain⟨b,n,z,h1,h2,⟨bs,fz,rfl,h3,h4,h5⟩,h6,_⟩:=hr.at ho;have hFb:=h6 rfl;simp only[PR]at hx;have hB:=(hr.own id b n h1).2;have hPb:b∉h0.pin:=fun hp=>(hr.pn b hp).2.2 id n h1
    have hidN:=(hr.own id b n h1).1;obtain⟨_,_,o,g5,rfl⟩:len<=len/\0+len<=n/\∃o,(o=0\/o=s'.sz)/\x=.sl b (0*s'.sz) len len o:=by
     rcases hx.2 b n h1 with g|⟨_,e,_⟩
     ·exact g
     ·cases e
    have hbl:bs.length=len*i.size:=by rw[h3.1,k3,e4]
    have hfree:∀j oj m,AO (F8 st.ob id) j=some oj->BJ ρ id none j≠some (b,m):=by
     intro j oj m hj hjr;rw[DZ]at hj;split at hj
     ·cases hj
     ·rename_i hne;simp only[BJ,hne,ve]at hjr;exact hne (hr.inj j id oj _ b m n hj ho hjr h1)
    have hdel:=hr.del id;have hle1:Le F ρ st.nx F (BJ ρ id none) st.nx:=Le.M8 id;have hnew:D1 F s' (l'++new) (bs++cs):=h3.append g2;have hlen:(l'++new).length=len+new.length:=by rw[List.length_append, <-k3]
    have hone:cs.all V.one=true:=g2.Rb;rw[g3];simp only;by_cases hn:new.length=0
    ·
     have hnil:new=[]:=zr.1 hn;have hcs:cs=[]:=zr.1 (by rw[g2.1,hn,zy]);subst hcs;have b1:zo (len+new.length) len=true:=zl (by omega);have hw:wr h b (0*s'.sz+len*i.size) []=some (h.put b (.cells (Ck (0*s'.sz+len*i.size) [] bs) e fz)):=MD h2 (by rw[hbl];simp) h4 rfl;have hput:∀c,(h.put b (.cells (Ck (0*s'.sz+len*i.size) [] bs) e fz)).get c=h.get c:=by
      intro c;rw[PQ (by rw[hbl];simp),H.Bm];by_cases e:c=b
      ·rw[wd e,e,h2]
      ·rw[wc e]
     refine⟨.sl b (0*s'.sz) (len+new.length) len o,h.put b (.cells (Ck (0*s'.sz+len*i.size) [] bs) e fz),F,BJ (BJ ρ id none) st.nx (some (b,n)),.inl ?_,?_,?_,hle1.trans (Le.new _),rfl,rfl,zg _,fun c _=>.inl (hput c)⟩
     ·simp only[b1,we,hw,zu,E4]
     ·unfold PR;refine⟨ya _,fun b' n' hb=>.inl ?_⟩;simp[BJ]at hb;obtain⟨rfl,rfl⟩:=hb;refine⟨zg _,?_,o,g5,?_⟩
      ·show 0+(len+new.length)<=n;omega
      ·show V.sl b (0*s'.sz) (len+new.length) len o=.sl b (0*s'.sz) (len+new.length) (len+new.length) o;rw[hn];rfl
     ·refine SR.eF (ob:=F8 st.ob id) ?_ (x:=.cells bs e fz) ((hput b).trans h2) hfree hFb hB hPb rfl ⟨bs,fz,rfl,?_,h4,?_⟩
      ·exact SR.congr (st:=⟨st.n,st.fr,F8 st.ob id,st.nx⟩) hdel hput rfl
      ·rw[hnil,List.append_nil];exact h3
      ·rw[hnil,List.append_nil];exact h5
    ·
     have b1:zo (len+new.length) len=false:=by
      cases hb:zo (len+new.length) len with
      |false=>rfl
      |true=>have:=Nat.le_of_ble_eq_true hb;omega
     have b2:zo ((2*(len+new.length)+1000)*i.bytes) 281474976710656=true:=zl k4;have hsrc:src h i.size (.sl b (0*s'.sz) len len o) len=some bs:=by
      show rd h b (0*s'.sz) (len*i.size)=_;rw[rd_some h2 (by rw[hbl,zy];omega) (fun u hu=>h3.ok u (List.mem_of_mem_drop (List.mem_of_mem_take hu)))];rw[zy,yk, <-hbl,List.take_length]
     simp only[b1,b2,wg,we,hsrc];have fin:∀ {h1':H},SR B h0 F (BJ ρ id none) st.nx (F8 st.ob id) h1'->h1'.nx=h.nx->(∀c,c≠b->h1'.get c=h.get c)->
       OK B h0 F ρ st h [id] (E4 (some (.sl h.nx 0 (len+new.length) (len+new.length) i.size,h1'.push (.cells (bs++cs) e (0,0))))) (.sl st.nx s'.sz 0 (Nat.add len new.length) none) ((st.PJ id).push (.arr false e s' (l'++new))):=by
      intro h1' hr1 hnx hg;have hp:=hr1.push (o:=.arr false e s' (l'++new)) (x:=.cells (bs++cs) e (0,0)) (n:=len+new.length) rfl ⟨_,_,rfl,hnew,zg _,hlen⟩;refine⟨_,_,F,_,.inl rfl,?_,hp,hle1.trans (Le.new _),rfl,rfl,by show h.nx<=h1'.nx+1;omega,fun c hc=>?_⟩
      ·rw[<-hnx];exact Pd (.inr e4)
      ·rw[H.BE,wc (by omega)];by_cases e:c=b
       ·exact .inr ⟨id,zm.2 rfl,n,e▸h1⟩
       ·exact .inl (hg c e)
     rcases g5 with rfl|rfl
     ·simp only[yc,we];exact fin hdel rfl (fun _ _=>rfl)
     ·have b3:zh s'.sz 0=false:=by
       rw[<-e4];cases hb:zh i.size 0 with
       |false=>rfl
       |true=>have:=ze hb;rw[this]at c2;cases c2
      have b4:(zh (0*s'.sz) 0&&zh s'.sz i.size&&zh e e&&zo fz.2 fz.1&&cs.all V.one)=true:=by
       rw[zy,e4,hone,zl h4];simp
      simp only[b3,wg,h2,b4,we];exact fin (hdel.kill hfree hFb hB hPb) rfl (fun c hc=>by rw[H.B2,wc hc])
theorem ET:∀ {s:Sh} {x:s.T} {v:V},DV F s x v->PR F ρ N (Cb s x) v
 | .pair a b,x,v,h=>by obtain⟨cs,rfl,h1⟩:=h.1 rfl;unfold Cb PR;exact⟨cs,rfl,CT h1⟩
 | .unit,x,v,h=>by obtain⟨cs,rfl,h1⟩:=h.1 rfl;simp only[DC]at h1;subst h1;unfold Cb PR;exact⟨[],rfl,by simp⟩
 | .int _,x,v,h=>by have:=h.2 rfl;unfold Cb PR;exact this
 | .bool,x,v,h=>by have:=h.2 rfl;unfold Cb PR;exact this
 | .str,x,v,h=>by have:=h.2 rfl;unfold Cb PR;exact this
 | .list _,x,v,h=>by have:=h.2 rfl;unfold Cb PR;exact this
 | .nlist _,x,v,h=>by have:=h.2 rfl;unfold Cb PR;exact this
 | .fnv,x,v,h=>by
  have:=h.2 rfl;simp only[DC,yn,wn]at this;subst this;unfold Cb;cases (x:Option Fn)<;>simp[PR]
theorem mB{s:Sh}{p:PV}{x:s.T}{v:V}(hp:PR F ρ N p v)(hd:yN s p=some x):DV F s x v:=by
 unfold yN at hd;cases hb:(Kt p==s.PW)with
 |false=>rw[hb]at hd;cases hd
 |true=>
  rw[hb]at hd;simp only[we]at hd;have hb:Kt p=s.PW:=by simpa using hb
  refine⟨fun e=>?_,fun e=>?_⟩
  ·rw[e]at hb;cases p<;>simp only[Kt]at hb<;>try (cases hb;done)
   rename_i l;simp only[PR]at hp;obtain⟨cs,rfl,h1⟩:=hp;exact⟨cs,rfl,CN h1 hd⟩
  ·rw[e]at hb;have:p.cells=[p]:=by cases p<;>first|rfl|(simp[Kt]at hb)
   rw[this]at hd;exact CN (by simpa using hp) hd
theorem eK{T:BS}{t:TypeId}{s:Sh}(h:nN T t=some s):(∃k,s=.int k/\T.und t=some (.int k))\/(s=.str/\T.und t=some .string)\/(s=.bool/\T.und t=some .bool):=by
 unfold nN at h;split at h
 ·rename_i k hu;cases h;exact .inl ⟨k,rfl,hu⟩
 ·rename_i hu;cases h;exact .inr (.inl ⟨rfl,hu⟩)
 ·rename_i hu;cases h;exact .inr (.inr ⟨rfl,hu⟩)
 ·cases h
theorem Wt{T:BS}{t:TypeId}{s:Sh}(hs:nN T t=some s){p:PV}{x:s.T}{v:V}(hp:PR F ρ N p v)(hd:nY s p=some x):DV F s x v:=by
 have:=G7 hp hd;rcases eK hs with⟨k,rfl,_⟩|⟨rfl,_⟩|⟨rfl,_⟩<;>exact⟨fun e=>(by cases e),fun _=>this⟩
theorem Ru{T:BS}{t:TypeId}{s:Sh}(hs:nN T t=some s){x:s.T}{v:V}(hv:DV F s x v):∃d,T.und t=some d/\Io T t d v=true/\(∀es,JS T t v es=K1 T t v es 0)/\∀y u,DV F s y u->eA T t v u=some (qC s x y):=by
 rcases eK hs with⟨k,rfl,hu⟩|⟨rfl,hu⟩|⟨rfl,hu⟩<;>
 ·have h1:=hv.2 rfl;simp only[DC,yn,wn]at h1;subst h1;refine⟨_,hu,rfl,fun _=>rfl,fun y u hy=>?_⟩;have h2:=hy.2 rfl;simp only[DC,yn,wn]at h2;subst h2;simp[eA,hu,qC]
theorem OZ{T:BS}{t:TypeId}{ks vs:Sh}(hs:nN T t=some ks){k:ks.T}{kv:V}(hk:DV F ks k kv):∀ {l:List (ks.T×vs.T)} {es:List (V×V×Nat)},MR F ks vs l es->∀i,∃r,K1 T t kv es i=some r/\
  (match r with
   |none=>Kf ks vs k l=none/\RV ks vs k l=l/\∀x xv c,DV F vs x xv->MR F ks vs (Rj ks vs k x l) (es++[(kv,xv,c)])
   |some (j,u)=>(∃v,Kf ks vs k l=some v/\DV F vs v u)/\i<=j/\MR F ks vs (RV ks vs k l) (es.eraseIdx (j-i))/\∀x xv,DV F vs x xv->MR F ks vs (Rj ks vs k x l) (VC es (j-i) kv xv)):=by
 intro l es hm;induction hm with
 |nil=>intro i;exact⟨none,rfl,rfl,rfl,fun x xv c hx=>.cons hk hx .nil⟩
 |@cons a b l av bv n es h1 h2 h3 ih=>
  intro i;obtain⟨d,_,_,_,hq⟩:=Ru hs hk;have hq:=hq a av h1;unfold K1;rw[hq];cases hb:qC ks k a with
  |true=>
   refine⟨some (i,bv),rfl,⟨b,by simp[Kf,hb],h2⟩,zg _,?_,fun x xv hx=>?_⟩
   ·simp only[yp,List.eraseIdx_cons_zero,RV,hb,we];exact h3
   ·simp only[yp,Rj,hb,we,VC,List.modify_zero_cons];exact .cons hk hx h3
  |false=>
   obtain⟨r,g1,g2⟩:=ih (i+1);refine⟨r,g1,?_⟩;cases r with
   |none=>
    obtain⟨k1,k2,k3⟩:=g2;refine⟨by simp only[Kf,hb,wg];exact k1,by simp only[RV,hb,wg,k2],fun x xv c hx=>?_⟩;simp only[Rj,hb,wg,List.cons_append];exact .cons h1 h2 (k3 x xv c hx)
   |some ju=>
    obtain⟨j,u⟩:=ju;obtain⟨⟨v,k1,k2⟩,k3,k4,k5⟩:=g2;have e:j-i=(j-(i+1))+1:=by omega
    refine⟨⟨v,by simp only[Kf,hb,wg];exact k1,k2⟩,by omega,?_,fun x xv hx=>?_⟩
    ·rw[e];simp only[List.eraseIdx_cons_succ,RV,hb,wg];exact .cons h1 h2 k4
    ·rw[e];simp only[Rj,hb,wg,VC,List.modify_succ_cons];exact .cons h1 h2 (k5 x xv hx)
theorem mW(hr:SR B h0 F ρ st.nx st.ob h){t:TypeId}{v:PV}(ht:(VR C.T t st).To v st'):OK B h0 F ρ st h [] (E4 (IN h none)) v st':=by
 unfold VR at ht;split at ht
 case h_2=>simp at ht
 split at ht
 case h_2=>simp at ht
 rename_i ks vs hk hv;simp only[AR]at ht;obtain⟨rfl,rfl⟩:=ht;refine OK.new hr (o:=.map ks vs []) (x:=.map [] 0) (n:=0) rfl ⟨[],0,rfl,.nil⟩ ?_;unfold PR;exact⟨ya _,fun b m hb=>by simp[BJ]at hb;rw[hb.1]⟩
theorem ZS(hr:SR B h0 F ρ st.nx st.ob h){ks vs:Sh}{m:PV}{l:List (ks.T×vs.T)}{x:V}(hm:PR F ρ st.nx m x)(hd:cR st ks vs m=some l):∃es,entries h x=some es/\MR F ks vs l es:=by
 unfold cR at hd;split at hd
 ·cases hd;simp only[PR]at hm;subst hm;exact⟨[],rfl,.nil⟩
 ·rename_i id;split at hd
  case h_2=>cases hd
  rename_i ks' vs' l' ho;obtain⟨e,he⟩:=CE hd;simp only[Sh.list.injEq,Sh.pair.injEq]at e;obtain⟨rfl,rfl⟩:=e;obtain rfl:l'=l:=he;obtain⟨b,n,o,h1,h2,⟨es,clk,rfl,h4⟩,_⟩:=hr.at ho;simp only[PR]at hm;obtain rfl:=hm.2 b n h1;exact⟨es,by simp[entries,h2],h4⟩
 ·cases hd
theorem fR{ks vs:Sh}{ok:Bool}{z:vs.T}{x:ks.T}:∀ {l:List (ks.T×vs.T)} {v:PV},(wJ ks vs ok z x st l).To v st'->st=st'/\((Kf ks vs x l=none/\v=bif ok then .tup [Cb vs z,.bl false]else Cb vs z)\/∃w,Kf ks vs x l=some w/\v=bif ok then .tup [Cb vs w,.bl true]else Cb vs w)
 |[],v,ht=>by
  unfold wJ at ht;simp only[AR]at ht;exact⟨ht.2,.inl ⟨rfl,ht.1.symm⟩⟩
 |(a,b)::l,v,ht=>by
  unfold wJ at ht;generalize hc:qC ks x a=c at ht;cases ht with
  |tt ht=>
   simp only[AR]at ht;exact⟨ht.2,.inr ⟨b,by simp[Kf,hc],ht.1.symm⟩⟩
  |ff ht=>
   obtain⟨h1,h2⟩:=fR ht;have e:Kf ks vs x ((a,b)::l)=Kf ks vs x l:=by simp[Kf,hc]
   rw[e];exact⟨h1,h2⟩
theorem aJ(hr:SR B h0 F ρ st.nx st.ob h){t:TypeId}{p q:PV}{x y:V}(hx:PR F ρ st.nx p x)(hy:PR F ρ st.nx q y){ok:Bool}{v:PV}(ht:(Sj C.T t p q ok st).To v st'):OK B h0 F ρ st h [] (Bv h (ED C.T h t x y ok)) v st':=by
 unfold Sj at ht;split at ht
 case h_2=>simp at ht
 rename_i kt e hu;split at ht
 case h_2=>simp at ht
 rename_i ks vs i hks hvs hi;split at ht
 case h_2=>simp at ht
 rename_i k l z hk hl hz;cases hb:(xI i.zv==vs.PW)with
 |false=>rw[hb]at ht;simp at ht
 |true=>
  rw[hb]at ht;simp only[we]at ht;have hkd:=Wt hks hy hk;obtain⟨es,he,hm⟩:=ZS hr hx hl;obtain⟨kd,g1,g2,g3,_⟩:=Ru hks hkd;obtain⟨r,r1,r2⟩:=OZ hks hkd hm 0;have hzd:DV F vs z i.zv:=by
   have h1:DC F vs z i.zv.cells:=CN (Ec (F:=F) (ρ:=ρ) (N:=st.nx) i.zero) hz;have hb:xI i.zv=vs.PW:=by simpa using hb
   refine⟨fun e=>?_,fun e=>?_⟩
   ·rw[e]at hb;cases hv:i.zv<;>rw[hv]at hb<;>simp only[xI]at hb<;>try (cases hb;done)
    rw[hv]at h1;exact⟨_,rfl,h1⟩
   ·rw[e]at hb;have:i.zv.cells=[i.zv]:=by cases hv:i.zv<;>rw[hv]at hb<;>first|rfl|(simp[xI]at hb)
    rw[<-this];exact h1
  unfold ED;simp only[hu,g1,he,g2,we,g3,r1];cases hf:vs.oF with
  |true=>
   rw[hf]at ht;simp only[we]at ht;have hk2:=fR ht;obtain⟨e0,hk3⟩:=hk2;subst e0;rcases hk3 with⟨hn,hv⟩|⟨w,hw,hv⟩
   ·cases r with
    |none=>
     simp only[hi];cases ok with
     |true=>exact zj hr rfl (by rw[hv];simp only[we,PR];exact⟨_,rfl,_,_,rfl,ET hzd,_,_,rfl,by simp[PR],rfl⟩)
     |false=>exact zj hr rfl (by rw[hv];exact ET hzd)
    |some ju=>
     obtain⟨⟨v',k1,_⟩,_⟩:=r2;rw[hn]at k1;cases k1
   ·cases r with
    |none=>rw[r2.1]at hw;cases hw
    |some ju=>
     obtain⟨⟨v',k1,k2⟩,_⟩:=r2;rw[hw]at k1;cases k1;cases ok with
     |true=>exact zj hr rfl (by rw[hv];simp only[we,PR];exact⟨_,rfl,_,_,rfl,ET k2,_,_,rfl,by simp[PR],rfl⟩)
     |false=>exact zj hr rfl (by rw[hv];exact ET k2)
  |false=>
  rw[hf]at ht;simp only[wg,AR]at ht;obtain⟨rfl,rfl⟩:=ht;cases r with
  |none=>
   obtain⟨k1,_⟩:=r2;simp only[hi,k1,Option.getD_none,Option.isSome_none];cases ok with
   |true=>exact zj hr rfl (by simp only[we,PR];exact⟨_,rfl,_,_,rfl,ET hzd,_,_,rfl,DE _,rfl⟩)
   |false=>exact zj hr rfl (ET hzd)
  |some ju=>
   obtain⟨j,u⟩:=ju;obtain⟨⟨v,k1,k2⟩,_⟩:=r2;simp only[k1,ym,Option.isSome_some];cases ok with
   |true=>exact zj hr rfl (by simp only[we,PR];exact⟨_,rfl,_,_,rfl,ET k2,_,_,rfl,DE _,rfl⟩)
   |false=>exact zj hr rfl (ET k2)
theorem dZ(hr:SR B h0 F ρ st.nx st.ob h){t:TypeId}{p q r:PV}{x y z:V}(hx:PR F ρ st.nx p x)(hy:PR F ρ st.nx q y)(hz:PR F ρ st.nx r z){v:PV}(ht:(Sx C.T t p q r st).To v st'):
  ∃id,p=.mp id/\OK B h0 F ρ st h [id] (Z7 (G8 C.T h t x y z)) v st':=by
 unfold Sx at ht;split at ht
 case h_2=>simp at ht
 rename_i kt e id hu;split at ht
 case h_2=>simp at ht
 rename_i ks ks' vs l hks ho;split at ht
 case h_2=>simp at ht
 rename_i k l2 w hk hl hw;obtain⟨e1,he⟩:=CE hl;simp only[Sh.list.injEq,Sh.pair.injEq,wn]at e1;subst e1;obtain rfl:l=l2:=he;simp only[AR]at ht;obtain⟨rfl,rfl⟩:=ht;have hkd:=Wt hks hy hk;have hwd:=mB hz hw;obtain⟨b,n,o,h1,h2,⟨es,clk,rfl,h4⟩,_⟩:=hr.at ho;have hx':=hx;simp only[PR]at hx';obtain rfl:=hx'.2 b n h1;obtain⟨kd,g1,g2,g3,_⟩:=Ru hks hkd;obtain⟨r',r1,r2⟩:=OZ hks hkd h4 0;refine⟨id,rfl,?_⟩;have fin:∀es' clk',MR F ks' vs (Rj ks' vs k w l) es'->OK B h0 F ρ st h [id] (Z7 (some (h.put b (.map es' clk')))) (.tup []) (st.setObj id (.map ks' vs (Rj ks' vs k w l))):=by
  intro es' clk' hm;refine⟨.tup [],_,F,ρ,.inr ⟨rfl,rfl⟩,by simp[PR],hr.set ho h1 h2 rfl rfl ⟨es',clk',rfl,hm⟩,yj,rfl,rfl,zg _,fun c _=>?_⟩;by_cases ec:c=b
  ·exact .inr ⟨id,zm.2 rfl,n,ec▸h1⟩
  ·exact .inl (by rw[H.Bm,wc ec])
 unfold G8;simp only[hu,g1,h2,g2,we,g3,r1];cases r' with
 |none=>exact fin _ _ (r2.2.2 w z clk hwd)
 |some ju=>exact fin _ _ (r2.2.2.2 w z hwd)
theorem dJ(hr:SR B h0 F ρ st.nx st.ob h){ts:Array TypeId}{ps:List PV}{xs:List V}(hx:Bc F ρ st.nx ps xs){v:PV}(ht:(SV C.T ts ps st).To v st'):
  ∃id qs,ps=.mp id::qs/\OK B h0 F ρ st h [id] (E4 (Kx C.T h ts xs)) v st':=by
 unfold SV at ht;split at ht
 case h_2=>simp at ht
 rename_i t id q hts;split at ht
 case h_2=>simp at ht
 rename_i kt e hu;split at ht
 case h_2=>simp at ht
 rename_i ks ks' vs l hks ho;split at ht
 case h_2=>simp at ht
 rename_i k l2 hk hl;obtain⟨e1,he⟩:=CE hl;simp only[Sh.list.injEq,Sh.pair.injEq,wn]at e1;subst e1;obtain rfl:l=l2:=he;simp only[AR]at ht;obtain⟨rfl,rfl⟩:=ht;simp only[Bc]at hx;obtain⟨x,xs',rfl,hx1,y,xs'',rfl,hy,rfl⟩:=hx;have hkd:=Wt hks hy hk;obtain⟨b,n,o,h1,h2,⟨es,clk,rfl,h4⟩,_⟩:=hr.at ho;obtain rfl:=hx1.2 b n h1;obtain⟨kd,g1,g2,g3,_⟩:=Ru hks hkd;obtain⟨r',r1,r2⟩:=OZ hks hkd h4 0;refine⟨id,_,rfl,?_⟩;have fin:∀es',MR F ks' vs (RV ks' vs k l) es'->OK B h0 F ρ st h [id] (E4 (some (.tup [],h.put b (.map es' clk)))) (.tup []) (st.setObj id (.map ks' vs (RV ks' vs k l))):=by
  intro es' hm;refine⟨.tup [],_,F,ρ,.inl rfl,by simp[PR],hr.set ho h1 h2 rfl rfl ⟨es',clk,rfl,hm⟩,yj,rfl,rfl,zg _,fun c _=>?_⟩;by_cases ec:c=b
  ·exact .inr ⟨id,zm.2 rfl,n,ec▸h1⟩
  ·exact .inl (by rw[H.Bm,wc ec])
 unfold Kx;simp only[hts,hu,g1,h2,g2,we,g3,r1];cases r' with
 |none=>exact fin es (by rw[r2.2.1];exact h4)
 |some ju=>
  have:=r2.2.2.1;simp only[Nat.sub_zero]at this;exact fin _ this
theorem SR.same(hr:SR B h0 F ρ st.nx st.ob h){id b n:Nat}{o o':Obj}{x:O}(ho:st.obj id=some o)(hb:ρ id=some (b,n))(hg:h.get b=some x)(hf:o.frozen=false)(hf':o'.frozen=false)
  (hx:X2 F ρ st.nx n o' x):SR B h0 F ρ st.nx (Dx st.ob id o') h:=by
 have hput:∀c,h.get c=(h.put b x).get c:=by
  intro c;rw[H.Bm];by_cases e:c=b
  ·rw[wd e,e,hg]
  ·rw[wc e]
 exact SR.congr (st:=⟨st.n,st.fr,Dx st.ob id o',st.nx⟩) (hr.set ho hb hg hf hf' hx) hput rfl
theorem kC(hr:SR B h0 F ρ st.nx st.ob h){ts:Array TypeId}{ps:List PV}{xs:List V}(hx:Bc F ρ st.nx ps xs){v:PV}(ht:(Vt C.T ts ps st).To v st'):OK B h0 F ρ st h (Fi ps) (E4 (Fq C.T h ts xs)) v st':=by
 unfold Vt at ht;split at ht
 case h_2=>simp at ht
 rename_i t p hts;simp only[Bc]at hx;obtain⟨x,_,rfl,hx,rfl⟩:=hx;split at ht
 case h_2=>simp at ht
 rename_i e hu;split at ht
 case h_3=>simp at ht
 case h_1=>
  simp only[AR]at ht;obtain⟨rfl,rfl⟩:=ht;simp only[PR]at hx;subst hx;exact⟨.tup [],h,F,ρ,.inl (by simp[Fq,hts,hu,E4]),by simp[PR],hr,yj,rfl,rfl,zg _,fun _ _=>.inl rfl⟩
 rename_i id sz off len cap;split at ht
 case h_2=>simp at ht
 rename_i i e' s l hi ho;cases hc:(zh sz s.sz&&zw 0 i.zero.length&&zh i.zero.length s.sz&&Det.KS V.one i.zero)with
 |false=>rw[hc]at ht;simp at ht
 |true=>
  rw[hc]at ht;simp only[zc,E8]at hc;obtain⟨⟨⟨c1,c2⟩,c3⟩,c4⟩:=hc;have c1:=ze c1;have c3:=ze c3;subst c1;simp only[we]at ht;split at ht
  case h_2=>simp at ht
  rename_i z hz;simp only[BI,w5]at ht;obtain⟨k1,rfl,rfl⟩:=ht;obtain⟨b,n,y,h1,h2,⟨bs,fz,rfl,h3,h4,h5⟩,h6,_⟩:=hr.at ho;have hz0:DC F s z i.zero:=CN (Ec (F:=F) (ρ:=ρ) (N:=st.nx) i.zero) hz;have hrep:=D1.replicate hz0 len;have hsp:=D1.eG h3 hrep (a:=off) (by simpa using k1);rw[yd]at hsp;have hlen:(l.take off++(zq len z++l.drop (off+len))).length=l.length:=by simp;omega
  have skip:Fq C.T h ts [x]=some (.tup [],h)->len=0->OK B h0 F ρ st h (Fi [.sl id s.sz off len cap]) (E4 (Fq C.T h ts [x])) (.tup []) (st.setObj id (.arr false e' s (l.take off++(zq len z++l.drop (off+len))))):=by
   intro hd h0;subst h0;have el:l.take off++(zq 0 z++l.drop (off+0))=l:=by simp
   refine⟨.tup [],h,F,ρ,.inl (by rw[hd];rfl),by simp[PR],hr.same ho h1 h2 rfl rfl (o':=.arr false e' s _) ⟨bs,fz,rfl,?_,h4,?_⟩,yj,rfl,rfl,zg _,fun _ _=>.inl rfl⟩
   ·rw[el];exact h3
   ·rw[el];exact h5
  simp only[PR]at hx;rcases hx.2 b n h1 with⟨_,g6,o,g5,rfl⟩|⟨e0,ek,g6,rfl|⟨off',rfl,_⟩⟩
  ·by_cases h0:len=0
   ·exact skip (by simp[Fq,hts,hu,h0]) h0
   ·have hw:wr h b (off*s.sz) (EM i.zero (len*i.zero.length))=some (h.put b (.cells (Ck (off*s.sz) ((zq len i.zero).flatten) bs) e' fz)):=by
     rw[Hk];refine MD h2 ?_ h4 ?_
     ·rw[hrep.1,yd, <-zt,h3.1];exact zk _ k1
     ·exact hrep.Rb
    have b0:zh len 0=false:=by rw[Bp];simp[h0]
    refine⟨.tup [],h.put b (.cells (Ck (off*s.sz) ((zq len i.zero).flatten) bs) e' fz),F,ρ,.inl ?_,by simp[PR],hr.set ho h1 h2 rfl rfl (o':=.arr false e' s _) ⟨_,fz,rfl,hsp,h4,hlen.trans h5⟩,yj,rfl,rfl,zg _,fun c _=>?_⟩
    ·simp only[Fq,hts,hu,b0,wg,hi,c2,we,hw,zu,E4]
    ·rw[H.Bm];by_cases e:c=b
     ·exact .inr ⟨id,by simp[Fi],n,e▸h1⟩
     ·rw[wc e];exact .inl rfl
  ·exact skip (by simp[Fq,hts,hu]) e0
  ·exact skip (by simp[Fq,hts,hu]) e0
theorem mH(hr:SR B h0 F ρ st.nx st.ob h){t:TypeId}{p:PV}{x:V}(hx:PR F ρ st.nx p x){v:PV}(ht:(Wy C.T t p st).To v st'):OK B h0 F ρ st h [] (E4 (G9 C.T h t x)) v st':=by
 unfold Wy at ht;split at ht
 case h_2=>simp at ht
 rename_i s hu;simp only[AR]at ht;obtain⟨rfl,rfl⟩:=ht;obtain rfl:=EX hx;have hd:G9 C.T h t (.str s)=some (.ptr h.nx 0,h.push (.siter s 0)):=by simp[G9,Sm,hu]
 rw[hd];exact OK.new hr (o:=.siter s 0) (n:=0) rfl rfl Ks
theorem sR(hr:SR B h0 F ρ st.nx st.ob h){p:PV}{x:V}(hx:PR F ρ st.nx p x){i:Bool}{v:PV}(ht:(bD p i st).To v st'):i=true/\∃id off,p=.ptr id off/\OK B h0 F ρ st h [id] (E4 (MH h x i)) v st':=by
 unfold bD at ht;split at ht
 case h_2=>simp at ht
 rename_i id;split at ht
 case h_2=>simp at ht
 rename_i s pos ho;obtain⟨b,n,y,h1,h2,h3,h6,_⟩:=hr.at ho;simp only[X2]at h3;subst h3;simp only[PR]at hx;obtain rfl:=hx.2 b n h1;refine⟨rfl,id,0,rfl,?_⟩;by_cases hp:pos<s.length
 ·rw[w4 hp]at ht;cases ht with
  |tt ht=>
   simp only[AR]at ht;obtain⟨rfl,rfl⟩:=ht;have hd:MH h (.ptr b 0) true=some (.tup [.bool true,i64 pos,.int .i32 (rune s pos)],h.put b (.siter s (pos+qW s pos))):=by
    simp only[MH,h2,GN,w4 hp,we];rfl
   refine⟨_,_,F,ρ,.inl (by rw[hd];rfl),?_,hr.set ho h1 h2 rfl rfl (o':=.siter s _) rfl,yj,rfl,rfl,zg _,fun c _=>?_⟩
   ·simp[PR,DC,i64]
   ·rw[H.Bm];by_cases e:c=b
    ·exact .inr ⟨id,zm.2 rfl,n,e▸h1⟩
    ·rw[wc e];exact .inl rfl
 ·rw[w8 hp]at ht;cases ht with
  |ff ht=>
   simp only[AR]at ht;obtain⟨rfl,rfl⟩:=ht;refine⟨.tup [.bool false],h,F,ρ,.inl ?_,by simp[PR],hr,yj,rfl,rfl,zg _,fun _ _=>.inl rfl⟩;simp only[MH,h2,GN,w8 hp,wg,E4]
end
section
variable {B:Nat}{h0:H0}{F:Fz}{ρ:D2}{N:Nat}{C:Ctx}{st st':AK}{h:H}
def tZ:List PV->List Nat
 | .eptr id _ _ _::_=>[id]
 |_=>[]
theorem oR(hr:SR B h0 F ρ st.nx st.ob h){ps:List PV}{xs:List V}(hx:Bc F ρ st.nx ps xs){v:PV}(ht:(Vy ps st).To v st'):OK B h0 F ρ st h [] (Bv h (PD xs)) v st':=by
 unfold Vy at ht;split at ht
 case h_2=>simp at ht
 rename_i id sz off len;cases hs:HW (st.obj id)with
 |false=>rw[hs]at ht;simp at ht
 |true=>
  rw[hs]at ht;simp only[we,BI,w5]at ht;obtain⟨hl,rfl,rfl⟩:=ht;obtain⟨o,ho⟩:=Vc hs;obtain⟨b,n,z,g1,_⟩:=hr.at ho;simp only[Bc]at hx;obtain⟨x,_,rfl,hx,rfl⟩:=hx;simp only[PR]at hx;obtain⟨_,_,o',_,rfl⟩:len<=len/\off+len<=n/\∃o,(o=0\/o=sz)/\x=.sl b (off*sz) len len o:=by
   rcases hx.2 b n g1 with g|⟨_,e,_⟩
   ·exact g
   ·cases e
  refine zj hr (v':=.ptr b (off*sz)) ?_ ?_
  ·have:zw 0 len=true:=by rw[Nat.blt_eq];exact hl
   simp only[PD,this,we];rfl
  ·simp only[PR];refine⟨hx.1,fun b' n' hb=>?_⟩;rw[g1]at hb;cases hb;rfl
theorem bU{k:IntKind}:∀ {l:List Int} {cs:List V},D1 F (.int k) l cs->cs=l.map (qd k):=by
 intro l cs hd;have hl:cs.length=l.length:=by rw[hd.1];simp[Sh.sz]
 apply List.ext_getElem
 ·rw[y7];exact hl
 ·intro i h1 h2;have hi:i<l.length:=by omega
  have:=hd.2 i hi;have e:(cs.drop (i*Sh.sz (.int k))).take (Sh.sz (.int k))=[cs[i]]:=by
   rw[show Sh.sz (.int k)=1 from rfl,yq,zz h1];rfl
  rw[e]at this;simpa [DC]using this
theorem O5:∀ {l:List Int},Qe l=true->Ge (l.map (qd .u8))=some (V8 l)
 |[],_=>rfl
 |x::l,h=>by
  unfold Qe at h;rw[List.all_cons,zc,zc,w5,w5]at h;have ih:=O5 (l:=l) h.2;obtain⟨n,rfl⟩:=yw h.1.1;have hb:zw n 256=true:=by rw[Nat.blt_eq];omega
  have hx:Ss (.int .u8 (n:Int))=some (UInt8.ofNat n):=by
   show(bif zw n 256 then some (UInt8.ofNat n)else none)=_;rw[hb];rfl
  rw[List.map_cons];unfold Ge;rw[hx,ih];rfl
theorem V9{l:List Int}(h:Qe l=true)(n:Nat):Qe (l.take n)=true:=by
 unfold Qe at*;rw[yb]at*;exact fun x hx=>h x (List.mem_of_mem_take hx)
theorem tC(hr:SR B h0 F ρ st.nx st.ob h){ts:Array TypeId}{ps:List PV}{xs:List V}(hx:Bc F ρ st.nx ps xs){v:PV}(ht:(fN C.T ts.toList ps st).To v st'):OK B h0 F ρ st h (tZ ps) (E4 (QU C.T h ts.toList xs)) v st':=by
 unfold fN at ht;split at ht
 case h_2=>simp at ht
 rename_i pt it id sz i n hts;split at ht
 case h_2=>simp at ht
 rename_i e e' s l hu ho;split at ht
 case h_2=>simp at ht
 rename_i ti bs hi hbs;cases hc:(zh ti.size 1&&zh e e')with
 |false=>rw[hc]at ht;simp at ht
 |true=>
  rw[hc]at ht;simp only[we,BI,zc,w5]at ht;obtain⟨⟨⟨⟨⟨k1,k2⟩,k3⟩,k4⟩,k5⟩,rfl,rfl⟩:=ht;subst k1;obtain⟨es,he⟩:=CE hbs;have e2:s=.int .u8:=by cases es;rfl
  subst e2;have:bs=l:=by have:=he;cases this;rfl
  subst this;obtain⟨m,rfl⟩:=yw (Int.le_of_lt k2);simp only[Int.toNat_natCast]at k3 k4;obtain⟨b,n',z,h1,h2,⟨cs,fz,rfl,h3,h4,h5⟩,h6,_⟩:=hr.at ho;have hFb:=h6 rfl;simp only[Bc]at hx;obtain⟨x,_,rfl,hx,y,_,rfl,hy,rfl⟩:=hx;obtain rfl:=CA hy;simp only[PR]at hx;obtain rfl:=hx.2 b n' h1;have hB:=(hr.own id b n' h1).2;have hPb:b∉h0.pin:=fun hp=>(hr.pn b hp).2.2 id n' h1
  have hfree:∀j oj m,AO (F8 st.ob id) j=some oj->BJ ρ id none j≠some (b,m):=by
   intro j oj m hj hjr;rw[DZ]at hj;split at hj
   ·cases hj
   ·rename_i hne;simp only[BJ,hne,ve]at hjr;exact hne (hr.inj j id oj _ b m n' hj ho hjr h1)
  have hdel:=hr.del id;have hcs:=bU h3;have htk:cs.take m=(bs.take m).map (qd .u8):=by rw[hcs,List.map_take]
  have hb:=O5 (V9 k5 m);have hd:QU C.T h ts.toList [.ptr b (0*sz+0),.int .i64 (m:Int)]=some (.str (V8 (bs.take m)),h.kill b):=by
   rw[zy];unfold QU;rw[hts];show(match C.T.und pt,h.get b with
    |some (.pointer e),some (.cells cs e' fz)=>(match C.T.inf e,Ge (cs.take m)with
     |some i,some l=>bif zh i.size 1&&zh e e'&&zw 0 m&&zo m cs.length&&zo m 9223372036854775807&&zo fz.2 fz.1 then some (V.str l,h.kill b)else none
     |_,_=>none)
    |_,_=>none)=_
   rw[hu,h2];show(match C.T.inf e,Ge (cs.take m)with
    |some i,some l=>bif zh i.size 1&&zh e e'&&zw 0 m&&zo m cs.length&&zo m 9223372036854775807&&zo fz.2 fz.1 then some (V.str l,h.kill b)else none
    |_,_=>none)=_
   rw[hi,htk,hb];have k2:(0:Int)<(m:Int):=k2;have c1:zw 0 m=true:=by rw[Nat.blt_eq];omega
   have c2:zo m cs.length=true:=zl (by rw[hcs,y7];exact k3);have c3:zo m 9223372036854775807=true:=zl k4;have c4:zo fz.2 fz.1=true:=zl h4;simp only[hc,c1,c2,c3,c4,yv,we]
  rw[hd];refine⟨_,_,F,BJ ρ id none,.inl rfl,J6 _,hdel.kill hfree hFb hB hPb,Le.M8 id,rfl,rfl,zg _,fun c _=>?_⟩;rw[H.B2];by_cases ec:c=b
  ·exact .inr ⟨id,zm.2 rfl,n',ec▸h1⟩
  ·rw[wc ec];exact .inl rfl
end
section
variable {B:Nat}{h0:H0}{C:Ctx}{F F1 F':Fz}{ρ:D2}{N:Nat}{st st':AK}{fr:Fr}{h h':H}
def PC(F:Fz)(p:PV)(v:V):Prop:=∀ρ N,PR F ρ N p v
def LQ(F:Fz)(ps:List PV)(vs:List V):Prop:=∀ρ N,Bc F ρ N ps vs
theorem Le.YG(hF:∀b cs,F b=some cs->F1 b=some cs):Le F ρ N F1 ρ N:=⟨hF,fun _ _=>.inl rfl,zg _⟩
theorem PC.mono(hF:∀b cs,F b=some cs->F1 b=some cs){p:PV}{v:V}(hp:PC F p v):PC F1 p v:=fun ρ N=>(hp ρ N).mono (Le.YG hF)
theorem LQ.cons{p:PV}{ps:List PV}{v:V}{vs:List V}(h1:PC F p v)(h2:LQ F ps vs):LQ F (p::ps) (v::vs):=fun ρ N=>(A2 ..).2 ⟨h1 ρ N,h2 ρ N⟩
theorem LQ.dc{s:Sh}{ps:List PV}{vs:List V}{x:s.T}(hp:LQ F ps vs)(hd:C1 s ps=some x):DC F s x vs:=CN (hp (fun _=>none) 0) hd
theorem PC.Cb:∀ {s:Sh} {x:s.T} {cs:List V},DC F s x cs->(s.PW=true->PC F (Cb s x) (.agg cs))/\(s.PW=false->∀v,cs=[v]->PC F (Cb s x) v)
 | .pair a b,x,cs,h=>⟨fun _ ρ N=>by unfold Pe.Cb PR;exact⟨cs,rfl,CT h⟩,fun e=>by cases e⟩
 | .unit,x,cs,h=>⟨fun _ ρ N=>by simp only[DC]at h;subst h;unfold Pe.Cb PR;exact⟨[],rfl,by simp⟩,fun e=>by cases e⟩
 | .int _,x,cs,h=>⟨fun e=>(by cases e),fun _ v hv ρ N=>by subst hv;unfold Pe.Cb PR;exact h⟩
 | .bool,x,cs,h=>⟨fun e=>(by cases e),fun _ v hv ρ N=>by subst hv;unfold Pe.Cb PR;exact h⟩
 | .str,x,cs,h=>⟨fun e=>(by cases e),fun _ v hv ρ N=>by subst hv;unfold Pe.Cb PR;exact h⟩
 | .list _,x,cs,h=>⟨fun e=>(by cases e),fun _ v hv ρ N=>by subst hv;unfold Pe.Cb PR;exact h⟩
 | .nlist _,x,cs,h=>⟨fun e=>(by cases e),fun _ v hv ρ N=>by subst hv;unfold Pe.Cb PR;exact h⟩
 | .fnv,x,cs,h=>⟨fun e=>(by cases e),fun _ v hv ρ N=>by
   subst hv;simp only[DC,yn,wn]at h;subst h;unfold Pe.Cb;cases (x:Option Fn)<;>simp[PR]⟩
theorem SR.wH{ob ob':Ob}(hr:SR B h0 F ρ N ob h)(he:∀j,AO ob' j=AO ob j):SR B h0 F ρ N ob' h:=
 ⟨fun id o ho=>hr.obj id o (he id▸ho),fun id id' o o' b n n' h1 h2=>hr.inj id id' o o' b n n' (he id▸h1) (he id'▸h2),hr.frz,hr.own,fun id hid=>hr.dead id (he id▸hid),hr.old,hr.lt,hr.le,hr.fo,hr.gl,hr.pn⟩
theorem rE{s:Sh}{l:List s.T}{cs:List V}{b:Nat}(hF:F b=some cs)(hd:D1 F s l cs){off len:Nat}(hle:off+len<=l.length){cap o:Nat}(hcap:len<=cap)(ho:o=0\/o=s.sz):
  DC F (.list s) ((l.drop off).take len) [.sl b (off*s.sz) len cap o]:=by
 have hlen:((l.drop off).take len).length=len:=by simp;omega
 simp only[DC];refine⟨_,rfl,.inr ⟨b,off*s.sz,cap,o,cs,by rw[hlen],by rw[hlen];exact hcap,hF,?_,ho,fun i hi=>?_⟩⟩
 ·rw[hlen,hd.1, <-zt];exact zk _ hle
 ·rw[hlen]at hi;have h1:=hd.2 (off+i) (by omega);have e1:((l.drop off).take len)[i]=l[off+i]'(by omega):=by simp
  rw[e1, <-zt];exact h1
theorem Lo(st:AK)(p:PV):(Bz st p).nx=st.nx/\(Bz st p).fr=st.fr/\(Bz st p).n=st.n:=by
 unfold Bz;split
 ·split<;>exact⟨rfl,rfl,rfl⟩
 ·exact⟨rfl,rfl,rfl⟩
theorem Dg:∀(ps:List PV) (st:AK),(Bq ps st).nx=st.nx/\(Bq ps st).fr=st.fr/\(Bq ps st).n=st.n
 |[],_=>⟨rfl,rfl,rfl⟩
 |p::ps,st=>by
  obtain⟨h1,h2,h3⟩:=Dg ps (Bz st p);obtain⟨g1,g2,g3⟩:=Lo st p;exact⟨h1.trans g1,h2.trans g2,h3.trans g3⟩
theorem Ih:∀(ps qs:List PV) (st:AK),Bq (ps++qs) st=Bq qs (Bq ps st)
 |[],_,_=>rfl
 |p::ps,qs,st=>Ih ps qs (Bz st p)
def DY:Option Obj->Option Obj->Prop
 |some (.arr _ e s l),o=>∃fz,o=some (.arr fz e s l)
 |a,b=>b=a
theorem DY.refl(o:Option Obj):DY o o:=by
 cases o with
 |none=>rfl
 |some o=>cases o<;>first|rfl|exact⟨_,rfl⟩
theorem Mu(st:AK)(p:PV)(j:Nat):DY (st.obj j) ((Bz st p).obj j):=by
 unfold Bz;split
 case h_2=>exact DY.refl _
 split
 case h_2=>exact DY.refl _
 rename_i id _ _ _ _ _ fz e s l ho;show DY (AO st.ob j) (AO (Dx st.ob id (.arr true e s l)) j);rw[GZ _ _ _ _ (by show(st.obj id).isSome=true;rw[ho];rfl)];split
 ·rename_i e1;subst e1;show DY (st.obj j) _;rw[ho];exact⟨_,rfl⟩
 ·exact DY.refl _
theorem fE{st st':AK}(h:∀id,DY (st.obj id) (st'.obj id))(p:PV):CD st' p=CD st p:=by
 unfold CD;cases p<;>try rfl
 rename_i id sz off len cap;have:=h id;cases ho:st.obj id with
 |none=>rw[ho]at this;simp only[ho,show st'.obj id=none from this]
 |some o=>
  rw[ho]at this;cases o with
  |arr fz e s l=>
   obtain⟨fz',h1⟩:=this;simp only[ho,h1]
  |box _=>simp only[ho,show st'.obj id=_ from this]
  |tbox _ _=>simp only[ho,show st'.obj id=_ from this]
  |map _ _ _=>simp only[ho,show st'.obj id=_ from this]
  |siter _ _=>simp only[ho,show st'.obj id=_ from this]
  |lp _ _ _ _ _ _ _ _=>simp only[ho,show st'.obj id=_ from this]
theorem Ma{st st':AK}(h:∀id,DY (st.obj id) (st'.obj id)):∀ps:List PV,EA st' ps=EA st ps
 |[]=>rfl
 |p::ps=>by unfold EA;rw[fE h p,Ma h ps]
theorem DY.trans{a b c:Option Obj}(h1:DY a b)(h2:DY b c):DY a c:=by
 cases a with
 |none=>have:b=none:=h1;subst this;exact h2
 |some o=>
  cases o with
  |arr fz e s l=>obtain⟨fz',rfl⟩:=h1;exact h2
  |box _=>have:b=_:=h1;subst this;exact h2
  |tbox _ _=>have:b=_:=h1;subst this;exact h2
  |map _ _ _=>have:b=_:=h1;subst this;exact h2
  |siter _ _=>have:b=_:=h1;subst this;exact h2
  |lp _ _ _ _ _ _ _ _=>have:b=_:=h1;subst this;exact h2
theorem My:∀(ps:List PV) (st:AK) (id:Nat),DY (st.obj id) ((Bq ps st).obj id)
 |[],_,_=>DY.refl _
 |p::ps,st,id=>(Mu st p id).trans (My ps (Bz st p) id)
theorem TU{st st':AK}(h:∀id,DY (st.obj id) (st'.obj id))(s:Sh)(p:PV):Ii st' s p=Ii st s p:=by
 unfold Ii;rw[Ma h]
theorem Mi{st st':AK}(h:∀id,DY (st.obj id) (st'.obj id)):∀(l:List Sh) (ps:List PV),D9 st' l ps=D9 st l ps
 |[],[]=>rfl
 |[],_::_=>rfl
 |[a],[p]=>TU h a p
 |[a],[]=>rfl
 |[a],_::_::_=>rfl
 |a::b::l,[]=>rfl
 |a::b::l,p::ps=>by unfold D9;rw[TU h a p,Mi h (b::l) ps]
theorem MB(hr:SR B h0 F ρ st.nx st.ob h){p:PV}{v:V}(hp:PR F ρ st.nx p v):
  ∃F1,SR B h0 F1 ρ (Bz st p).nx (Bz st p).ob h/\(∀b cs,F b=some cs->F1 b=some cs)/\∀x,CD st p=some (true,x)->PC F1 x v:=by
 have same:∀ {q:PV},(∀x,CD st q=some (true,x)->PC F x v)->Bz st q=st->∃F1,SR B h0 F1 ρ (Bz st q).nx (Bz st q).ob h/\(∀b cs,F b=some cs->F1 b=some cs)/\∀x,CD st q=some (true,x)->PC F1 x v:=
  fun h1 h2=>⟨F,by rw[h2];exact hr,fun _ _ h=>h,h1⟩
 cases p with
 |sl id sz off len cap=>
  cases ho:st.obj id with
  |none=>exact same (fun x hx=>by simp[CD,ho]at hx) (by simp[Bz,ho])
  |some o=>
   cases o with
   |box _=>exact same (fun x hx=>by simp[CD,ho]at hx) (by simp[Bz,ho])
   |tbox _ _=>exact same (fun x hx=>by simp[CD,ho]at hx) (by simp[Bz,ho])
   |map _ _ _=>exact same (fun x hx=>by simp[CD,ho]at hx) (by simp[Bz,ho])
   |siter _ _=>exact same (fun x hx=>by simp[CD,ho]at hx) (by simp[Bz,ho])
   |lp _ _ _ _ _ _ _ _=>exact same (fun x hx=>by simp[CD,ho]at hx) (by simp[Bz,ho])
   |arr fz e s l=>
    obtain⟨b,n,x,h1,h2,⟨cs,fz',rfl,h4,h5,h6⟩,h7,h8⟩:=hr.at ho;have hst:Bz st (.sl id sz off len cap)=st.setObj id (.arr true e s l):=by simp[Bz,ho]
    have hset:∀j,AO (Dx st.ob id (.arr true e s l)) j=if j=id then some (.arr true e s l)else AO st.ob j:=fun j=>GZ _ _ _ _ (by show(st.obj id).isSome=true;rw[ho];rfl)
    have fin:∀ {G:Fz},G b=some cs->(∀b cs,F b=some cs->G b=some cs)->∀x,CD st (.sl id sz off len cap)=some (true,x)->PC G x v:=by
     intro G hG hFG x hx ρ' N';simp only[CD,ho]at hx;cases hsz:zh sz s.sz with
     |false=>rw[hsz]at hx;simp at hx
     |true=>
      rw[hsz]at hx;simp only[we,zn,yg,w5]at hx;obtain⟨hle,rfl⟩:=hx;have hsz:=ze hsz;subst hsz;unfold PR;simp only[PR]at hp;rcases hp.2 b n h1 with⟨k1,k2,o,k3,rfl⟩|⟨rfl,rfl,k3,rfl|⟨off',rfl,k4⟩⟩
      ·exact rE hG (h4.mono hFG) hle k1 k3
      ·simp[DC]
      ·simp only[List.take_zero,DC];refine⟨_,rfl,.inr ⟨b,off',0,0,cs,rfl,zg _,hG,?_,.inl rfl,fun i hi=>by simp at hi⟩⟩;simp only[yh,zy,Nat.add_zero];rw[h4.1];exact yx k4 (zk _ (by rw[h6];exact k3))
    cases hfz:fz with
    |true=>
     subst hfz;obtain⟨cs',t',fz2,k1,k2⟩:=h8 rfl;cases k1;refine⟨F,?_,fun _ _ h=>h,fin k2 (fun _ _ h=>h)⟩;rw[hst];refine SR.wH hr fun j=>?_
     show AO (Dx st.ob id _) j=_;rw[hset];split
     ·rename_i ej;subst ej;exact ho.symm
     ·rfl
    |false=>
     subst hfz;have hFb:F b=none:=h7 rfl;have hmono:∀c cs',F c=some cs'->(fun c=>if c=b then some cs else F c) c=some cs':=by
      intro c cs' hc;have:c≠b:=fun e=>by rw[e,hFb]at hc;cases hc
      simp[this,hc]
     refine⟨fun c=>if c=b then some cs else F c,?_,hmono,fin (by simp) hmono⟩;rw[hst];have hle:Le F ρ st.nx (fun c=>if c=b then some cs else F c) ρ st.nx:=Le.YG hmono;have get':∀k ok,AO (Dx st.ob id (.arr true e s l)) k=some ok->∃o2,AO st.ob k=some o2:=by
      intro k ok hk;rw[hset]at hk;by_cases ek:k=id
      ·exact⟨_,ek▸ho⟩
      ·rw[wc ek]at hk;exact⟨ok,hk⟩
     refine⟨fun j oj hj=>?_,fun i j oi oj c m m' hi hj g1 g2=>?_,fun c cs' hc=>?_,hr.own,fun j hj=>?_,hr.old,hr.lt,hr.le,fun c cs' hc=>?_,hr.gl,hr.pn⟩
     ·have hj:AO (Dx st.ob id (.arr true e s l)) j=some oj:=hj;rw[hset]at hj;by_cases ej:j=id
      ·subst ej;simp only[wk,zn]at hj;subst hj;refine⟨b,n,_,h1,h2,⟨cs,fz',rfl,h4.mono hmono,h5,h6⟩,fun e=>(by cases e),fun _=>⟨cs,_,_,rfl,by simp⟩⟩
      ·rw[wc ej]at hj;obtain⟨c,m,y,g1,g2,g3,g4,g5⟩:=hr.obj j oj hj;have hne:c≠b:=fun ec=>ej (hr.inj j id oj _ c m n hj ho g1 (ec▸h1))
       exact⟨c,m,y,g1,g2,g3.mono hle,fun e=>by simp[hne,g4 e],fun e=>by obtain⟨a1,a2,a3,a4,a5⟩:=g5 e;exact⟨a1,a2,a3,a4,by simp[hne,a5]⟩⟩
     ·obtain⟨_,k1⟩:=get' i oi hi;obtain⟨_,k2⟩:=get' j oj hj;exact hr.inj i j _ _ c m m' k1 k2 g1 g2
     ·split at hc
      ·rename_i ec;cases hc;subst ec;exact⟨_,_,h2⟩
      ·exact hr.frz c cs' hc
     ·have hj:AO (Dx st.ob id (.arr true e s l)) j=none:=hj;rw[hset]at hj;split at hj
      ·cases hj
      ·exact hr.dead j hj
     ·split at hc
      ·rename_i ec;subst ec;exact .inr (hr.own id c n h1).2
      ·exact hr.fo c cs' hc
 |dat s x=>exact same (fun y hy ρ' N'=>by simp only[CD,zn,yg,true_and]at hy;subst hy;unfold PR at hp ⊢;exact hp) rfl
 |bl b=>exact same (fun y hy ρ' N'=>by simp only[CD,zn,yg,true_and]at hy;subst hy;unfold PR at hp ⊢;exact hp) rfl
 |nil=>exact same (fun y hy ρ' N'=>by simp only[CD,zn,yg,true_and]at hy;subst hy;unfold PR at hp ⊢;exact hp) rfl
 |any|ub|yl _|nilp|nilm|nilf|nili|agg _|tup _|ptr _ _|eptr _ _ _ _|FO _ _ _|mp _|fn _ _ _=>exact same (fun x hx=>by simp[CD]at hx) rfl
theorem H3:∀ {ps:List PV} {vs:List V} {st:AK} {F:Fz},SR B h0 F ρ st.nx st.ob h->Bc F ρ st.nx ps vs->
  ∃F1,SR B h0 F1 ρ (Bq ps st).nx (Bq ps st).ob h/\(∀b cs,F b=some cs->F1 b=some cs)/\∀xs,EA st ps=some (true,xs)->LQ F1 xs vs
 |[],vs,st,F,hr,hp=>⟨F,hr,fun _ _ h=>h,fun xs hx=>by
  cases hx;have hv:vs=[]:=by simpa using hp
  subst hv;intro ρ' N';simp⟩
 |p::ps,vs,st,F,hr,hp=>by
  simp only[Bc]at hp;obtain⟨v,vs,rfl,h1,h2⟩:=hp;obtain⟨F1,g1,g2,g3⟩:=MB hr h1;have h2':Bc F1 ρ (Bz st p).nx ps vs:=by rw[(Lo st p).1];exact h2.mono (Le.YG g2)
  obtain⟨F2,k1,k2,k3⟩:=H3 g1 h2';refine⟨F2,k1,fun b cs hb=>k2 b cs (g2 b cs hb),fun xs hx=>?_⟩;unfold EA at hx;split at hx
  case h_2=>cases hx
  rename_i c x d xs' e1 e2;simp only[zn,yg,zc]at hx;obtain⟨⟨rfl,rfl⟩,rfl⟩:=hx;exact LQ.cons ((g3 x e1).mono k2) (k3 xs' (by rw[Ma (Mu st p)];exact e2))
theorem cV(hr:SR B h0 F ρ st.nx st.ob h){t:TypeId}{n:Nat}{l:List (Nat×PV)}{l':List (Nat×V)}(hl:sL F ρ st.nx l l'){v:PV}(ht:(SG C.T t n l st).To v st'):OK B h0 F ρ st h [] (E4 (EH C.T h t n l')) v st':=by
 unfold SG at ht;split at ht
 case h_2=>simp at ht
 rename_i e hu;split at ht
 case h_2=>simp at ht
 rename_i i s hi hs;cases hc:(zo (Nat.mul n i.size) 16777216&&zw 0 i.zero.length&&zh i.zero.length i.size&&zh i.size s.sz)with
 |false=>rw[hc]at ht;simp at ht
 |true=>
  rw[hc]at ht;simp only[zc]at hc;obtain⟨⟨⟨c1,c2⟩,c3⟩,c4⟩:=hc;simp only[we]at ht;split at ht
  case h_2=>simp at ht
  rename_i cs hcs;split at ht
  case h_2=>
   split at ht
   case h_2=>simp at ht
   rename_i c cs' hb;split at ht
   case h_2=>simp at ht
   rename_i el hel;simp only[BI]at ht;obtain⟨rfl,rfl,rfl⟩:=ht;have e3:=ze c3;have e4:=ze c4;have hz:Bc F ρ st.nx (JP (i.zero.map Vq) n) (EM i.zero (n*i.size)):=by
    rw[<-e3,Hk];exact JX _ _
   obtain⟨ys,g1,g2⟩:=Ja hr hl hz hcs;have hlen:ys.length=n*s.sz:=by
    rw[<-e4];rw[LH g1];simp[EM]
   obtain⟨F1,j1,j2,j3⟩:=H3 hr g2;obtain⟨k1,k2⟩:=Jf (j3 cs' hb ρ st.nx) hel hlen;have hd:EH C.T h t n l'=some (.sl h.nx 0 n n 0,h.push (.cells ys e (0,0))):=by
    have c1':zo (n*i.size) 16777216=true:=c1;simp only[EH,hu,hi,c1',c2,c3,yv,we,g1,Ie]
   rw[hd];obtain⟨f1,f2,f3⟩:=Dg cs st;have res:=OK.new (F:=F1) (ρ:=ρ) (st:=Bq cs st) j1 (o:=.arr false e s el) (x:=.cells ys e (0,0)) (n:=n) (v:=.sl (Bq cs st).nx s.sz 0 n none) (v':=.sl h.nx 0 n n 0) rfl ⟨_,_,rfl,k2.mono (fun _ _ h=>h),zg _,k1⟩ (Pd (.inl rfl));obtain⟨v',h',F',ρ',q1,q2,q3,q4,q5,q6,q7,q8⟩:=res;rw[f1]at q2;exact⟨v',h',F',ρ',q1,q2,q3,(by rw[f1]at q4;exact(Le.YG j2).trans q4),q5.trans f2,q6.trans f3,q7,q8⟩
  rename_i el hel;simp only[AR]at ht;obtain⟨rfl,rfl⟩:=ht;have e3:=ze c3;have e4:=ze c4;have hz:Bc F ρ st.nx (JP (i.zero.map Vq) n) (EM i.zero (n*i.size)):=by
   rw[<-e3,Hk];exact JX _ _
  obtain⟨ys,g1,g2⟩:=Ja hr hl hz hcs;have hlen:ys.length=n*s.sz:=by
   rw[<-e4];rw[LH g1];simp[EM]
  obtain⟨k1,k2⟩:=Jf g2 hel hlen;have hd:EH C.T h t n l'=some (.sl h.nx 0 n n 0,h.push (.cells ys e (0,0))):=by
   have c1':zo (n*i.size) 16777216=true:=c1;simp only[EH,hu,hi,c1',c2,c3,yv,we,g1,Ie]
  rw[hd];exact OK.new hr (o:=.arr false e s el) (n:=n) rfl ⟨_,_,rfl,k2.mono (fun _ _ h=>h),zg _,k1⟩ (Pd (.inl rfl))
end
section
variable {B:Nat}{h0:H0}{F:Fz}{ρ:D2}{N:Nat}{C:Ctx}{st st':AK}{fr:Fr}{h h':H}
theorem DW{x:Operand}{k:PV->PO}{v:PV}:(v1 st x k).To v st'↔∃p,P2 st x=some p/\(k p).To v st':=by
 unfold v1;cases P2 st x with
 |none=>simp
 |some p=>simp
theorem dU(hf:FP F ρ N st fr){x:Option Operand}{k:Option PV->PO}{v:PV}(ht:(o1 st x k).To v st'):∃p y,UZ C fr x=some y/\S1 F ρ N p y/\(k p).To v st':=by
 unfold o1 at ht;cases x with
 |none=>exact⟨none,none,rfl,rfl,ht⟩
 |some x=>
  obtain⟨p,h1,h2⟩:=DW.1 ht;obtain⟨y,g1,g2⟩:=B4 (C:=C) hf h1;exact⟨some p,some y,by simp[UZ,g1],⟨y,rfl,g2⟩,h2⟩
theorem YQ(hr:SR B h0 F ρ st.nx st.ob h){b:Builtin}{ts:Array TypeId}{ps:List PV}{xs:List V}(hx:Bc F ρ st.nx ps xs){v:PV}(ht:(Is C.T b ts ps st).To v st'):
  OK B h0 F ρ st h (match b with| .append| .clear=>Fi ps| .unsafeString=>tZ ps|_=>[]) (Ek C h b ts xs) v st':=by
 unfold Is at ht;split at ht
 case h_8=>simp at ht
 case h_7=>exact tC hr hx ht
 case h_6=>exact oR hr hx ht
 case h_5=>exact kC hr hx ht
 case h_1=>exact xD hr hx ht
 case h_2=>exact cE hr hx ht
 case h_3=>exact xL (g:=dV) hr (fun k x y=>by simp[dV,imax]) hx ht
 case h_4=>exact xL (g:=cN) hr (fun k x y=>by simp[cN,Es]) hx ht
theorem kE(hr:Rel B h0 F ρ st fr h){o:Oper}{v:PV}(ht:(pop o.op C.T st).To v st'):
  ∃tch,OK B h0 F ρ st h tch (Gc C fr h o) v st'/\∀sp ids,GM sp st o.op=some ids->∀i∈tch,i∈ids:=by
 have nil:∀ {d:Option OR} {op:Op},OK B h0 F ρ st h [] d v st'->∃tch,OK B h0 F ρ st h tch d v st'/\∀sp ids,GM sp st op=some ids->∀i∈tch,i∈ids:=fun h=>⟨[],h,fun _ _ _ i hi=>by cases hi⟩
 have ev1:∀ {x p},P2 st x=some p->∃y,ev C fr x=some y/\PR F ρ st.nx p y:=fun hp=>B4 hr.fp hp
 unfold pop at ht;rw[CR];unfold Gx;cases hop:o.op<;>rw[hop]at ht<;>simp only[Jp,L0]at ht<;>simp only
 case move x|assign x=>
  simp only[VI,Kr]at ht;obtain⟨h1,rfl⟩:=ht;obtain⟨y,g1,g2⟩:=ev1 h1;refine nil ?_;rw[g1];exact zj hr.sr rfl g2
 case pick c a b=>
  simp only[iK,DW]at ht;obtain⟨p,h1,q,h2,r,h3,ht⟩:=ht;obtain⟨x,g1,g2⟩:=ev1 h1;obtain⟨y,g3,g4⟩:=ev1 h2;obtain⟨z,g5,g6⟩:=ev1 h3;obtain⟨t,rfl,hk⟩:=rD hr.sr g2 g4 g6 ht;refine nil ?_;rw[g1];simp only;cases t
  ·simpa [g5]using hk
  ·simpa [g3]using hk
 case alloc t=>exact nil (kQ hr.sr ht)
 case box t x=>
  simp only[qK,DW]at ht;obtain⟨p,h1,ht⟩:=ht;obtain⟨y,g1,g2⟩:=ev1 h1;split at ht
  case h_2=>simp at ht
  rename_i cs hcs;cases hs:Det.KS (JG st) cs with
  |false=>rw[hs]at ht;simp at ht
  |true=>
  rw[hs]at ht;simp only[we,AR]at ht;obtain⟨rfl,rfl⟩:=ht;refine nil ?_;rw[g1];exact vG hr.sr g2 hcs (by rw[<-E8];exact hs)
 case build t ps=>
  simp only[Yv]at ht;split at ht
  case h_2=>simp at ht
  rename_i l hl;obtain⟨l',g1,g2⟩:=N8 (C:=C) hr.fp hl;refine nil ?_;rw[g1];exact kA hr.sr g2 ht
 case buildSlice t n ps=>
  simp only[Uz]at ht;split at ht
  case h_2=>simp at ht
  rename_i l hl;obtain⟨l',g1,g2⟩:=N8 (C:=C) hr.fp hl;refine nil ?_;rw[g1];exact cV hr.sr g2 ht
 case load t x=>
  simp only[cL,DW]at ht;obtain⟨p,h1,ht⟩:=ht;obtain⟨y,g1,g2⟩:=ev1 h1;refine nil ?_;rw[g1];exact cZ hr.sr g2 ht
 case store t x y=>
  simp only[WW,DW]at ht;obtain⟨p,h1,q,h2,ht⟩:=ht;obtain⟨a,g1,g2⟩:=ev1 h1;obtain⟨b,g3,g4⟩:=ev1 h2;obtain⟨id,hid,hk⟩:=oA hr.sr g2 g4 ht;refine⟨[id],by rw[g1,g3];exact hk,fun sp ids hids=>?_⟩;simp only[GM,h1]at hids;rcases hid with⟨off,rfl⟩|⟨sz,j,off,rfl⟩<;>(simp only[zn]at hids;subst hids;intro i hi;exact hi)
 case nilCheck x=>
  simp only[NZ,DW]at ht;obtain⟨p,h1,ht⟩:=ht;obtain⟨y,g1,g2⟩:=ev1 h1;rw[g1];split at ht
  case h_4=>simp at ht
  case h_1=>
   rename_i id off;cases hl:HW (st.obj id)with
   |false=>rw[hl]at ht;simp at ht
   |true=>
    rw[hl]at ht;simp only[we,AR]at ht;obtain⟨rfl,rfl⟩:=ht;obtain⟨b,n,k1⟩:=hr.sr.live hl;have g2':=g2;simp only[PR]at g2';obtain rfl:=g2'.2 b n k1;exact nil (zj hr.sr rfl g2)
  case h_2=>
   rename_i id sz j off;cases hl:HW (st.obj id)with
   |false=>rw[hl]at ht;simp at ht
   |true=>
    rw[hl]at ht;simp only[we,AR]at ht;obtain⟨rfl,rfl⟩:=ht;obtain⟨b,n,k1⟩:=hr.sr.live hl;have g2':=g2;simp only[PR]at g2';obtain rfl:=g2'.2 b n k1;exact nil (zj hr.sr rfl g2)
  case h_3=>
   simp only[AR]at ht;obtain⟨rfl,rfl⟩:=ht;have g2':=g2;simp only[PR]at g2';obtain⟨b,o',cs,rfl,_⟩:=g2';exact nil (zj hr.sr rfl g2)
 case binOp op t x y t2=>
  simp only[pR,DW]at ht;obtain⟨p,h1,q,h2,ht⟩:=ht;obtain⟨a,g1,g2⟩:=ev1 h1;obtain⟨b,g3,g4⟩:=ev1 h2;refine nil ?_;rw[g1,g3];split at ht
  case h_2=>exact xE hr.sr g2 g4 ht
  rename_i r hn;simp only[AR]at ht;obtain⟨rfl,rfl⟩:=ht;unfold qQ at hn;split at hn
  case h_3=>cases hn
  all_goals
   rename_i m hu;cases hc:(WY x||WY y)with
   |false=>rw[hc]at hn;cases hn
   |true=>
    rw[hc]at hn;cases hn;simp only[PR]at g2 g4;subst g2 g4;exact zj hr.sr (by simp only[Mw,kZ,hu,hc,we,Bv]) (Iv _)
 case unOp op t x=>
  simp only[xJ,DW]at ht;obtain⟨p,h1,ht⟩:=ht;obtain⟨y,g1,g2⟩:=ev1 h1;refine nil ?_;rw[g1];exact zM hr.sr g2 ht
 case convert s d x=>
  simp only[aH,DW]at ht;obtain⟨p,h1,ht⟩:=ht;obtain⟨y,g1,g2⟩:=ev1 h1;refine nil ?_;rw[g1];exact tE hr.sr g2 ht
 case makeFunc f a b=>
  simp only[gQ]at ht;split at ht
  case h_2=>simp at ht
  rename_i x y hx hy;simp only[AR]at ht;obtain⟨rfl,rfl⟩:=ht;obtain⟨u,g1,g2⟩:=EO (C:=C) hr.fp hx;obtain⟨w,g3,g4⟩:=EO (C:=C) hr.fp hy;refine nil ?_;rw[g1,g3];exact zj hr.sr rfl (by unfold PR;exact⟨_,_,rfl,g2,g4⟩)
 case makeMap t r=>
  simp only[WN]at ht;split at ht
  case h_2=>simp at ht
  refine nil ?_;exact mW hr.sr ht
 case lookup t x i ok=>
  simp only[UO,DW]at ht;obtain⟨p,h1,q,h2,ht⟩:=ht;obtain⟨a,g1,g2⟩:=ev1 h1;obtain⟨b,g3,g4⟩:=ev1 h2;refine nil ?_;rw[g1,g3];exact aJ hr.sr g2 g4 ht
 case mapUpdate t m k x|insert t m k x=>
  simp only[Py,DW]at ht;obtain⟨p,h1,q,h2,r,h3,ht⟩:=ht;obtain⟨a,g1,g2⟩:=ev1 h1;obtain⟨b,g3,g4⟩:=ev1 h2;obtain⟨c,g5,g6⟩:=ev1 h3;obtain⟨id,rfl,hk⟩:=dZ hr.sr g2 g4 g6 ht;refine⟨[id],by rw[g1,g3,g5];exact hk,fun sp ids hids=>?_⟩;simp only[GM,h1,zn]at hids;subst hids;intro i hi;exact hi
 case makeSlice t l c=>
  simp only[eW,DW]at ht;obtain⟨p,h1,q,h2,ht⟩:=ht;obtain⟨a,g1,g2⟩:=ev1 h1;obtain⟨b,g3,g4⟩:=ev1 h2;refine nil ?_;rw[g1,g3];exact rR hr.sr g2 g4 ht
 case slice t x lo hi mx=>
  simp only[Xe,DW]at ht;obtain⟨p,h1,ht⟩:=ht;obtain⟨a,g1,g2⟩:=ev1 h1;obtain⟨l,l',k1,k2,ht⟩:=dU (C:=C) hr.fp ht;obtain⟨m,m',k3,k4,ht⟩:=dU (C:=C) hr.fp ht;obtain⟨n,n',k5,k6,ht⟩:=dU (C:=C) hr.fp ht;refine nil ?_;rw[g1,k1,k3,k5];exact mL hr.sr g2 k2 k4 k6 ht
 case fieldAddr t x f=>
  simp only[XN,DW]at ht;obtain⟨p,h1,ht⟩:=ht;obtain⟨y,g1,g2⟩:=ev1 h1;refine nil ?_;rw[g1];exact jT hr.sr g2 ht
 case field t x f=>
  simp only[XA,DW]at ht;obtain⟨p,h1,ht⟩:=ht;obtain⟨y,g1,g2⟩:=ev1 h1;refine nil ?_;rw[g1];exact jR hr.sr g2 ht
 case indexAddr t x i=>
  simp only[WT,DW]at ht;obtain⟨p,h1,q,h2,ht⟩:=ht;obtain⟨a,g1,g2⟩:=ev1 h1;obtain⟨b,g3,g4⟩:=ev1 h2;refine nil ?_;rw[g1,g3];exact pC hr.sr g2 g4 ht
 case index t x i=>
  simp only[X6,DW]at ht;obtain⟨p,h1,q,h2,ht⟩:=ht;obtain⟨a,g1,g2⟩:=ev1 h1;obtain⟨b,g3,g4⟩:=ev1 h2;refine nil ?_;rw[g1,g3];exact pD hr.sr g2 g4 ht
 case extract x i=>
  simp only[Qc,DW]at ht;obtain⟨p,h1,ht⟩:=ht;obtain⟨y,g1,g2⟩:=ev1 h1;refine nil ?_;rw[g1];exact ZP hr.sr g2 ht
 case range t x=>
  simp only[Xh,DW]at ht;obtain⟨p,h1,ht⟩:=ht;obtain⟨y,g1,g2⟩:=ev1 h1;refine nil ?_;rw[g1];exact mH hr.sr g2 ht
 case next x i=>
  simp only[fG,DW]at ht;obtain⟨p,h1,ht⟩:=ht;obtain⟨y,g1,g2⟩:=ev1 h1;obtain⟨rfl,id,off,rfl,hk⟩:=sR hr.sr g2 ht;refine⟨[id],by rw[g1];exact hk,fun sp ids hids=>?_⟩;simp only[GM]at hids;cases hids
 case call c=>
  simp only[Sd]at ht;split at ht
  case h_1=>simp at ht
  rename_i args hargs;obtain⟨args',g1,g2⟩:=EO (C:=C) hr.fp hargs;split at ht
  case h_2=>simp at ht
  case h_1=>
   rename_i b hb;split at ht
   case h_1=>
    obtain⟨id,qs,rfl,hk⟩:=dJ hr.sr g2 ht;refine⟨[id],by rw[hb,g1];exact hk,fun sp ids hids=>?_⟩;simp only[GM,hb,hargs,zn]at hids;subst hids;intro i hi;exact hi
   case h_2=>
   have:=YQ hr.sr g2 ht;refine⟨_,by rw[hb,g1];exact this,fun sp ids hids=>?_⟩;simp only[GM,hb,hargs]at hids;cases b<;>simp only at hids ⊢<;>try (first|(intro i hi;cases hi;done)|(cases hids;done))
   case append=>
    cases args with
    |nil=>simp[Fi]
    |cons p ps=>cases p<;>simp only[zn]at hids<;>subst hids<;>(intro i hi;exact hi)
   case unsafeString=>
    cases args with
    |nil=>simp[tZ]
    |cons p ps=>cases p<;>first|(cases hids;done)|(cases hids;intro i hi;exact hi)
end
section
variable {B:Nat}{h0:H0}{F:Fz}{ρ:D2}{N:Nat}{X:A1}{st st':AK}{fr:Fr}{h h':H}{Q:PV->Ob->Prop}{n:Nat}
@[simp] theorem C0(st:AK)(t:Nat)(p:PV)(s:Nat):(st.set t p).get s=if s=t then p else st.get s:=by
 unfold AK.get AK.set;simp only[PM.C0];split<;>rfl
theorem Rel.set(hr:Rel B h0 F ρ st fr h){t:Nat}{p:PV}{x:V}(hp:PR F ρ st.nx p x):Rel B h0 F ρ (st.set t p) ⟨fr.n,fr.m.set t (some x)⟩ h:=by
 refine⟨⟨hr.fp.n,fun s=>?_⟩,hr.sr⟩;rw[C0];unfold Fr.get;simp only[PM.C0];split
 ·exact hp
 ·exact hr.fp.slot s
theorem Rel.note(hr:Rel B h0 F ρ st fr h){t:Nat}{p:PV}(hp:PR F ρ st.nx p (fr.get t)):Rel B h0 F ρ (st.set t p) fr h:=by
 refine⟨⟨hr.fp.n,fun s=>?_⟩,hr.sr⟩;rw[C0];split
 ·rename_i e;subst e;exact hp
 ·exact hr.fp.slot s
theorem Rel.put(hr:Rel B h0 F ρ st fr h){d:Option Nat}{p:PV}{x:V}(hp:PR F ρ st.nx p x)(hd:st.put d p=some st'):∃fr',fr.put d x=some fr'/\Rel B h0 F ρ st' fr' h/\st'.nx=st.nx/\st'.ob=st.ob:=by
 unfold AK.put at hd;unfold Fr.put;cases d with
 |none=>cases hd;exact⟨fr,rfl,hr,rfl,rfl⟩
 |some t=>
  simp only at hd ⊢;have hn:st.n=fr.n:=hr.fp.n;rw[hn]at hd;cases hb:zw t fr.n with
  |false=>rw[hb]at hd;cases hd
  |true=>
   rw[hb]at hd;simp only[we,zn]at hd;subst hd;exact⟨_,rfl,hr.set hp,rfl,rfl⟩
structure C6(B:Nat)(h0:H0)(F:Fz)(ρ:D2)(N:Nat)(h:H)(st':AK)(fr':Fr)(h':H)(F':Fz)(ρ':D2):Prop where
 rel:Rel B h0 F' ρ' st' fr' h'
 le:Le F ρ N F' ρ' st'.nx
 nx:h.nx<=h'.nx
theorem C6.refl(hr:Rel B h0 F ρ st fr h):C6 B h0 F ρ st.nx h st fr h F ρ:=⟨hr,yj,zg _⟩
theorem C6.trans{F' F'':Fz}{ρ' ρ'':D2}{st'':AK}{fr' fr'':Fr}{h'':H}(a:C6 B h0 F ρ N h st' fr' h' F' ρ')(b:C6 B h0 F' ρ' st'.nx h' st'' fr'' h'' F'' ρ''):C6 B h0 F ρ N h st'' fr'' h'' F'' ρ'':=
 ⟨b.rel,a.le.trans b.le,yx a.nx b.nx⟩
def xU(X:A1)(ρ:D2)(h:H)(args':List V):uD->Cl->Prop
 | .fn g,c=>c=.fn g args'/\X.C.prim g=none/\∃i,X.C.fn g=some i
 | .rnd id,c=>∃b n ls,ρ id=some (b,n)/\h.get b=some (.loop ls)/\args'.length=ls.ps.size/\c=.rnd b ls (Gj ls.ps.toList args' ls.fr)
inductive MJ (X:A1) (ρ:D2) (h:H) (args':List V):uD->List (V×H)->Prop where
 |Bj {g:uD} {c:Cl} {l:List (V×H)} {M:Nat}:xU X ρ h args' g c->(∀m,M<=m->Det.Bj X.C m c h=some l)->MJ X ρ h args' g l
 |prim {g:FuncId} {q:List V->H->Option (V×H)} {x:V×H}:X.C.prim g=some q->q args' h=some x->MJ X ρ h args' (.fn g) [x]
def E5(B:Nat)(h0:H0)(X:A1)(nd:Bool)(call:Fy):Prop:=
 ∀ {Q:PV->Ob->Prop} {n:Nat} {g:uD} {args:List PV} {st:AK} {k:PV->AK->Tr},Ev X Q n (call g args st k)->∀ {F:Fz} {ρ:D2} {fr:Fr} {h:H} {args':List V},Rel B h0 F ρ st fr h->Bc F ρ st.nx args args'->
  ∃l,MJ X ρ h args' g l/\(nd=false->∃x,l=[x])/\
   ∀x∈l,∃n',n'<=n/\∃r st',Ev X Q n' (k r st')/\∃F' ρ',PR F' ρ' st'.nx r x.1/\C6 B h0 F ρ st.nx h st' fr x.2 F' ρ'/\(∀gg,g=.fn gg->∀sp,X.sp gg=some sp->∀b,b<h.nx->x.2.get b=h.get b)
theorem Ev.EC{c:Bool}{a b:Tr}(he:Ev X Q n (.ite c a b)):(c=true/\Ev X Q n a)\/(c=false/\Ev X Q n b):=by
 cases he with
 |ite h1 h2=>
  cases c with
  |true=>exact .inl ⟨rfl,h1 rfl⟩
  |false=>exact .inr ⟨rfl,h2 rfl⟩
theorem Ev.Ts{a b:Tr}(he:Ev X Q n (.both a b)):Ev X Q n a/\Ev X Q n b:=by
 cases he with
 |both h1 h2=>exact⟨h1,h2⟩
theorem Ev.AD:¬Ev X Q n .fail:=fun h=>by cases h
theorem Ev.W5{v:PV}{ob:Ob}(he:Ev X Q n (.leaf v ob)):Q v ob:=by
 cases he with
 |leaf h=>exact h
theorem MC(hr:Rel B h0 F ρ st fr h){ops:Array Oper}{o:Oper}{yes no:AK->Tr}(he:Ev X Q n (guarded ops o st yes no)):
  ∃st1,Rel B h0 F ρ st1 fr h/\st1.nx=st.nx/\st1.ob=st.ob/\((Ba fr ops o=true/\Ev X Q n (yes st1))\/(Ba fr ops o=false/\Ev X Q n (no st1))):=by
 unfold guarded at he;unfold Ba;cases hg:o.guard with
 |none=>rw[hg]at he;exact⟨st,hr,rfl,rfl,.inl ⟨rfl,he⟩⟩
 |some jw=>
  obtain⟨j,want⟩:=jw;rw[hg]at he;simp only at he ⊢;cases hb:(ops[j]?).bind (·.dst)with
  |none=>rw[hb]at he;exact wh he Ev.AD
  |some t=>
   rw[hb]at he;simp only at he ⊢;rw[show st.n=fr.n from hr.fp.n]at he;cases hlt:zw t fr.n with
   |false=>rw[hlt]at he;exact wh he Ev.AD
   |true=>
    rw[hlt]at he;simp only[we]at he ⊢;have hs:=hr.fp.slot t;split at he
    case h_1=>
     rename_i b hb2;rw[hb2]at hs;rw[Pb hs];refine⟨st,hr,rfl,rfl,?_⟩;cases hbw:(b==want)with
     |true=>rw[hbw]at he;exact .inl ⟨hbw,he⟩
     |false=>rw[hbw]at he;exact .inr ⟨hbw,he⟩
    case h_2=>
     rename_i b hb2;rw[hb2]at hs;have hv:=HB hs;have note:∀c:Bool,b=c->Rel B h0 F ρ (st.set t (.bl c)) fr h:=by
      rintro c rfl;exact hr.note (by rw[hv];exact Iv _)
     rw[hv];cases want with
     |true=>
      simp only[we]at he;rcases he.EC with⟨hb3,he⟩|⟨hb3,he⟩
      ·exact⟨_,note true hb3,rfl,rfl,.inl ⟨by rw[show b=true from hb3];rfl,he⟩⟩
      ·exact⟨_,note false hb3,rfl,rfl,.inr ⟨by rw[show b=false from hb3];rfl,he⟩⟩
     |false=>
      simp only[wg]at he;rcases he.EC with⟨hb3,he⟩|⟨hb3,he⟩
      ·exact⟨_,note true hb3,rfl,rfl,.inr ⟨by rw[show b=true from hb3];rfl,he⟩⟩
      ·exact⟨_,note false hb3,rfl,rfl,.inl ⟨by rw[show b=false from hb3];rfl,he⟩⟩
    case h_5=>exact wh he Ev.AD
    case h_4=>
     rename_i hb2;rw[hb2]at hs;simp only[PR]at hs;obtain⟨b,hv⟩:=hs;have note:∀c:Bool,b=c->Rel B h0 F ρ (st.set t (.bl c)) fr h:=by
      rintro c rfl;exact hr.note (by rw[hv];exact Iv _)
     obtain⟨he1,he2⟩:=he.Ts;rw[hv];cases b with
     |true=>
      cases want with
      |true=>exact⟨_,note true rfl,rfl,rfl,.inl ⟨rfl,he1⟩⟩
      |false=>exact⟨_,note true rfl,rfl,rfl,.inr ⟨rfl,he1⟩⟩
     |false=>
      cases want with
      |true=>exact⟨_,note false rfl,rfl,rfl,.inr ⟨rfl,he2⟩⟩
      |false=>exact⟨_,note false rfl,rfl,rfl,.inl ⟨rfl,he2⟩⟩
    case h_3=>
     rename_i l hb2;rw[hb2]at hs;simp only[PR]at hs;obtain⟨cs,hv,_⟩:=hs;rw[hv];exact⟨st,hr,rfl,rfl,.inr ⟨rfl,he⟩⟩
theorem I5{d:Option Nat}{k:AK->Tr}:∀ {po:PO},Ev X Q n (Oe d k po)->∃u s st1,po.To u s/\s.put d u=some st1/\Ev X Q n (k st1)
 | .bad,he=>wh he Ev.AD
 | .val u s,he=>by
  simp only[Oe]at he;split at he
  ·rename_i s1 hs;exact⟨u,s,s1,.val,hs,he⟩
  ·exact wh he Ev.AD
 | .ite c a b,he=>by
  simp only[Oe]at he;rcases he.EC with⟨rfl,he2⟩|⟨rfl,he2⟩
  ·obtain⟨u,s,s1,h1,h2⟩:=I5 he2;exact⟨u,s,s1,.tt h1,h2⟩
  ·obtain⟨u,s,s1,h1,h2⟩:=I5 he2;exact⟨u,s,s1,.ff h1,h2⟩
inductive nC (X:A1) (fr:Fr) (h:H) (o:Oper):List (V×H)->Prop where
 |val {x:V} {h':H}:Gc X.C fr h o=some (.val x h')->nC X fr h o [(x,h')]
 |skip {h':H}:Gc X.C fr h o=some (.skip h')->nC X fr h o [(.tup [],h')]
 |alts {l:List (V×H)}:Gc X.C fr h o=some (.alts l)->nC X fr h o l
 |call {g:FuncId} {args:List V} {l:List (V×H)} {M:Nat}:Gc X.C fr h o=some (.enter g args)->(∀m,M<=m->Bj X.C m (.fn g args) h=some l)->nC X fr h o l
 |round {b:Nat} {ls:LS} {f:Fr} {l:List (V×H)} {M:Nat}:Gc X.C fr h o=some (.round b ls f)->(∀m,M<=m->Bj X.C m (.rnd b ls f) h=some l)->nC X fr h o l
theorem Hn{nd:Bool}{call:Fy}(hcall:E5 B h0 X nd call)(hr:Rel B h0 F ρ st fr h){o:Oper}{k:AK->Tr}(he:Ev X Q n (He X.C.T call o st k)):
  ∃l,nC X fr h o l/\((nd=false->(∃x,l=[x])/\∀l',Gc X.C fr h o≠some (.alts l'))/\((∀id a,J0 st o.op≠ .yes (.rnd id) a)->∀b ls f,Gc X.C fr h o≠some (.round b ls f)))/\∀x∈l,∃n',n'<=n/\∃st1,Ev X Q n' (k st1)/\∃F' ρ' fr',fr.put o.dst x.1=some fr'/\C6 B h0 F ρ st.nx h st1 fr' x.2 F' ρ'/\
   ∀ids,GM X.sp st o.op=some ids->∀b,b<h.nx->x.2.get b=h.get b\/∃id∈ids,∃m,ρ id=some (b,m):=by
 unfold He at he;split at he
 case h_2=>exact wh he Ev.AD
 case h_1=>
  rename_i g args hc;unfold J0 at hc;split at hc
  case h_2=>cases hc
  rename_i c hop;split at hc
  case h_2=>cases hc
  rename_i f hcal;split at hc
  case h_3=>cases hc
  case h_2=>
   rename_i id ps hf hps;cases hc;obtain⟨fv,f1,f2⟩:=B4 (C:=X.C) hr.fp hf;obtain⟨av,a1,a2⟩:=EO (C:=X.C) hr.fp hps;simp only[PR]at f2;obtain⟨l,hcd,hnd,hall⟩:=hcall he hr a2;obtain⟨hcd1,hM⟩:=hcd;obtain⟨b,m,ls,c1,c2,c3,rfl⟩:=hcd1;obtain rfl:=f2.2 b m c1;have hdop:Gc X.C fr h o=some (.round b ls (Gj ls.ps.toList av ls.fr)):=by
    rw[CR];unfold Gx;have hb:zh av.length ls.ps.size=true:=by rw[c3];exact yc _
    simp only[hop,hcal,a1,f1,K3,c2,hb,we]
   refine⟨l,.round hdop hM,⟨fun e=>⟨hnd e,fun l'=>by rw[hdop];intro h;cases h⟩,fun hno=>?_⟩,fun x hx=>?_⟩
   ·exact wh (by unfold J0;simp only[hop,hcal,hf,hps]) (hno id args)
   obtain⟨n',hn,r,st',he',F',ρ',hp,hw,hsp⟩:=hall x hx;split at he'
   case h_2=>exact wh he' Ev.AD
   rename_i st1 hput;obtain⟨fr',g1,g2,g3,g4⟩:=hw.rel.put hp hput;refine⟨n',hn,st1,he',F',ρ',fr',g1,⟨g2,by rw[g3];exact hw.le,hw.nx⟩,fun ids hids b hb=>?_⟩;simp only[hop,GM,hcal,hf]at hids;cases hids
  rename_i g' first cap ps hf hps
  cases hc;obtain⟨fv,f1,f2⟩:=B4 (C:=X.C) hr.fp hf;obtain⟨av,a1,a2⟩:=EO (C:=X.C) hr.fp hps;simp only[PR]at f2;obtain⟨fa,fb,rfl,f3,f4⟩:=f2;have hargs:Bc F ρ st.nx (first++ps++cap) (fa++av++fb):=(f3.append a2).append f4;obtain⟨l,hcd,hnd,hall⟩:=hcall he hr hargs;have hdid:nC X fr h o l/\(∀l',Gc X.C fr h o≠some (.alts l'))/\∀b ls f,Gc X.C fr h o≠some (.round b ls f):=by
   cases hcd with
   |Bj hc hM=>
    obtain⟨rfl,hprim,i,hfn⟩:=hc;have hdop:Gc X.C fr h o=some (.enter g' (fa++av++fb)):=by
     rw[CR];unfold Gx;simp only[hop,hcal,a1,f1,K3,hprim,hfn]
    exact⟨.call hdop hM,fun l'=>(by rw[hdop];intro h;cases h),fun b ls f=>(by rw[hdop];intro h;cases h)⟩
   |prim hq hx=>
    rename_i q x;have hdop:Gc X.C fr h o=some (.val x.1 x.2):=by
     rw[CR];unfold Gx;simp only[hop,hcal,a1,f1,K3,hq,hx,E4]
    exact⟨.val hdop,fun l'=>(by rw[hdop];intro h;cases h),fun b ls f=>(by rw[hdop];intro h;cases h)⟩
  refine⟨l,hdid.1,⟨fun e=>⟨hnd e,hdid.2.1⟩,fun _=>hdid.2.2⟩,fun x hx=>?_⟩;obtain⟨n',hn,r,st',he',F',ρ',hp,hw,hsp⟩:=hall x hx;split at he'
  case h_2=>exact wh he' Ev.AD
  rename_i st1 hput;obtain⟨fr',g1,g2,g3,g4⟩:=hw.rel.put hp hput;refine⟨n',hn,st1,he',F',ρ',fr',g1,⟨g2,by rw[g3];exact hw.le,hw.nx⟩,fun ids hids b hb=>?_⟩;simp only[hop,GM,hcal,hf]at hids;cases hs:X.sp g' with
  |none=>rw[hs]at hids;cases hids
  |some sp=>exact .inl (hsp g' rfl sp hs b hb)
 case h_3=>
  obtain⟨u,s,st1,h1,h2,h3⟩:=I5 he;obtain⟨tch,⟨v',h',F',ρ',g1,g2,g3,g4,g5,g6,g7,g8⟩,htch⟩:=kE (C:=X.C) hr h1;have hrs:Rel B h0 F' ρ' s fr h':=⟨⟨by rw[g6];exact hr.fp.n,fun t=>by
   have:s.get t=st.get t:=by unfold AK.get;rw[g5]
   rw[this];exact(hr.fp.slot t).mono g4⟩,g3⟩
  obtain⟨fr',k1,k2,k3,k4⟩:=hrs.put g2 h2;refine⟨[(v',h')],?_,⟨fun _=>⟨⟨_,rfl⟩,fun l'=>by rcases g1 with g1|⟨g1,_⟩<;>rw[g1]<;>intro h<;>cases h⟩,fun _ b ls f=>by rcases g1 with g1|⟨g1,_⟩<;>rw[g1]<;>intro h<;>cases h⟩,fun x hx=>?_⟩
  ·rcases g1 with g1|⟨g1,rfl⟩
   ·exact .val g1
   ·exact .skip g1
  ·cases zm.1 hx;refine⟨n,zg _,st1,h3,F',ρ',fr',k1,⟨k2,by rw[k3];exact g4,g7⟩,fun ids hids b hb=>?_⟩;rcases g8 b hb with e|⟨id,hi,m,e⟩
   ·exact .inl e
   ·exact .inr ⟨id,htch _ _ hids id hi,m,e⟩
theorem tU{α β:Type}{f:α->Option (List β)}{x:α}:bl [x] f=f x:=by
 unfold bl;cases f x<;>rfl
theorem Ln{α β:Type}{f:Nat->Nat->α->Option (List β)}{P:β->Prop}{nd:Bool}{l:List α}(hone:nd=false->∃x,l=[x])(h:∀a∈l,∃r M,(∀m,M<=m->∀q,M<=q->f m q a=some r)/\(nd=false->∃x,r=[x])/\∀y∈r,P y):
  ∃r M,(∀m,M<=m->∀q,M<=q->bl l (f m q)=some r)/\(nd=false->∃x,r=[x])/\∀y∈r,P y:=by
 cases nd with
 |false=>
  obtain⟨x,rfl⟩:=hone rfl;obtain⟨r,M,h1,h2,h3⟩:=h x (zm.2 rfl);exact⟨r,M,fun m hm q hq=>by rw[tU];exact h1 m hm q hq,h2,h3⟩
 |true=>
  clear hone;suffices hs:∃r M,(∀m,M<=m->∀q,M<=q->bl l (f m q)=some r)/\∀y∈r,P y by
   obtain⟨r,M,h1,h2⟩:=hs;exact⟨r,M,h1,fun e=>(by cases e),h2⟩
  induction l with
  |nil=>exact⟨[],0,fun _ _ _ _=>rfl,fun y hy=>by cases hy⟩
  |cons a l ih=>
   obtain⟨r,M,h1,_,h2⟩:=h a List.mem_cons_self;obtain⟨r2,M2,h3,h4⟩:=ih (fun x hx=>h x (List.mem_cons_of_mem _ hx));cases l with
   |nil=>exact⟨r,M,fun m hm q hq=>(by simp only[bl,h1 m hm q hq]),h2⟩
   |cons b l=>
    refine⟨r++r2,max M M2,fun m hm q hq=>?_,fun y hy=>?_⟩
    ·unfold bl;rw[h1 m (by omega) q (by omega)];simp only;rw[h3 m (by omega) q (by omega)]
    ·rcases List.mem_append.1 hy with hy|hy
     ·exact h2 y hy
     ·exact h4 y hy
theorem Oi{d:Option Nat}{P:Fr×H->Prop}:∀ {l:List (V×H)},(∀x∈l,∃fr',fr.put d x.1=some fr'/\P (fr',x.2))->∃r,HG fr d l=some r/\(∀y∈r,P y)/\((∃x,l=[x])->∃y,r=[y])
 |[],_=>⟨[],rfl,fun y hy=>(by cases hy),fun⟨x,h⟩=>by cases h⟩
 |x::l,h=>by
  obtain⟨fr',h1,h2⟩:=h x List.mem_cons_self;obtain⟨r,h3,h4,_⟩:=Oi (l:=l) (fun y hy=>h y (List.mem_cons_of_mem _ hy));refine⟨(fr',x.2)::r,?_,fun y hy=>?_,fun⟨z,hz⟩=>?_⟩
  ·obtain⟨v,hv⟩:=x;unfold HG;rw[h1];simp only;rw[h3]
  ·rcases List.mem_cons.1 hy with rfl|hy
   ·exact h2
   ·exact h4 y hy
  ·cases hz;cases h3;exact⟨_,rfl⟩
theorem nC.zR{l:List (V×H)}{o:Oper}{ops:Array Oper}(hd:nC X fr h o l)(hw:Ba fr ops o=true){P:Fr×H->Prop}(hp:∀x∈l,∃fr',fr.put o.dst x.1=some fr'/\P (fr',x.2)):
  ∃r M,(∀m,M<=m->step1 X.C (Bj X.C m) ops o fr h=some r)/\((∃x,l=[x])->∃y,r=[y])/\∀y∈r,P y:=by
 obtain⟨r,h3,h4,h5⟩:=Oi hp;cases hd with
 |@val x h' hd=>
  obtain⟨fr',k1,k2⟩:=hp _ (zm.2 rfl);exact⟨[(fr',h')],0,fun m _=>(by simp only[step1,hw,we,IA,hd,k1]),fun _=>⟨_,rfl⟩,fun y hy=>by cases zm.1 hy;exact k2⟩
 |@skip h' hd=>
  obtain⟨fr',k1,k2⟩:=hp _ (zm.2 rfl);exact⟨[(fr',h')],0,fun m _=>(by simp only[step1,hw,we,IA,hd,k1]),fun _=>⟨_,rfl⟩,fun y hy=>by cases zm.1 hy;exact k2⟩
 |alts hd=>exact⟨r,0,fun m _=>by simp only[step1,hw,we,IA,hd,h3],h5,h4⟩
 |@call g args l M hd hM=>exact⟨r,M,fun m hm=>by simp only[step1,hw,we,IA,hd,hM m hm,h3],h5,h4⟩
 |@round b ls f l M hd hM=>exact⟨r,M,fun m hm=>by simp only[step1,hw,we,IA,hd,hM m hm,h3],h5,h4⟩
theorem YV{T:BS}{h:H}{s d:TypeId}{b off:Nat}:FC T h s d (.ptr b off)=none:=by
 unfold FC;split<;>first|rfl|(rename_i e;cases e)
theorem iR(hr:Rel B h0 F ρ st fr h){o:Oper}{v:PV}(hb:sP X.C.T st o.op=some v):OK B h0 F ρ st h [] (IA X.C fr h o) v st:=by
 have fin:∀ {s d:TypeId} {x:Operand} {b off:Nat} {u:V},o.op=.convert s d x->ev X.C fr x=some (.ptr b off)->FO X.C.T h s d (.ptr b off)=some u->PR F ρ st.nx v u->OK B h0 F ρ st h [] (IA X.C fr h o) v st:=by
  intro s d x b off u hop g1 g2 g3;have hdop:Gc X.C fr h o=none:=by
   rw[CR];unfold Gx;rw[hop];simp only[g1,YV];rfl
  refine zj hr.sr (v':=u) ?_ g3;unfold IA;rw[hdop,hop];simp only[g1,g2]
 unfold sP at hb;split at hb
 case h_2=>cases hb
 rename_i s d x hop;split at hb
 case h_3=>cases hb
 case h_1=>
  rename_i t id off hs hd hx;split at hb
  case h_2=>cases hb
  rename_i i tb cs hi ho;cases hc:(zw 0 i.size&&zw off (Det.DB cs))with
  |false=>rw[hc]at hb;cases hb
  |true=>
   rw[hc]at hb;cases hb;obtain⟨y,g1,g2⟩:=B4 (C:=X.C) hr.fp hx;obtain⟨b,n,z,k1,k2,⟨bs,fz,rfl,k4,_⟩,_⟩:=hr.sr.at ho;have hy:=g2;simp only[PR]at hy;obtain rfl:=hy.2 b n k1;refine fin hop g1 ?_ g2;unfold FO;rw[hs,hd];simp only[hi,k2];rw[Cy,k4.len]at hc;rw[hc];rfl
 case h_2=>
  rename_i u id off hs hd hx;split at hb
  case h_2=>cases hb
  rename_i i e cs hi ho;cases hc:(zw 0 i.size&&zo i.size (Det.DB cs)&&zh e u&&zh off 0)with
  |false=>rw[hc]at hb;cases hb
  |true=>
   rw[hc]at hb;cases hb;obtain⟨y,g1,g2⟩:=B4 (C:=X.C) hr.fp hx;obtain⟨b,n,z,k1,k2,⟨bs,fz,rfl,k4,_⟩,_⟩:=hr.sr.at ho;have hy:=g2;simp only[PR]at hy;obtain rfl:=hy.2 b n k1;have h0:off=0:=by
    simp only[zc]at hc;exact ze hc.2
   subst h0;refine fin hop g1 (u:=.ptr b 0) ?_ g2;unfold FO;rw[hs,hd];simp only[hi,k2];rw[Cy,k4.len]at hc;rw[hc];rfl
theorem TL(hr:Rel B h0 F ρ st fr h){o:Oper}{v:PV}{stx:AK}(hb:RB X.C.T st o.op=some (v,stx)):OK B h0 F ρ st h [] (IA X.C fr h o) v stx:=by
 unfold RB at hb;split at hb
 case h_2=>cases hb
 rename_i s d x hop;split at hb
 case h_2=>cases hb
 rename_i e l hs hd hx;split at hb
 case h_2=>cases hb
 rename_i he;cases hb;obtain⟨y,g1,g2⟩:=B4 (C:=X.C) hr.fp hx;obtain rfl:=EX g2;have hdop:Gc X.C fr h o=none:=by
  rw[CR];unfold Gx;rw[hop];simp only[g1,FC,hs,hd];rfl
 have hx:IA X.C fr h o=E4 (some (.sl h.nx 0 l.length l.length 1,h.push (.cells (l.map fun b=>.int .u8 (.ofNat b.toNat)) e (0,0)))):=by
  have hpt:FO X.C.T h s d (.str l)=none:=by unfold FO;rw[hs,hd]
  unfold IA;rw[hdop,hop];simp only[g1,hpt,Sl,hs,hd,he]
 rw[hx];refine OK.new hr.sr (o:=.arr false e (.int .u8) (l.map fun b=>(b.toNat:Int))) (n:=l.length) rfl ⟨l.map fun b=>qd .u8 (.ofNat b.toNat),(0,0),rfl,⟨by simp[Sh.sz],fun j hj=>?_⟩,zg _,by simp⟩ ?_
 ·have hj':j<l.length:=by simpa using hj
  have e1:((l.map fun b=>qd .u8 (.ofNat b.toNat)).drop (j*1)).take 1=[qd .u8 (.ofNat (l[j]).toNat)]:=by
   rw[yq,zz (by simpa using hj')];simp
  show DC _ (.int .u8) _ (((l.map fun b=>qd .u8 (.ofNat b.toNat)).drop (j*1)).take 1);rw[e1];simp[DC]
 ·unfold PR;refine⟨ya _,fun b m hb=>.inl ⟨zg _,?_,1,.inr rfl,?_⟩⟩
  ·simp[BJ]at hb;show 0+l.length<=m;omega
  ·simp[BJ]at hb;rw[<-hb.1];simp
theorem WK(hr:Rel B h0 F ρ st fr h){o:Oper}{v:PV}{stx:AK}(hb:Wa X.C.T st o.op=some (v,stx)):OK B h0 F ρ st h [] (IA X.C fr h o) v stx:=by
 unfold Wa at hb;split at hb
 case h_1=>rename_i r hr0;cases hb;exact TL hr hr0
 case h_2=>
  split at hb
  case h_2=>cases hb
  rename_i u hu;cases hb;exact iR hr hu
theorem UF{nd:Bool}{call:Fy}(hcall:E5 B h0 X nd call){ops:Array Oper}:∀ {l:List Oper} {n:Nat} {st:AK} {F:Fz} {ρ:D2} {fr:Fr} {h:H} {k:AK->Tr},Rel B h0 F ρ st fr h->Ev X Q n (prun X.C.T call ops l st k)->
  ∃r M,(∀m,M<=m->RR X.C (Bj X.C m) ops l fr h=some r)/\(nd=false->∃x,r=[x])/\∀x∈r,∃n',n'<=n/\∃st1,Ev X Q n' (k st1)/\∃F' ρ',C6 B h0 F ρ st.nx h st1 x.1 x.2 F' ρ'
 |[],n,st,F,ρ,fr,h,k,hr,he=>⟨[(fr,h)],0,fun _ _=>rfl,fun _=>⟨_,rfl⟩,fun x hx=>by cases zm.1 hx;exact⟨n,zg _,st,he,F,ρ,C6.refl hr⟩⟩
 |o::rest,n,st,F,ρ,fr,h,k,hr,he=>by
  unfold prun at he;obtain⟨st1,hr1,e1,e2,hcase⟩:=MC hr he;have fin:∀ {l:List (Fr×H)},(∃M,∀m,M<=m->step1 X.C (Bj X.C m) ops o fr h=some l)->(nd=false->∃x,l=[x])->
    (∀y∈l,∃n',n'<=n/\∃st2,Ev X Q n' (prun X.C.T call ops rest st2 k)/\∃F' ρ',C6 B h0 F ρ st.nx h st2 y.1 y.2 F' ρ')->
    ∃r M,(∀m,M<=m->RR X.C (Bj X.C m) ops (o::rest) fr h=some r)/\(nd=false->∃x,r=[x])/\∀x∈r,∃n',n'<=n/\∃st1,Ev X Q n' (k st1)/\∃F' ρ',C6 B h0 F ρ st.nx h st1 x.1 x.2 F' ρ':=by
   rintro l ⟨M1,hM1⟩ hone hl;obtain⟨r,M,h1,h2,h3⟩:=Ln (f:=fun m _ (x:Fr×H)=>RR X.C (Bj X.C m) ops rest x.1 x.2) (P:=fun x=>∃n',n'<=n/\∃st1,Ev X Q n' (k st1)/\∃F' ρ',C6 B h0 F ρ st.nx h st1 x.1 x.2 F' ρ') hone fun y hy=>by
    obtain⟨n1,hn1,st2,he2,F1,ρ1,hwent⟩:=hl y hy;obtain⟨r,M,h1,h3,h2⟩:=UF hcall hwent.rel he2;refine⟨r,M,fun m hm _ _=>h1 m hm,h3,fun z hz=>?_⟩;obtain⟨n2,hn2,st3,he3,F2,ρ2,hwent2⟩:=h2 z hz;exact⟨n2,yx hn2 hn1,st3,he3,F2,ρ2,hwent.trans hwent2⟩
   refine⟨r,max M M1,fun m hm=>?_,h2,h3⟩;simp only[RR,hM1 m (by omega)];exact h1 m (by omega) m (by omega)
  rcases hcase with⟨hw,he⟩|⟨hw,he⟩
  ·unfold pO at he;split at he
   case h_1=>
    rename_i v stx hb;split at he
    case h_2=>exact wh he Ev.AD
    rename_i st2 hput;obtain⟨v',h',F',ρ',g1,g2,g3,g4,g5,g6,g7,g8⟩:=WK hr1 hb;have hrs:Rel B h0 F' ρ' stx fr h':=⟨⟨by rw[g6];exact hr1.fp.n,fun t=>by
     have:stx.get t=st1.get t:=by unfold AK.get;rw[g5]
     rw[this];exact(hr1.fp.slot t).mono g4⟩,g3⟩
    have hpr:∃u,PR F' ρ' stx.nx v u/\∀fr',fr.put o.dst u=some fr'->∀m,step1 X.C (Bj X.C m) ops o fr h=some [(fr',h')]:=by
     rcases g1 with g1|⟨g1,rfl⟩
     ·exact⟨v',g2,fun fr' k1 m=>by simp only[step1,hw,we,g1,k1]⟩
     ·exact⟨.tup [],g2,fun fr' k1 m=>by simp only[step1,hw,we,g1,k1]⟩
    obtain⟨u,hu,Du⟩:=hpr;obtain⟨fr',k1,k2,k3,k4⟩:=hrs.put hu hput;refine fin (l:=[(fr',h')]) ⟨0,fun m _=>Du fr' k1 m⟩ (fun _=>⟨_,rfl⟩) fun y hy=>?_
    cases zm.1 hy;exact⟨n,zg _,st2,he,F',ρ',k2,by rw[k3, <-e1];exact g4,g7⟩
   obtain⟨l,hdid,hnd,hall⟩:=Hn hcall hr1 he;obtain⟨r,M,h1,h3,h2⟩:=hdid.zR (ops:=ops) (P:=fun y=>∃n',n'<=n/\∃st2,Ev X Q n' (prun X.C.T call ops rest st2 k)/\∃F' ρ',C6 B h0 F ρ st.nx h st2 y.1 y.2 F' ρ') hw fun x hx=>by
    obtain⟨n1,hn1,st2,he2,F1,ρ1,fr1,hput,hwent,_⟩:=hall x hx;rw[e1]at hwent;exact⟨fr1,hput,n1,hn1,st2,he2,F1,ρ1,hwent⟩
   exact fin ⟨M,h1⟩ (fun e=>h3 (hnd.1 e).1) h2
  ·unfold LW at he;split at he
   case h_2=>exact wh he Ev.AD
   rename_i st2 hput;obtain⟨fr1,g1,g2,g3,g4⟩:=hr1.put (x:=.tup []) (by simp[PR]) hput;refine fin (l:=[(fr1,h)]) ⟨0,fun m _=>by simp only[step1,hw,wg,g1]⟩ (fun _=>⟨_,rfl⟩) fun y hy=>?_
   cases zm.1 hy;exact⟨n,zg _,st2,he,F,ρ,g2,by rw[g3,e1];exact yj,zg _⟩
end
end Go.Pe
