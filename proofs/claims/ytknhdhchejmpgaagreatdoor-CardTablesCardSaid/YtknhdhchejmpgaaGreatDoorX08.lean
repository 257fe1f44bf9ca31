import Derived.Test.YtknhdhchejmpgaaGreatDoorX07
/- A part of a proof (no law is stated here). Made by program out of texts by AI agents. -/
open Bool renaming and_eq_true → zc, and_self → zT, or_true → z8
open Nat renaming eq_of_beq_eq_true → zd, le_refl → ze, beq → zf, mul_le_mul_right → zh, ble_eq_true_of_le → zi, ble → zl, add_mul → zp, blt → zr, succ_mul → zt, zero_mul → zu, lt_succ_self → zA, beq_refl → zC, min_eq_left → zI, sub_self → zO, mul_one → zP, le_trans → zV, add_assoc → zZ, add_comm → z7
open Go.Pe.OK renaming pure → zg
open List renaming mem_singleton → zj, replicate → zn, length_eq_zero_iff → zo, drop_eq_getElem_cons → zw, replicate_succ → zy, all_eq_true → zB, length_replicate → zD, getElem?_append_right → zE, getElem?_append_left → zF, length_nil → zH, drop_zero → zK, getElem?_range → zN, flatten_cons → zQ, ext_getElem? → zR, getElem?_map → zS, getElem_cons_zero → zW, take_of_length_le → zX, length_map → zY
open Option.some renaming injEq → zk
open Option renaming map_eq_some_iff → zm, map_some → zq, getD_some → zL
open Int renaming ofNat → zz, eq_ofNat_of_zero_le → zU
open Prod.mk renaming injEq → zG
open Go.Pe.Le renaming refl → zJ
open List.cons renaming injEq → zM
open Go.Det.V renaming int → ya
section
namespace Go.Pe
open Go.Det
section
variable {B:Nat}{h0:H0}{F:Fz}{ρ:DO}{N:Nat}{C:Ctx}{st st':AK}{fr:Fr}{h:H}
theorem SR.live(hr:SR B h0 F ρ st.nx st.ob h){id:Nat}(hi:Hv (st.obj id)=true):∃b n,ρ id=some (b,n):=by
 obtain⟨o,ho⟩:=Ig hi;obtain⟨b,n,_,h1,_⟩:=hr.at ho;exact⟨b,n,h1⟩
theorem Dg{i:Int}(h:0≤i):∃n:Nat,i=zz n∧i.toNat=n:=⟨i.toNat,(Int.toNat_of_nonneg h).symm,rfl⟩
theorem Dk{a b:Nat}(h:a<b):zr a b=true:=zi h
theorem aM(hr:SR B h0 F ρ st.nx st.ob h){t:TypeId}{p q:PV}{x y:V}(hx:PR F ρ st.nx p x)(hy:PR F ρ st.nx q y){v:PV}(ht:(Q8 C.T t p q st).To v st'):
  OK B h0 F ρ st h [] (Bt h (CL C.T t x y)) v st':=by
 unfold Q8 at ht;split at ht
 case h_3=>simp at ht
 case h_2=>
  rename_i alen e k i hu;obtain rfl:=Cw hy;split at ht
  case h_2=>simp at ht
  rename_i ti hti;split at ht
  case h_4=>simp at ht
  case h_1=>
   rename_i id off;simp only[PR]at hx;split at ht
   case h_3=>exact absurd ht (by simp)
   case h_1=>
    rename_i fzb te s l ho;cases hcc:(zf off 0&&zf ti.size s.sz)with
    |false=>rw[hcc]at ht;simp at ht
    |true=>
     rw[hcc]at ht;rw[zc]at hcc;have hoff:=zd hcc.1;have hs1:=zd hcc.2;subst hoff;simp only[cond_true,BD,zc,decide_eq_true_eq]at ht;obtain⟨⟨hi0,hi1⟩,rfl,rfl⟩:=ht;obtain⟨n,rfl,hn⟩:=Dg hi0;have hlt:n<alen:=by simp at hi1;exact hi1
     obtain⟨b,m,_,h1,_⟩:=hr.at ho;obtain rfl:=hx.2 b m h1;refine zg hr (v':=.ptr b (0+n*ti.size)) ?_ ?_
     ·show Bt h (CL C.T t (.ptr b 0) (.int k (zz n)))=_;simp only[CL,hu,hti,Dk hlt,cond_true,Bt]
     ·simp only[PR];refine⟨hx.1,fun b' n' hb=>?_⟩;rw[h1]at hb;cases hb;rw[hn,hs1,Nat.zero_add];rfl
   case h_2=>
    rename_i o _ ho;simp only[BD,zc,decide_eq_true_eq]at ht;obtain⟨⟨hi0,hi1⟩,rfl,rfl⟩:=ht;obtain⟨n,rfl,hn⟩:=Dg hi0;have hlt:n<alen:=by simp at hi1;exact hi1
    obtain⟨b,m,_,h1,_⟩:=hr.at ho;obtain rfl:=hx.2 b m h1;refine zg hr (v':=.ptr b (off+n*ti.size)) ?_ ?_
    ·show Bt h (CL C.T t (.ptr b off) (.int k (zz n)))=_;simp only[CL,hu,hti,Dk hlt,cond_true,Bt]
    ·simp only[PR];refine⟨hx.1,fun b' n' hb=>?_⟩;rw[h1]at hb;cases hb;rw[hn];rfl
  case h_2=>
   rename_i id sz j off;cases hl:Hv (st.obj id)with
   |false=>rw[hl]at ht;simp at ht
   |true=>
    rw[hl]at ht;simp only[cond_true,BD,zc,decide_eq_true_eq]at ht;obtain⟨⟨hi0,hi1⟩,rfl,rfl⟩:=ht;obtain⟨n,rfl,hn⟩:=Dg hi0;have hlt:n<alen:=by simp at hi1;exact hi1
    obtain⟨b,m,h1⟩:=hr.live hl;simp only[PR]at hx;obtain rfl:=hx.2 b m h1;refine zg hr (v':=.ptr b (j*sz+off+n*ti.size)) ?_ ?_
    ·show Bt h (CL C.T t (.ptr b (j*sz+off)) (.int k (zz n)))=_;simp only[CL,hu,hti,Dk hlt,cond_true,Bt]
    ·simp only[PR];refine⟨hx.1,fun b' n' hb=>?_⟩;rw[h1]at hb;cases hb;rw[hn,zZ];rfl
  case h_3=>
   rename_i s y off;simp only[BD,zc,decide_eq_true_eq]at ht;obtain⟨⟨hi0,hi1⟩,rfl,rfl⟩:=ht;obtain⟨n,rfl,hn⟩:=Dg hi0;have hlt:n<alen:=by simp at hi1;exact hi1
   simp only[PR]at hx;obtain⟨b,o,cs,rfl,h1,h2,h3⟩:=hx;refine zg hr (v':=.ptr b (o+off+n*ti.size)) ?_ ?_
   ·show Bt h (CL C.T t (.ptr b (o+off)) (.int k (zz n)))=_;simp only[CL,hu,hti,Dk hlt,cond_true,Bt]
   ·simp only[PR];refine⟨b,o,cs,?_,h1,h2,h3⟩;rw[hn,zZ];rfl
 case h_1=>
 rename_i e k i hu;obtain rfl:=Cw hy;split at ht
 case h_2=>simp at ht
 rename_i ti hti;split at ht
 case h_3=>simp at ht
 case h_1=>
  rename_i s l;cases hz:zf ti.size s.sz with
  |false=>rw[hz]at ht;simp at ht
  |true=>
   rw[hz]at ht;have hz:=zd hz;simp only[cond_true,BD,zc,decide_eq_true_eq]at ht;obtain⟨⟨hi0,hi1⟩,rfl,rfl⟩:=ht;obtain⟨n,rfl,hn⟩:=Dg hi0;have hlt:n<l.length:=by simp at hi1;exact hi1
   simp only[PR,DC]at hx;obtain⟨u,hu1,hx⟩:=hx;obtain rfl:x=u:=by simpa using hu1
   rcases hx with⟨rfl,_⟩|⟨b,off,cap,o,bs,rfl,h1,h2,h3,_,h4⟩
   ·simp at hlt
   ·refine zg hr (v':=.ptr b (off+n*ti.size)) ?_ ?_
    ·show Bt h (CL C.T t (.sl b off l.length cap o) (.int k (zz n)))=_;simp only[CL,hu,hti,Dk hlt,cond_true,Bt]
    ·simp only[PR];refine⟨b,off+n*s.sz,bs,by rw[hz];rfl,h2,?_,?_⟩
     ·have:(n+1)*s.sz≤l.length*s.sz:=zh _ hlt;rw[zt]at this;omega
     ·have:=h4 n hlt;rw[hn,show l.getD n s.GV=l[n]from by simp[hlt]];exact this
 case h_2=>
  rename_i id sz off len cap;cases hz:(zf ti.size sz&&Hv (st.obj id))with
  |false=>rw[hz]at ht;simp at ht
  |true=>
   rw[hz]at ht;simp only[zc]at hz;obtain⟨hz,hl⟩:=hz;have hz:=zd hz;simp only[cond_true,BD,zc,decide_eq_true_eq]at ht;obtain⟨⟨hi0,hi1⟩,rfl,rfl⟩:=ht;obtain⟨n,rfl,hn⟩:=Dg hi0;have hlt:n<len:=by simp at hi1;exact hi1
   obtain⟨b,m,h1⟩:=hr.live hl;simp only[PR]at hx;rcases hx.2 b m h1 with⟨_,_,o,_,rfl⟩|⟨e0,_⟩
   ·refine zg hr (v':=.ptr b (off*sz+n*ti.size)) ?_ ?_
    ·show Bt h (CL C.T t (.sl b (off*sz) len _ o) (.int k (zz n)))=_;simp only[CL,hu,hti,Dk hlt,cond_true,Bt]
    ·simp only[PR];refine⟨hx.1,fun b' n' hb=>?_⟩;rw[h1]at hb;cases hb;rw[hz,hn];show V.ptr b (off*sz+n*sz)=.ptr b ((n+off)*sz+0);rw[zp,z7 (n*sz)];rfl
   ·omega
theorem gU(hr:SR B h0 F ρ st.nx st.ob h){t:TypeId}{p q:PV}{x y:V}(hx:PR F ρ st.nx p x)(hy:PR F ρ st.nx q y){v:PV}(ht:(Up C.T t p q st).To v st'):
  OK B h0 F ρ st h [] (Bt h (G4 C.T t x y)) v st':=by
 unfold Up at ht;split at ht
 case h_3=>simp at ht
 case h_2=>
  rename_i alen e ps k i hu;obtain rfl:=Cw hy;split at ht
  case h_2=>simp at ht
  rename_i d ti hd hti;simp only[Ot,zc,decide_eq_true_eq]at ht;obtain⟨⟨hi0,hi1⟩,hpk,rfl⟩:=ht;obtain⟨n,rfl,hn⟩:=Dg hi0;have hlt:n<alen:=by simp at hi1;exact hi1
  simp only[PR]at hx;obtain⟨cs,rfl,hps⟩:=hx;rw[Ll,hn]at hpk;have hp:=hps.drop (n*ti.size);have hdx:G4 C.T t (.agg cs) (.int k (zz n))=Kx C.T e cs (n*ti.size):=by simp only[G4,hu,hti,Dk hlt,cond_true]
  rcases KM hp hpk with⟨ha,_,_,hv⟩|⟨ha,u,us,e',hv⟩
  ·exact zg hr (by rw[hdx];simp only[Kx,hd,hti,ha,cond_true,Bt]) hv
  ·have:cs[n*ti.size]?=some u:=by
    have:=congrArg (·[0]?) e';simpa using this
   exact zg hr (by rw[hdx];simp only[Kx,hd,hti,ha,cond_false,this,Bt]) hv
 case h_1=>
 rename_i s k i hu;obtain rfl:=EL hx;obtain rfl:=Cw hy;simp only[BD,zc,decide_eq_true_eq]at ht;obtain⟨⟨hi0,hi1⟩,rfl,rfl⟩:=ht;obtain⟨n,rfl,hn⟩:=Dg hi0;have hlt:n<List.length s:=by simp at hi1;exact hi1
 have hg:(s:List UInt8)[n]?=some (s:List UInt8)[n]:=List.getElem?_eq_getElem hlt;refine zg hr (v':=.int .u8 ((s:List UInt8)[n].toNat:Int)) ?_ ?_
 ·show Bt h (G4 C.T t (.str s) (.int k (zz n)))=_;simp only[G4,hu,hg,Bt]
 ·rw[hn,show List.getD (s:List UInt8) n 0=(s:List UInt8)[n]from by simp[hlt]];exact C0 _ _
theorem XF(hr:SR B h0 F ρ st.nx st.ob h){p:PV}{x:V}(hx:PR F ρ st.nx p x){i:Nat}{v:PV}(ht:(NC p i st).To v st'):OK B h0 F ρ st h [] (Bt h (Gu x i)) v st':=by
 unfold NC at ht;split at ht
 case h_2=>simp at ht
 rename_i ps;split at ht
 case h_2=>simp at ht
 rename_i q hq;simp only[AQ]at ht;obtain⟨rfl,rfl⟩:=ht;simp only[PR]at hx;obtain⟨cs,rfl,hps⟩:=hx;obtain⟨u,h1,h2⟩:=hps.get hq;exact zg hr (by simp only[Gu,h1,Bt]) h2
def R1(F:Fz)(ρ:DO)(N:Nat):Option PV→Option V→Prop
 |none,x=>x=none
 |some p,x=>∃v,x=some v∧PR F ρ N p v
theorem DB{o:Option PV}{x:Option V}{d:Nat}{c:Bool}{n:Nat}(hx:R1 F ρ N o x)(hp:pb o d=some (c,n))(hc:c=true){y:Nat}(hy:n≤y):GG x y d=some n:=by
 unfold pb at hp;split at hp
 ·cases hp;simp only[R1]at hx;subst hx;rfl
 ·cases hp;simp only[R1]at hx;obtain⟨v,rfl,hv⟩:=hx;obtain rfl:=Cw hv;simp only[decide_eq_true_eq]at hc;obtain⟨m,rfl,hm⟩:=Dg hc;rw[hm]at hy;show(bif zl m y then some m else none)=_;rw[zi hy,hm];rfl
 ·cases hp
theorem R1.isNone{o:Option PV}{x:Option V}(hx:R1 F ρ N o x):(o=none↔x=none):=by
 cases o with
 |none=>simp only[R1]at hx;simp[hx]
 |some p=>simp only[R1]at hx;obtain⟨v,rfl,_⟩:=hx;simp
theorem Lm{T:BS}{t e:TypeId}{ti:TI}{b off len cap o m hh l:Nat}{lo hi mx:Option V}(hu:T.und t=some (.slice e))(hti:T.inf e=some ti)(hm:GG mx cap cap=some m)(hb:GG hi m len=some hh)
  (hl:GG lo hh 0=some l) (hno:hi=none→mx=none):
  Db T t (.sl b off len cap o) lo hi mx=bif zf m l then(bif zf (Ja mx o) 0 then some (.sl b off (hh-l) (m-l) 0)else some .esl)
   else bif zf (Ja mx o) 0||zf (Ja mx o) ti.size then some (.sl b (off+l*ti.size) (hh-l) (m-l) (Ja mx o))else none:=by
 cases hi with
 |some x=>cases mx<;>simp only[Db,hu,hti,hm,hb,hl]
 |none=>
  cases hno rfl;simp only[Db,hu,hti,hm,hb,hl]
theorem aD(hr:SR B h0 F ρ st.nx st.ob h){t:TypeId}{p:PV}{x:V}{lo hi mx:Option PV}{a b c:Option V}(hx:PR F ρ st.nx p x)(hlo:R1 F ρ st.nx lo a)(hhi:R1 F ρ st.nx hi b)(hmx:R1 F ρ st.nx mx c)
  {v:PV} (ht:(QF C.T t p lo hi mx st).To v st'):OK B h0 F ρ st h [] (Bt h (Db C.T t x a b c)) v st':=by
 unfold QF at ht;split at ht
 case h_3=>simp at ht
 case h_1=>
  rename_i hu;split at ht
  case h_2=>simp at ht
  rename_i s;obtain rfl:=EL hx;split at ht
  case h_2=>simp at ht
  rename_i c1 l c2 hh hb1 hb2;simp only[BD,zc,decide_eq_true_eq]at ht;obtain⟨⟨⟨⟨k1,k2⟩,k3⟩,k4⟩,rfl,rfl⟩:=ht;simp only[R1]at hmx;subst hmx;have e1:=DB hlo hb1 k1 k3;have e2:=DB hhi hb2 k2 k4;exact zg hr (by simp only[Db,hu,e1,e2,Bt];rfl) (JG _)
 case h_2=>
  rename_i e hu;split at ht
  case h_2=>simp at ht
  rename_i ti hti;split at ht
  case h_4=>simp at ht
  case h_1=>
   rename_i s xs;cases hz:zf ti.size s.sz with
   |false=>rw[hz]at ht;simp at ht
   |true=>
    rw[hz]at ht;have hz:=zd hz;simp only[cond_true]at ht;split at ht
    case h_2=>simp at ht
    rename_i c1 l c2 hh hb1 hb2;simp only[BD,zc,decide_eq_true_eq]at ht;obtain⟨⟨⟨⟨k1,k2⟩,k3⟩,k4⟩,rfl,rfl⟩:=ht;simp only[R1]at hmx;subst hmx;have e1:=DB hlo hb1 k1 k3;simp only[PR,DC]at hx;obtain⟨u,hu1,hx⟩:=hx;obtain rfl:x=u:=by simpa using hu1
    rcases hx with⟨rfl,rfl|rfl|rfl⟩|⟨bb,off,cap,o,bs,rfl,h1,h2,h3,h5,h4⟩
    ·have e2:=DB hhi hb2 k2 k4;simp only[zH]at e2 k4;refine zg hr (v':=.nils) (by simp only[Db,hu,show GG none 0 0=some 0 from rfl,show dQ b none=GG b 0 0 from by cases b<;>rfl,e1,e2,hti,Bt]) ?_;simp[PR,DC]
    ·have e2:=DB hhi hb2 k2 k4;simp only[zH]at e2 k4;refine zg hr (v':=.esl) (by simp only[Db,hu,show GG none 0 0=some 0 from rfl,show dQ b none=GG b 0 0 from by cases b<;>rfl,e1,e2,hti,Bt,Nz,cond_false]) ?_;simp[PR,DC]
    ·have e2:=DB hhi hb2 k2 k4;simp only[zH]at e2 k4;refine zg hr (v':=.es0) (by simp only[Db,hu,show GG none 0 0=some 0 from rfl,show dQ b none=GG b 0 0 from by cases b<;>rfl,e1,e2,hti,Bt]) ?_;simp[PR,DC]
    ·have e2:GG b cap xs.length=some hh:=DB hhi hb2 k2 (zV k4 h1);have hds:=Lm (b:=bb) (off:=off) (len:=xs.length) (cap:=cap) (o:=o) (mx:=none) hu hti rfl e2 e1 (fun _=>rfl);have hlen:((xs.drop l).take (Nat.sub hh l)).length=hh-l:=by
      have:Nat.sub hh l=hh-l:=rfl;rw[this];simp;omega
     by_cases hcl:cap=l
     ·have hhl:hh=l:=by omega
      have hemp:(xs.drop l).take (Nat.sub hh l)=[]:=by
       apply List.eq_nil_of_length_eq_zero;rw[hlen];omega
      rw[hemp];by_cases ho:o=0
      ·refine zg hr (v':=.sl bb off (hh-l) (cap-l) 0) ?_ ?_
       ·have:Ja none o=0:=ho;rw[hds,this,hcl,zC];rfl
       ·simp only[PR,DC];exact⟨_,rfl,.inr ⟨bb,off,cap-l,0,bs,by simp[hhl],by simp,h2,by simp;omega,.inl rfl,fun i hi=>by simp at hi⟩⟩
      ·refine zg hr (v':=.esl) ?_ ?_
       ·have h1:zf (Ja none o) 0=false:=by rw[Bk];simp[Ja,ho]
        rw[hds,h1,hcl,zC];rfl
       ·simp[PR,DC]
     ·refine zg hr (v':=.sl bb (off+l*ti.size) (hh-l) (cap-l) o) ?_ ?_
      ·have hb1:zf cap l=false:=by rw[Bk];simp[hcl]
       have ho:(zf (Ja none o) 0||zf (Ja none o) ti.size)=true:=by
        rcases h5 with rfl|rfl
        ·rfl
        ·rw[hz];show(zf s.sz 0||zf s.sz s.sz)=true;rw[zC,z8]
       rw[hds,hb1,ho];rfl
      ·simp only[PR,DC];refine⟨_,rfl,.inr ⟨bb,off+l*ti.size,cap-l,o,bs,by rw[hlen],by rw[hlen];omega,h2,?_,h5,fun i hi=>?_⟩⟩
       ·rw[hlen,hz];have:(l+(hh-l))*s.sz≤xs.length*s.sz:=zh _ (by omega);rw[zp]at this;omega
       ·rw[hlen]at hi;have hi2:l+i<xs.length:=by omega
        have:=h4 (l+i) hi2;rw[List.getElem_take,List.getElem_drop,hz];rw[zp, ←zZ]at this;exact this
  case h_2=>
   rename_i id sz off len cap;cases hz:(zf ti.size sz&&Hv (st.obj id))with
   |false=>rw[hz]at ht;simp at ht
   |true=>
    rw[hz]at ht;simp only[zc]at hz;obtain⟨hz,hl⟩:=hz;have hz:=zd hz;simp only[cond_true]at ht;have hno:¬(hi=none∧mx≠none):=by
     rintro⟨rfl,hm⟩;cases mx with
     |none=>exact hm rfl
     |some _=>simp at ht
    split at ht
    case h_1=>simp at ht
    split at ht
    case h_2=>simp at ht
    rename_i c1 l c2 hh c3 m hb1 hb2 hb3;simp only[BD,zc,decide_eq_true_eq]at ht;obtain⟨⟨⟨⟨⟨⟨⟨k1,k2⟩,k3⟩,k4⟩,k5⟩,k6⟩,k7⟩,rfl,rfl⟩:=ht;have e1:=DB hlo hb1 k1 k4;have e3:=DB hmx hb3 k3 k6;have e2:=DB hhi hb2 k2 k5;have hno':b=none→c=none:=by
     intro hbn;cases hcc:c with
     |none=>rfl
     |some z=>
      exfalso;apply hno;exact⟨hhi.isNone.2 hbn,fun e=>by have:=hmx.isNone.1 e;rw[this]at hcc;cases hcc⟩
    obtain⟨b0,n0,h1⟩:=hr.live hl;simp only[PR]at hx;rcases hx.2 b0 n0 h1 with⟨g1,g2,o,g3,rfl⟩|⟨rfl,rfl,g2,g3⟩
    ·have hds:=Lm (b:=b0) (off:=off*sz) (len:=len) (cap:=cap.getD len) (o:=o) hu hti e3 e2 e1 hno';have hoz:Ja c o=0∨Ja c o=sz:=by
      unfold Ja;cases c with
      |none=>exact g3
      |some _=>exact .inl rfl
     by_cases hml:m=l
     ·have hhl:hh-l=0:=by omega
      by_cases ho:Ja c o=0
      ·refine zg hr (v':=.sl b0 (off*sz) (hh-l) (m-l) 0) ?_ ?_
       ·rw[hds,ho,hml,zC];rfl
       ·unfold PR;refine⟨hx.1,fun b' n' hb=>.inr ?_⟩;rw[h1]at hb;cases hb;refine⟨hhl,?_,?_,.inr ⟨off*sz,by rw[hhl,hml,zO],zh _ (Nat.le_add_right _ _)⟩⟩
        ·show some (m-l)=some 0;rw[hml,zO]
        ·show off+l≤n0;omega
      ·refine zg hr (v':=.esl) ?_ ?_
       ·have hb0:zf (Ja c o) 0=false:=by rw[Bk];simp[ho]
        rw[hds,hb0,hml,zC];rfl
       ·unfold PR;refine⟨hx.1,fun b' n' hb=>.inr ?_⟩;rw[h1]at hb;cases hb;refine⟨hhl,?_,?_,.inl rfl⟩
        ·show some (m-l)=some 0;rw[hml,zO]
        ·show off+l≤n0;omega
     ·refine zg hr (v':=.sl b0 (off*sz+l*ti.size) (hh-l) (m-l) (Ja c o)) ?_ ?_
      ·have hb1:zf m l=false:=by rw[Bk];simp[hml]
       have ho:(zf (Ja c o) 0||zf (Ja c o) ti.size)=true:=by
        rcases hoz with e|e
        ·rw[e];rfl
        ·rw[e,hz,zC,z8]
       rw[hds,hb1,ho];rfl
      ·unfold PR;refine⟨hx.1,fun b' n' hb=>.inl ?_⟩;rw[h1]at hb;cases hb;refine⟨?_,?_,Ja c o,hoz,?_⟩
       ·show hh-l≤m-l;omega
       ·show off+l+(m-l)≤n0;omega
       ·show V.sl b0 (off*sz+l*ti.size) (hh-l) (m-l) (Ja c o)=.sl b0 ((off+l)*sz) (hh-l) (m-l) (Ja c o);rw[hz,zp]
    ·simp only[zL]at k6 k7 e3;obtain rfl:m=0:=by omega
     obtain rfl:hh=0:=by omega
     obtain rfl:l=0:=by omega
     have hc:c=none:=by
      cases mx with
      |none=>exact hmx
      |some _=>simp[has]at k7
     subst hc;rcases g3 with rfl|⟨off',rfl,g4⟩
     ·refine zg hr (v':=.esl) (by simp only[Db,hu,hti,show GG none 0 0=some 0 from rfl,show dQ b none=GG b 0 0 from by cases b<;>rfl,e2,e1,Bt,Nz,cond_false]) ?_;unfold PR;exact⟨hx.1,fun b' n' hb=>.inr ⟨by rfl,by rfl,by rw[h1]at hb;cases hb;exact g2,.inl rfl⟩⟩
     ·refine zg hr (v':=.sl b0 off' 0 0 0) ?_ ?_
      ·rw[Lm (mx:=none) hu hti rfl e2 e1 (fun _=>rfl)];rfl
      ·unfold PR;refine⟨hx.1,fun b' n' hb=>.inr ⟨rfl,rfl,?_,.inr ⟨off',?_,?_⟩⟩⟩
       ·rw[h1]at hb;cases hb;exact g2
       ·rw[h1]at hb;cases hb;rfl
       ·show off'≤(off+0)*sz;exact g4
  case h_3=>
   split at ht
   case h_3=>simp at ht
   case h_2=>
    rename_i c1 l c2 hh q hb1 hb2;split at ht
    case h_2=>simp at ht
    rename_i p' c3 m hb3;simp only[BD,zc,decide_eq_true_eq]at ht;obtain⟨⟨⟨⟨⟨⟨k1,k2⟩,k5⟩,k3⟩,k4⟩,k6⟩,rfl,rfl⟩:=ht;have e1:=DB hlo hb1 k1 k3;have e2:=DB hhi hb2 k2 (show hh≤0 by omega);have e3:=DB hmx hb3 k5 k6;simp only[PR]at hx;subst hx;cases b with
    |none=>simp[R1]at hhi
    |some b=>exact zg hr (v':=.nils) (by simp only[Db,hu,e3,show dQ (some b) c=GG (some b) 0 0 from by cases c<;>rfl,e2,e1,hti,Bt]) (by simp[PR])
   rename_i c1 l c2 hh hb1 hb2;simp only[BD,zc,decide_eq_true_eq]at ht;obtain⟨⟨⟨⟨k1,k2⟩,k3⟩,k4⟩,rfl,rfl⟩:=ht;simp only[R1]at hmx;subst hmx;have e1:=DB hlo hb1 k1 k3;have e2:=DB hhi hb2 k2 k4;simp only[PR]at hx;subst hx;exact zg hr (v':=.nils) (by simp only[Db,hu,show GG none 0 0=some 0 from rfl,show dQ b none=GG b 0 0 from by cases b<;>rfl,e1,e2,hti,Bt]) (by simp[PR])
theorem kX(hr:SR B h0 F ρ st.nx st.ob h){t:TypeId}{p q:PV}{x y:V}(hx:PR F ρ st.nx p x)(hy:PR F ρ st.nx q y){v:PV}(ht:(Z9 C.T t p q st).To v st'):
  OK B h0 F ρ st h [] (Bt h (CL C.T t x y)) v st':=aM hr hx.lz hy ht
theorem jZ(hr:SR B h0 F ρ st.nx st.ob h){t:TypeId}{p:PV}{x:V}{lo hi mx:Option PV}{a b c:Option V}(hx:PR F ρ st.nx p x)(hlo:R1 F ρ st.nx lo a)(hhi:R1 F ρ st.nx hi b)(hmx:R1 F ρ st.nx mx c)
  {v:PV} (ht:(YX C.T t p lo hi mx st).To v st'):OK B h0 F ρ st h [] (Bt h (Db C.T t x a b c)) v st':=aD hr hx.lz hlo hhi hmx ht
end
section
variable {B:Nat}{h0:H0}{F:Fz}{ρ:DO}{N:Nat}{C:Ctx}{st st':AK}{fr:Fr}{h:H}
theorem MR.len{ks vs:Sh}{l:List (ks.T×vs.T)}{es:List (V×V×Nat)}(h:MR F ks vs l es):l.length=es.length:=by
 induction h with
 |nil=>rfl
 |cons _ _ _ ih=>simp[ih]
theorem qL(hr:SR B h0 F ρ st.nx st.ob h){ts:Array TypeId}{ps:List PV}{xs:List V}(hx:Bb F ρ st.nx ps xs){v:PV}(ht:(TG C.T ts ps st).To v st'):OK B h0 F ρ st h [] (Bt h (Fo C.T h ts xs)) v st':=by
 unfold TG at ht;split at ht
 case h_2=>simp at ht
 rename_i t p hts;simp only[Bb]at hx;obtain⟨x,xs',rfl,hx,rfl⟩:=hx;split at ht
 case h_6=>simp at ht
 case h_1=>
  rename_i s hu;simp only[AQ]at ht;obtain⟨rfl,rfl⟩:=ht;obtain rfl:=EL hx;exact zg hr (by simp only[Fo,hts,hu,Bt];rfl) (C0 _ _)
 case h_2=>
  rename_i s l hu;simp only[AQ]at ht;obtain⟨rfl,rfl⟩:=ht;simp only[PR,DC]at hx;obtain⟨u,hu1,hx⟩:=hx;obtain rfl:x=u:=by simpa using hu1
  rcases hx with⟨rfl,rfl|rfl|rfl⟩|⟨b,off,cap,o,bs,rfl,_⟩
  ·exact zg hr (by simp only[Fo,hts,hu,Bt];rfl) (C0 _ _)
  ·exact zg hr (by simp only[Fo,hts,hu,Bt];rfl) (C0 _ _)
  ·exact zg hr (by simp only[Fo,hts,hu,Bt];rfl) (C0 _ _)
  ·exact zg hr (by simp only[Fo,hts,hu,Bt];rfl) (C0 _ _)
 case h_3=>
  rename_i id sz off len cap hu;cases hl:Hv (st.obj id)with
  |false=>rw[hl]at ht;simp at ht
  |true=>
   rw[hl]at ht;simp only[cond_true,AQ]at ht;obtain⟨rfl,rfl⟩:=ht;obtain⟨b,n,h1⟩:=hr.live hl;simp only[PR]at hx;rcases hx.2 b n h1 with⟨_,_,o,_,rfl⟩|⟨rfl,_,_,rfl|⟨_,rfl,_⟩⟩
   ·exact zg hr (by simp only[Fo,hts,hu,Bt];rfl) (C0 _ _)
   ·exact zg hr (by simp only[Fo,hts,hu,Bt];rfl) (C0 _ _)
   ·exact zg hr (by simp only[Fo,hts,hu,Bt];rfl) (C0 _ _)
 case h_4=>
  rename_i hu;simp only[AQ]at ht;obtain⟨rfl,rfl⟩:=ht;simp only[PR]at hx;subst hx;exact zg hr (by simp only[Fo,hts,hu,Bt];rfl) (C0 _ _)
 case h_5=>
  rename_i id hu;split at ht
  case h_2=>simp at ht
  rename_i ks vs l ho;simp only[AQ]at ht;obtain⟨rfl,rfl⟩:=ht;obtain⟨b,n,y,h1,h2,⟨es,clk,rfl,h3⟩,_⟩:=hr.at ho;simp only[PR]at hx;obtain rfl:=hx.2 b n h1;have hl:l.length=es.length:=h3.len;refine zg hr (v':=i64 es.length) (by simp only[Fo,hts,hu,h2,Bt]) ?_;rw[←hl];exact C0 _ _
theorem uM(hr:SR B h0 F ρ st.nx st.ob h){ts:Array TypeId}{ps:List PV}{xs:List V}(hx:Bb F ρ st.nx ps xs){v:PV}(ht:(jM C.T ts ps st).To v st'):OK B h0 F ρ st h [] (Bt h (Fo C.T h ts xs)) v st':=qL hr hx.lz ht
theorem sE(hr:SR B h0 F ρ st.nx st.ob h){f:Int→Int→Int}{g:V→V→Option V}(hg:∀k x y,g (.int k x) (.int k y)=some (.int k (f x y))){ps:List PV}{xs:List V}(hx:Bb F ρ st.nx ps xs){v:PV}
  (ht:(MJ f ps st).To v st'):OK B h0 F ρ st h [] (Bt h (FJ g xs)) v st':=by
 have key:∀(ps:List PV) (xs:List V) (k:IntKind) (x z:Int),Bb F ρ st.nx ps xs→uU f k x ps=some z→dfold g (.int k x) xs=some (.int k z):=by
  intro ps;induction ps with
  |nil=>intro xs k x z hx hz;simp at hx;subst hx;simp only[uU,zk]at hz;subst hz;rfl
  |cons p ps ih=>
   intro xs k x z hx hz;simp only[Bb]at hx;obtain⟨u,us,rfl,h1,h2⟩:=hx;unfold uU at hz;split at hz
   case h_1=>rename_i e;cases e
   case h_2=>
    rename_i e;cases e;rename_i k' y;cases hk:(k==k')with
    |false=>rw[hk]at hz;cases hz
    |true=>
     rw[hk]at hz;have hk:=beq_iff_eq.1 hk;subst hk;obtain rfl:=Cw h1;simp only[dfold,hg];exact ih us k _ z h2 hz
   case h_3=>cases hz
 unfold MJ at ht;split at ht
 case h_2=>simp at ht
 rename_i k x ys;split at ht
 case h_2=>simp at ht
 rename_i z hz;simp only[AQ]at ht;obtain⟨rfl,rfl⟩:=ht;simp only[Bb]at hx;obtain⟨u,us,rfl,h1,h2⟩:=hx;obtain rfl:=Cw h1;exact zg hr (v':=.int k z) (by simp only[FJ,key ys us k x z h2 hz,Bt]) (C0 _ _)
theorem OK.new(hr:SR B h0 F ρ st.nx st.ob h){o:Obj}{x:O}{n:Nat}(hf:o.frozen=false)(hx:WL F (BF ρ st.nx (some (h.nx,n))) (st.nx+1) n o x){v:PV}{v':V}
  (hv:PR F (BF ρ st.nx (some (h.nx,n))) (st.nx+1) v v'):OK B h0 F ρ st h [] (EP (some (v',h.push x))) v (st.push o):=by
 refine⟨v',h.push x,F,_,.inl rfl,hv,hr.push hf hx,Le.new _,rfl,rfl,Nat.le_succ _,fun b hb=>.inl ?_⟩;rw[H.BC,if_neg (by omega)]
theorem JO{n:Nat}:PR F (BF ρ N (some (h.nx,n))) (N+1) (.ptr N 0) (.ptr h.nx 0):=by
 unfold PR;exact⟨zA _,fun b m hb=>by simp[BF]at hb;rw[hb.1]⟩
theorem oP{F:Fz}:∀ {s:Sh} {v:V},rY s v=true→DC F s s.GV [v]
 | .bool,.bool b,h=>by
  have:b=false:=by simpa [rY]using h
  subst this;simp[DC,Sh.GV]
 | .int k,.int k' n,h=>by
  unfold rY at h;rw[zc,decide_eq_true_eq,decide_eq_true_eq]at h;obtain⟨rfl,rfl⟩:=h;simp[DC,Sh.GV]
theorem hZ{T:BS}{t:TypeId}{s:Sh}{n:Nat}(h:nN T t=some (s,n)):∃i,T.inf t=some i∧n=i.zero.length∧(∀v∈i.zero,rY s v=true)∧s.sz=1:=by
 unfold nN at h;split at h
 case h_2=>cases h
 rename_i i hu hi;split at h
 case h_2=>cases h
 rename_i s' hs;cases hc:(zl 32 (Det.Dr i.zero)&&Det.JZ (rY s') i.zero)with
 |false=>rw[hc]at h;cases h
 |true=>
  rw[hc]at h;cases h;rw[zc,EZ]at hc;refine⟨i,hi,Cr ..,zB.1 hc.2,?_⟩;unfold xE at hs;split at hs<;>first|(cases hs;rfl)|cases hs
theorem jK(hr:SR B h0 F ρ st.nx st.ob h){t:TypeId}{v:PV}(ht:(QV t C.T st).To v st'):OK B h0 F ρ st h [] (EP (FY C.T h t)) v st':=by
 unfold QV ZF at ht;split at ht
 case h_1=>
  rename_i s n hz;simp only[AQ]at ht;obtain⟨rfl,rfl⟩:=ht;obtain⟨i,hi,rfl,hall,hs⟩:=hZ hz;have:FY C.T h t=some (.ptr h.nx 0,h.push (.cells i.zero t (0,0))):=by simp[FY,hi,Il]
  rw[this];refine OK.new hr (o:=.arr false t s (zn i.zero.length s.GV)) (n:=i.zero.length) rfl ⟨_,_,rfl,⟨by rw[zD,hs,zP],fun j hj=>?_⟩,ze _,zD ..⟩ JO;have hj':j<i.zero.length:=by simpa using hj
  have:=hall i.zero[j] (List.getElem_mem hj');rw[List.getElem_replicate,hs,zP,zw hj'];exact oP this
 split at ht
 case h_2=>exact absurd ht (by simp)
 rename_i cs hcs;rw[Option.bind_eq_some_iff]at hcs;obtain⟨i,hi,hcs⟩:=hcs;cases hok:JZ V.ok i.zero with
 |false=>rw[hok]at hcs;cases hcs
 |true=>
 rw[hok]at hcs;cases hcs;rw[EZ]at hok;simp only[AQ]at ht;obtain⟨rfl,rfl⟩:=ht;have:FY C.T h t=some (.ptr h.nx 0,h.push (.cells i.zero t (0,0))):=by simp[FY,hi,Il]
 rw[this];cases nI C.T t with
 |true=>exact OK.new hr (o:=.tbox t (i.zero.map U7)) (n:=0) rfl ⟨_,_,rfl,DQ _,ze _,fun u hu=>zB.1 hok u hu⟩ JO
 |false=>exact OK.new hr (o:=.box (i.zero.map U7)) (n:=0) rfl ⟨_,_,_,rfl,DQ _,ze _,fun u hu=>zB.1 hok u hu⟩ JO
theorem uE(hr:SR B h0 F ρ st.nx st.ob h){t:TypeId}{p:PV}{x:V}(hx:PR F ρ st.nx p x){cs:List PV}(hcs:rX st p=some cs)(hs:cs.all (Ji st)=true):OK B h0 F ρ st h [] (EP (some (XS h t x))) (.ptr st.nx 0) (st.push (.box cs)):=
 OK.new hr (o:=.box cs) (n:=0) rfl ⟨_,_,_,rfl,(ME hr hx hcs).mono (Le.new _),ze _,fun u hu=>V.Lx (zB.1 (JD hr hs (ME hr hx hcs)) u hu)⟩ JO
theorem IE(hr:SR B h0 F ρ st.nx st.ob h){place:Nat→Option (Nat×Nat)}:∀ {l:List (Nat×PV)} {l':List (Nat×V)},pR F ρ st.nx l l'→∀ {cs:List PV} {xs:List V},Bb F ρ st.nx cs xs→∀ {out:List PV},P3 st place cs l=some out→
  ∃ys,HY place xs l'=some ys∧Bb F ρ st.nx out ys:=by
 intro l l' hl;induction hl with
 |nil=>intro cs xs hx out ho;cases ho;exact⟨xs,rfl,hx⟩
 |@cons i p v l l' hp _ ih=>
  intro cs xs hx out ho;unfold P3 at ho;unfold HY;split at ho
  case h_1=>cases ho
  rename_i off size hpl;split at ho
  case h_2=>cases ho
  rename_i vs hvs;cases hc:(zf (Det.Dr vs) size&&zl (Nat.add off size) (Det.Dr cs))with
  |false=>rw[hc]at ho;cases ho
  |true=>
   rw[hc]at ho;have hv:=ME hr hp hvs;rw[Cr,Cr,hv.len,hx.len]at hc;have hc':(zf v.cells.length size&&zl (off+size) xs.length)=true:=hc;rw[hpl];simp only[hc',cond_true];have:=hv.Ci off hx;rw[IF v.cells]at this;exact ih this ho
theorem iN(hr:SR B h0 F ρ st.nx st.ob h){t:TypeId}{l:List (Nat×PV)}{l':List (Nat×V)}(hl:pR F ρ st.nx l l'){v:PV}(ht:(ov st (UX C.T st t l)).To v st'):OK B h0 F ρ st h [] (Bt h (JC C.T t l')) v st':=by
 simp only[Kk]at ht;obtain⟨hb,rfl⟩:=ht;unfold UX at hb;split at hb
 case h_3=>cases hb
 case h_1=>
  rename_i i fs hi hu;split at hb
  case h_2=>cases hb
  rename_i pl hpl;rw[zm]at hb;obtain⟨out,ho,rfl⟩:=hb;obtain⟨ys,g1,g2⟩:=IE hr hl (DQ i.zero) ho;exact zg hr (v':=.agg ys) (by simp only[JC,hi,hu,hpl,g1,zq,Bt]) (by unfold PR;exact⟨_,rfl,g2⟩)
 case h_2=>
  rename_i i nn e hi hu;split at hb
  case h_2=>cases hb
  rename_i j hj;rw[zm]at hb;obtain⟨out,ho,rfl⟩:=hb;obtain⟨ys,g1,g2⟩:=IE hr hl (DQ i.zero) ho;exact zg hr (v':=.agg ys) (by simp only[JC,hi,hu,hj,g1,zq,Bt]) (by unfold PR;exact⟨_,rfl,g2⟩)
theorem Jw(z:List V):∀n,Bb F ρ N (Jr (z.map U7) n) ((zn n z).flatten)
 |0=>by simp[Jr]
 |n+1=>by
  simp only[Jr,zy,zQ];exact(DQ z).append (Jw z n)
theorem GJ(z:List V):∀n,EF z (n*z.length)=(zn n z).flatten:=by
 intro n;apply zR;intro i;unfold EF;by_cases hz:z.length=0
 ·have:z=[]:=zo.1 hz;subst this;have:(zn n ([]:List V)).flatten=[]:=by induction n with|zero=>rfl|succ n ih=>simp[zy]
  rw[this];simp
 ·have hpos:0<z.length:=Nat.pos_of_ne_zero hz;induction n generalizing i with
  |zero=>simp
  |succ n ih=>
   rw[zy,zQ];by_cases hi:i<z.length
   ·rw[zF hi,zS,zN (by rw[zt];omega)];simp only[zq,Nat.mod_eq_of_lt hi];simp[List.getD_eq_getElem?_getD,hi]
   ·rw[zE (by omega), ←ih (i-z.length)];rw[zS,zS];by_cases h2:i<(n+1)*z.length
    ·rw[zN h2,zN (by rw[zt]at h2;omega)];simp only[zq];rw[Nat.mod_eq_sub_mod (by omega)]
    ·rw[List.getElem?_eq_none (by simp;omega),List.getElem?_eq_none (by simp;rw[zt]at h2;omega)]
theorem OX{sz n:Nat}{o:Nat}(ho:o=0∨o=sz):PR F (BF ρ N (some (h.nx,n))) (N+1) (.sl N sz 0 n none) (.sl h.nx 0 n n o):=by
 unfold PR;refine⟨zA _,fun b m hb=>.inl ?_⟩;simp[BF]at hb;obtain⟨rfl,rfl⟩:=hb;exact⟨ze _,by show 0+n≤n;omega,o,ho,by rw[zu];rfl⟩
theorem Ld{place:Nat→Option (Nat×Nat)}:∀ {l:List (Nat×V)} {xs ys:List V},HY place xs l=some ys→ys.length=xs.length
 |[],xs,ys,h=>by cases h;rfl
 |(i,v)::l,xs,ys,h=>by
  unfold HY at h;split at h
  ·cases h
  ·rename_i off size _;cases hc:(zf v.cells.length size&&zl (off+size) xs.length)with
   |false=>rw[hc]at h;cases h
   |true=>
    rw[hc]at h;rw[Ld h,FB]
end
section
variable {B:Nat}{h0:H0}{F:Fz}{ρ:DO}{N:Nat}{C:Ctx}{st st':AK}{fr:Fr}{h h':H}
theorem DN.nil{s:Sh}:DN F s [] []:=⟨by simp,fun i hi=>by simp at hi⟩
theorem DN.cons{s:Sh}{x:s.T}{l:List s.T}{a b:List V}(ha:DC F s x a)(hb:DN F s l b):DN F s (x::l) (a++b):=by
 refine⟨by rw[List.length_append,ha.len,hb.1,List.length_cons,zt];omega,fun i hi=>?_⟩;cases i with
 |zero=>
  simp only[zu,zK,zW];rw[←ha.len,List.take_left];exact ha
 |succ i=>
  have e:(a++b).drop ((i+1)*s.sz)=b.drop (i*s.sz):=by
   rw[zt,z7,Fg, ←ha.len,List.drop_left]
  rw[e];exact hb.2 i (by simpa using hi)
theorem DN.ZU{s:Sh}{x:s.T}{l:List s.T}{cs:List V}(h:DN F s (x::l) cs):∃a b,cs=a++b∧DC F s x a∧DN F s l b:=by
 have h0:=h.2 0 (by simp);simp only[zu,zK,zW]at h0;refine⟨cs.take s.sz,cs.drop s.sz,(List.take_append_drop _ _).symm,h0,?_,fun i hi=>?_⟩
 ·rw[List.length_drop,h.1,List.length_cons,zt];omega
 ·have:=h.2 (i+1) (by simpa using hi);rw[←Fg,z7, ←zt];exact this
theorem DN.append{s:Sh}:∀ {l m:List s.T} {a b:List V},DN F s l a→DN F s m b→DN F s (l++m) (a++b)
 |[],m,a,b,h,h'=>by
  have:a=[]:=zo.1 (by rw[h.1];simp);subst this;simpa using h'
 |x::l,m,a,b,h,h'=>by
  obtain⟨c,d,rfl,h1,h2⟩:=h.ZU;rw[List.append_assoc,List.cons_append];exact DN.cons h1 (h2.append h')
theorem DN.replicate{s:Sh}{z:s.T}{c:List V}(hz:DC F s z c):∀n,DN F s (zn n z) ((zn n c).flatten)
 |0=>DN.nil
 |n+1=>by
  rw[zy,zy,zQ];exact DN.cons hz (DN.replicate hz n)
theorem DN.QS{s:Sh}:∀ {l:List s.T} {a:List V},DN F s l a→a.all V.one=true
 |[],a,h=>by
  have:a=[]:=zo.1 (by rw[h.1];simp);subst this;rfl
 |x::l,a,h=>by
  obtain⟨c,d,rfl,h1,h2⟩:=h.ZU;rw[List.all_append,h2.QS,Bool.and_true];exact zB.2 h1.QS
theorem DN.part{s:Sh}{l:List s.T}{cs:List V}(h:DN F s l cs){off len:Nat}(hl:off+len≤l.length):DN F s ((l.drop off).take len) ((cs.drop (off*s.sz)).take (len*s.sz)):=by
 have hle:(off+len)*s.sz≤l.length*s.sz:=zh _ hl;rw[zp]at hle;have h1:=h.1;refine⟨by simp;rw[zI (by omega),zI (by omega)],fun i hi=>?_⟩;have hi':i<len:=by simp at hi;omega
 have hi2:(i+1)*s.sz≤len*s.sz:=zh _ hi';rw[zt]at hi2;rw[List.getElem_take,List.getElem_drop];have:=h.2 (off+i) (by omega);have e:(((cs.drop (off*s.sz)).take (len*s.sz)).drop (i*s.sz)).take s.sz=(cs.drop ((off+i)*s.sz)).take s.sz:=by
  rw[List.drop_take,List.take_take,List.drop_drop,zp,zI (by omega)]
 rw[e];exact this
theorem qI(hr:SR B h0 F ρ st.nx st.ob h){t:TypeId}{p q:PV}{x y:V}(hx:PR F ρ st.nx p x)(hy:PR F ρ st.nx q y){v:PV}(ht:(ZJ C.T t p q st).To v st'):OK B h0 F ρ st h [] (EP (NT C.T h t x y)) v st':=by
 unfold ZJ at ht;split at ht
 case h_2=>simp at ht
 rename_i e k l k' c hu;obtain rfl:=Cw hx;obtain rfl:=Cw hy;split at ht
 case h_2=>simp at ht
 rename_i i s hi hs;cases hc:(zr 0 i.zero.length&&zf i.zero.length i.size&&zf i.size s.sz)with
 |false=>rw[hc]at ht;simp at ht
 |true=>
  rw[hc]at ht;simp only[zc]at hc;obtain⟨⟨c2,c3⟩,c4⟩:=hc;simp only[cond_true]at ht;split at ht
  case h_2=>simp at ht
  rename_i z hz;simp only[BD,zc,decide_eq_true_eq]at ht;obtain⟨⟨⟨⟨k1,k2⟩,k3⟩,k4⟩,rfl,rfl⟩:=ht;have k2':l=c:=k2;subst k2';obtain⟨n,rfl,hn⟩:=Dg k1;rw[hn]at k3 ⊢;have e3:=zd c3;have e4:=zd c4;have hd:NT C.T h t (.int k (zz n)) (.int k' (zz n))=some (.sl h.nx 0 n n 0,h.push (.cells (EF i.zero (n*i.size)) e (0,0))):=by
   have a1:zl n n=true:=zi (ze _);have a2:zr n 9223372036854775808=true:=Dk (by have:(zz n:Int)<9223372036854775808:=k4;simp at this;omega);have a3:zl (i.bytes*n) 281474976710656=true:=zi k3;simp only[NT,hu,hi,a1,a2,a3,c2,c3,zT,cond_true,Il]
  rw[hd];have hzc:=CA (DQ (F:=F) (ρ:=ρ) (N:=st.nx) i.zero) hz;have hcells:DN F s (zn n z) (EF i.zero (n*i.size)):=by
   rw[←e3,GJ];exact DN.replicate hzc n
  exact OK.new hr (o:=.arr false e s (zn n z)) (n:=n) rfl ⟨_,_,rfl,hcells,ze _,by simp⟩ (OX (.inl rfl))
theorem UK(hr:SR B h0 F ρ st.nx st.ob h){s:Sh}{p:PV}{x:V}(hx:PR F ρ st.nx p x){c:Bool}{l:List s.T}(hd:MU st s p=some (c,l))(hc:c=true):
  O6 x=some l.length∧(s.sz=1∨Nf x=true)∧∃cs,src h s.sz x l.length=some cs∧DN F s l cs:=by
 unfold MU at hd;split at hd
 case h_1=>
  cases hd;simp only[PR]at hx;subst hx;exact⟨rfl,.inr rfl,[],rfl,DN.nil⟩
 case h_2=>
  rename_i s' l';rw[zm]at hd;obtain⟨r,h1,h2⟩:=hd;obtain⟨e,he⟩:=Cv h1;have e':s'=s:=by cases e;rfl
  subst e';have:r=l':=by have:=he;cases this;rfl
  subst this;cases h2;simp only[PR,DC]at hx;obtain⟨u,hu1,hx⟩:=hx;obtain rfl:x=u:=by simpa using hu1
  rcases hx with⟨rfl,rfl|rfl|rfl⟩|⟨b,off,cap,o,bs,rfl,g1,g2,g3,g5,g4⟩
  ·exact⟨rfl,.inr rfl,[],rfl,DN.nil⟩
  ·exact⟨rfl,.inr rfl,[],rfl,DN.nil⟩
  ·exact⟨rfl,.inr rfl,[],rfl,DN.nil⟩
  ·obtain⟨te,fz,hg⟩:=hr.frz b bs g2;suffices hD:DN F s' l ((bs.drop off).take (l.length*s'.sz))from⟨rfl,.inr rfl,_,rd_some hg g3 hD.ok,hD⟩
   refine⟨?_,fun i hi=>?_⟩
   ·simp;rw[zI (by omega)]
   ·have hi2:(i+1)*s'.sz≤l.length*s'.sz:=zh _ hi;rw[zt]at hi2;have e:(((bs.drop off).take (l.length*s'.sz)).drop (i*s'.sz)).take s'.sz=(bs.drop (off+i*s'.sz)).take s'.sz:=by
     rw[List.drop_take,List.take_take,List.drop_drop,zI (by omega)]
    rw[e];exact g4 i hi
 case h_3=>
  rename_i id sz off len cap;split at hd
  case h_2=>cases hd
  rename_i fzb te s' l' ho;cases hz:zf sz s'.sz with
  |false=>rw[hz]at hd;cases hd
  |true=>
   rw[hz]at hd;have hz:=zd hz;simp only[cond_true,zm]at hd;obtain⟨r,h1,h2⟩:=hd;obtain⟨e,he⟩:=Cv h1;have e':s'=s:=by cases e;rfl
   subst e';have:r=l':=by have:=he;cases this;rfl
   subst this;cases h2;simp only[decide_eq_true_eq]at hc;obtain⟨b,n,y,g1,g2,⟨cs,fz,rfl,g3,g4,g5⟩,_⟩:=hr.at ho;simp only[PR]at hx;have hlen:((r.drop off).take len).length=len:=by simp;omega
   have hle:(off+len)*s'.sz≤r.length*s'.sz:=zh _ hc;rw[zp]at hle;rw[hlen];rcases hx.2 b n g1 with⟨_,_,o,_,rfl⟩|⟨rfl,_,hof,rfl|⟨off',rfl,hoff⟩⟩
   ·refine⟨rfl,.inr rfl,_,rd_some g2 ?_ ?_,?_⟩
    ·rw[hz,g3.1];exact hle
    ·rw[hz];exact(g3.part hc).ok
    ·rw[hz];exact g3.part hc
   ·refine⟨rfl,.inr rfl,[],rfl,?_⟩;simpa using DN.nil
   ·refine⟨rfl,.inr rfl,_,rd_some g2 ?_ ?_,?_⟩
    ·rw[hz]at hoff;rw[g3.1];simp at hle ⊢;omega
    ·simp
    ·simp;exact DN.nil
 case h_5=>cases hd
 case h_4=>
  rename_i t;rw[zm]at hd;obtain⟨r,h1,h2⟩:=hd;obtain⟨e,he⟩:=Cv h1;have e':s=.int .u8:=by cases e;rfl
  subst e';have:r=List.map (fun b:UInt8=>(b.toNat:Int)) t:=by have:=he;cases this;rfl
  subst this;cases h2;obtain rfl:=EL hx;refine⟨by simp[O6],.inl rfl,_,rfl,?_⟩;rw[zY,List.take_length];refine⟨by simp[Sh.sz],fun j hj=>?_⟩;have hj':j<t.length:=by simpa using hj
  have e1:((t.map fun b=>ya .u8 (b.toNat:Int)).drop (j*1)).take 1=[ya .u8 ((t[j]).toNat:Int)]:=by
   rw[zP,zw (by simpa using hj')];simp
  show DC _ (.int .u8) _ (((t.map fun b=>ya .u8 (b.toNat:Int)).drop (j*1)).take 1);rw[e1];simp[DC]
theorem Yo(hr:SR B h0 F ρ st.nx st.ob h){s:Sh}{p:PV}{x:V}(hx:PR F ρ st.nx p x){c:Bool}{l:List s.T}(hd:N9 st s p=some (c,l))(hc:c=true):
  O6 x=some l.length∧(s.sz=1∨Nf x=true)∧∃cs,src h s.sz x l.length=some cs∧DN F s l cs:=UK hr hx.lz hd hc
theorem SR.congr(hr:SR B h0 F ρ N st.ob h)(hg:∀c,h'.get c=h.get c)(hn:h'.nx=h.nx):SR B h0 F ρ N st.ob h':=
 ⟨fun id o ho=>by obtain⟨b,n,x,h1,h2,h3⟩:=hr.obj id o ho;exact⟨b,n,x,h1,(hg b).trans h2,h3⟩,hr.inj,fun b cs hb=>by obtain⟨t,fz,h1⟩:=hr.frz b cs hb;exact⟨t,fz,(hg b).trans h1⟩,hr.own,hr.dead,
  fun b hb he=>(hg b).trans (hr.old b hb he),fun b o hb=>by rw[hn];exact hr.lt b o ((hg b).symm.trans hb),by rw[hn];exact hr.le,hr.fo,hr.gl,fun c hc=>by obtain⟨g1,g2,g3⟩:=hr.pn c hc;exact⟨(hg c).trans g1,g2,g3⟩⟩
end
section
variable {B:Nat}{h0:H0}{F:Fz}{ρ:DO}{N:Nat}{C:Ctx}{st st':AK}{fr:Fr}{h h':H}
theorem SR.Z7{ob:Ob}(hr:SR B h0 F ρ N ob h){o:Obj}{x:O}{b n:Nat}(hg:h.get b=some x)(hfree:∀id o m,AP ob id=some o→ρ id≠some (b,m))(hF:F b=none)(hB:h0.XP B b)(hP:b∉h0.pin)(hf:o.frozen=false)
  (hx:WL F (BF ρ N (some (b,n))) (N+1) n o x):SR B h0 F (BF ρ N (some (b,n))) (N+1) ((N,o)::ob) h:=by
 have hl:Le F ρ N F (BF ρ N (some (b,n))) (N+1):=Le.new _;have hget:∀j,AP ((N,o)::ob) j=if j=N then some o else AP ob j:=by
  intro j;simp only[AP,Bk];by_cases e:N=j
  ·subst e;simp
  ·rw[if_neg (fun h=>e h.symm)];simp[e]
 refine⟨fun j oj hj=>?_,fun i j oi oj c m m' hi hj h1 h2=>?_,hr.frz,fun id c m hb=>?_,fun j hj=>?_,hr.old,hr.lt,hr.le,hr.fo,hr.gl,fun c hc=>?_⟩
 ·rw[hget]at hj;by_cases e:j=N
  ·subst e;simp only[if_true,zk]at hj;subst hj;exact⟨b,n,x,by simp[BF],hg,hx,fun _=>hF,fun e=>by rw[hf]at e;cases e⟩
  ·rw[if_neg e]at hj;obtain⟨c,m,y,h1,h2,h3,h4⟩:=hr.obj j oj hj;exact⟨c,m,y,by simp[BF,e,h1],h2,h3.mono hl,h4⟩
 ·rw[hget]at hi hj;have key:∀k ok m,(if k=N then some o else AP ob k)=some ok→BF ρ N (some (b,n)) k=some (c,m)→(k=N∧c=b)∨(k≠N∧AP ob k=some ok∧ρ k=some (c,m)∧c≠b):=by
   intro k ok m hk hr';by_cases e:k=N
   ·subst e;simp[BF]at hr';exact .inl ⟨rfl,hr'.1.symm⟩
   ·rw[if_neg e]at hk;simp only[BF,e,if_false]at hr';exact .inr ⟨e,hk,hr',fun ec=>hfree k ok m hk (ec▸hr')⟩
  rcases key i oi m hi h1 with⟨e1,e2⟩|⟨e1,e2,e3,e4⟩<;>rcases key j oj m' hj h2 with⟨f1,f2⟩|⟨f1,f2,f3,f4⟩
  ·rw[e1,f1]
  ·exact absurd e2 f4
  ·exact absurd f2 e4
  ·exact hr.inj i j oi oj c m m' e2 f2 e3 f3
 ·unfold BF at hb;split at hb
  ·rename_i e;cases hb;subst e;exact⟨zA _,hB⟩
  ·have:=hr.own id c m hb;exact⟨by omega,this.2⟩
 ·rw[hget]at hj;by_cases e:j=N
  ·rw[if_pos e]at hj;cases hj
  ·rw[if_neg e]at hj;simp[BF,e,hr.dead j hj]
 ·obtain⟨g1,g2,g3⟩:=hr.pn c hc;refine⟨g1,g2,fun id m e=>?_⟩;unfold BF at e;split at e
  ·cases e;exact hP hc
  ·exact g3 id m e
theorem OZ{off:Nat}{cs:List V}(h:off≤cs.length):Ci off [] cs=cs:=by
 apply zR;intro j;rw[GC (by simpa using h)];rw[if_neg (by simp)]
theorem S8{off:Nat}{vs cs:List V}(h:off+vs.length≤cs.length):Ci off vs cs=cs.take off++(vs++cs.drop (off+vs.length)):=by
 apply zR;intro j;rw[GC h];by_cases h1:j<off
 ·rw[if_neg (by omega),zF (by simp;omega),List.getElem?_take_of_lt h1]
 ·rw[zE (by simp;omega)];have hm:(cs.take off).length=off:=by simp;omega
  rw[hm];by_cases h2:j<off+vs.length
  ·rw[if_pos ⟨by omega,h2⟩,zF (by omega)]
  ·rw[if_neg (by omega),zE (by omega),List.getElem?_drop];congr 1;omega
theorem DN.dV{s:Sh}{l new:List s.T}{cs ns:List V}{a:Nat}(h:DN F s l cs)(hn:DN F s new ns)(ha:a+new.length≤l.length):
  DN F s (l.take a++(new++l.drop (a+new.length))) (Ci (a*s.sz) ns cs):=by
 have h1:=h.1;have h2:=hn.1;have hle:(a+new.length)*s.sz≤l.length*s.sz:=zh _ ha;rw[S8 (by rw[h2, ←zp,h1];exact hle)];have p1:=h.part (off:=0) (len:=a) (by omega);have p2:=h.part (off:=a+new.length) (len:=l.length-(a+new.length)) (by omega);rw[zu,zK,zK]at p1;rw[zX (by simp),zX (by rw[List.length_drop,h1, ←Nat.sub_mul];exact ze _)]at p2;rw[h2, ←zp];exact p1.append (hn.append p2)
def EV:List PV→List Nat
 | .sl id _ _ _ _::_=>[id]
 |_=>[]
theorem Xp{s s':Sh}{x:s'.T}{c:Bool}{l:List s.T}(hd:N9 st s (.dat s' x)=some (c,l)):c=true:=by
 unfold N9 at hd;cases s' with
 |list a=>
  have hd:(DG (.list a) (.list s) x).map (fun r=>(true,r))=some (c,l):=hd;rw[zm]at hd;obtain⟨r,_,e⟩:=hd;cases e;rfl
 |nlist a=>
  have hd:(DG (.list a) (.list s) x).map (fun r=>(true,r))=some (c,l):=hd;rw[zm]at hd;obtain⟨r,_,e⟩:=hd;cases e;rfl
 |str=>
  have hd:(DG (.list (.int .u8)) (.list s) (List.map (fun b:UInt8=>(b.toNat:Int)) x)).map (fun r=>(true,r))=some (c,l):=hd;rw[zm]at hd;obtain⟨r,_,e⟩:=hd;cases e;rfl
 |_=>cases hd
theorem Y9(hr:SR B h0 F ρ st.nx st.ob h){ts:Array TypeId}{ps:List PV}{xs:List V}(hx:Bb F ρ st.nx ps xs){v:PV}(ht:(Q1 C.T ts ps st).To v st'):OK B h0 F ρ st h (EV ps) (EP (FL C.T h ts xs)) v st':=by
 unfold Q1 at ht;split at ht
 case h_2=>simp at ht
 rename_i t tx p q hts htx;simp only[Bb]at hx;obtain⟨x,_,rfl,hx,y,_,rfl,hy,rfl⟩:=hx;split at ht
 case h_2=>simp at ht
 rename_i e ex hu hux;have hss:RA ex=true:=by
  cases hq:RA ex with
  |true=>rfl
  |false=>rw[hq]at ht;simp at ht
 rw[hss]at ht;simp only[cond_true]at ht;split at ht
 case h_2=>simp at ht
 rename_i i s hi hs;cases hc:(zr 0 i.bytes&&zr 0 i.size&&zf i.zero.length i.size&&zf i.size s.sz)with
 |false=>rw[hc]at ht;simp at ht
 |true=>
  rw[hc]at ht;simp only[zc]at hc;obtain⟨⟨⟨c1,c2⟩,c3⟩,c4⟩:=hc;have e4:=zd c4;simp only[cond_true]at ht;split at ht
  case h_2=>simp at ht
  rename_i c new hel;have head:c=true→∃cs,src h i.size y new.length=some cs∧DN F s new cs∧FL C.T h ts [x,y]=(match x with
      | .nils=>bif zf new.length 0 then some (.nils,h)
       else bif zl ((2*new.length+1000)*i.bytes) 281474976710656 then some (.sl h.nx 0 new.length new.length i.size,Il h e cs)else none
      | .es0=>bif zf new.length 0 then some (.es0,h)
       else bif zl ((2*new.length+1000)*i.bytes) 281474976710656 then some (.sl h.nx 0 new.length new.length i.size,Il h e cs)else none
      | .esl=>bif zf new.length 0 then some (.esl,h)else none
      | .sl b off len cap o=>
       bif zl (len+new.length) cap then(wr h b (off+len*i.size) cs).map fun h'=>(.sl b off (len+new.length) cap o,h')
       else bif zl ((2*(len+new.length)+1000)*i.bytes) 281474976710656 then
        match src h i.size x len with
        |some old=>
         bif zf o 0 then some (.sl h.nx 0 (len+new.length) (len+new.length) i.size,Il h e (old++cs))
         else
          match h.get b with
          |some (.cells _ te fz)=>
           bif zf off 0&&zf o i.size&&zf te e&&zl fz.2 fz.1&&cs.all V.one then some (.sl h.nx 0 (len+new.length) (len+new.length) i.size,(h.kill b).push (.cells (old++cs) e (0,0)))
           else none
          |_=>none
        |none=>none
       else none
      |_=>none):=by
   intro hc;obtain⟨g1,g2,cs,g3,g4⟩:=Yo hr hy hel hc;rw[←e4]at g3;refine⟨cs,g3,g4,?_⟩;have hcond:(zr 0 i.bytes&&zr 0 i.size&&zf i.zero.length i.size&&(zf i.size 1||Nf y))=true:=by
    rw[c1,c2,c3];rcases g2 with g2|g2
    ·rw[e4,g2];rfl
    ·rw[g2,z8];rfl
   have hint:isInt ex=false:=by cases ex<;>first|rfl|cases hss
   simp only[FL,hts,htx,hu,hux,g1,hi,hint,hcond,cond_true,g3];cases x<;>rfl
  split at ht
  case h_3=>simp at ht
  case h_1=>
   simp only[PR]at hx;subst hx;have grow:c=true→0<new.length→(2*new.length+1000)*i.bytes≤rU→OK B h0 F ρ st h (EV [PV.nil,q]) (EP (FL C.T h ts [.nils,y])) (.sl st.nx s.sz 0 new.length none) (st.push (.arr false e s new)):=by
    intro k1 k2 k3;obtain⟨cs,g1,g2,g3⟩:=head k1;have b1:zf new.length 0=false:=by rw[Bk];simp;intro e;rw[e]at k2;simp at k2
    have b2:zl ((2*new.length+1000)*i.bytes) 281474976710656=true:=zi k3;rw[g3];simp only[b1,b2,cond_false,cond_true];exact OK.new hr (o:=.arr false e s new) (n:=new.length) rfl ⟨_,_,rfl,g2,ze _,rfl⟩ (OX (.inr e4))
   have same:c=true→new.length=0→OK B h0 F ρ st h (EV [PV.nil,q]) (EP (FL C.T h ts [.nils,y])) .nil st:=by
    intro k1 k2;obtain⟨cs,g1,g2,g3⟩:=head k1;have b1:zf new.length 0=true:=by rw[k2];rfl
    rw[g3];simp only[b1,cond_true];exact⟨.nils,h,F,ρ,.inl rfl,by simp[PR],hr,zJ,rfl,rfl,ze _,fun _ _=>.inl rfl⟩
   split at ht
   case h_1=>
    simp only[AQ]at ht;obtain⟨rfl,rfl⟩:=ht;simp only[N9,MU,lz,zk,zG]at hel;obtain⟨rfl,rfl⟩:=hel;exact same rfl rfl
   case h_2=>
    have hc':c=true:=by
     exact Xp hel
    by_cases hn:0<new.length
    ·rw[decide_eq_true hn]at ht;cases ht with
     |tt ht=>
      simp only[BD,zc,decide_eq_true_eq]at ht;obtain⟨⟨k1,k3⟩,rfl,rfl⟩:=ht;exact grow k1 hn k3
    ·rw[decide_eq_false hn]at ht;cases ht with
     |ff ht=>
      simp only[AQ]at ht;obtain⟨rfl,rfl⟩:=ht;exact same hc' (by omega)
   case h_3=>
    by_cases hn:0<new.length
    ·rw[decide_eq_true hn]at ht;cases ht with
     |tt ht=>
      simp only[BD,zc,decide_eq_true_eq]at ht;obtain⟨⟨k1,k3⟩,rfl,rfl⟩:=ht;exact grow k1 hn k3
    ·rw[decide_eq_false hn]at ht;cases ht with
     |ff ht=>
      simp only[BD]at ht;obtain⟨k1,rfl,rfl⟩:=ht;exact same k1 (by omega)
   case h_4=>
    simp only[BD,zc,decide_eq_true_eq]at ht;obtain⟨⟨⟨k1,k2⟩,k3⟩,rfl,rfl⟩:=ht;exact grow k1 k2 k3
  case h_2=>
   rename_i id sz off len cap;split at ht
   case h_2=>simp at ht
   rename_i e' s' l ho;split at ht
   case h_2=>simp at ht
   rename_i l' hl';obtain⟨ecast,hcast⟩:=Cv hl';have es:s'=s:=by cases ecast;rfl
   subst es;have:l'=l:=by have:=hcast;cases this;rfl
   subst this;cases hcc:(zf e e'&&zf sz s'.sz)with
   |false=>rw[hcc]at ht;simp at ht
   |true=>
    rw[hcc]at ht;simp only[zc]at hcc;have ee:=zd hcc.1;have esz:=zd hcc.2;subst ee;subst esz;simp only[cond_true]at ht;split at ht
    case h_2=>
     rename_i k;simp only[BD,zc,decide_eq_true_eq]at ht;obtain⟨⟨⟨k1,k2⟩,k3⟩,rfl,rfl⟩:=ht;obtain⟨cs,g1,g2,g3⟩:=head k1;obtain⟨b,n,z,h1,h2,⟨bs,fz,rfl,h3,h4,h5⟩,h6,_⟩:=hr.at ho;simp only[PR]at hx;rw[g3];have hone:cs.all V.one=true:=g2.QS;have hcl:cs.length=new.length*s'.sz:=g2.1;have hbl:=h3.1;have hle:(off+len+new.length)*s'.sz≤l'.length*s'.sz:=zh _ (by omega);have hexp:(off+len+new.length)*s'.sz=off*s'.sz+len*s'.sz+new.length*s'.sz:=by rw[zp,zp]
     have hsp:=DN.dV h3 g2 (a:=off+len) (by omega);have hlen:(l'.take (off+len)++(new++l'.drop (off+len+new.length))).length=l'.length:=by simp;omega
     rcases hx.2 b n h1 with⟨_,g6,o,g5,rfl⟩|⟨e0,ek,g6,g7⟩
     ·simp only[zL]at g6;have hw:wr h b (off*s'.sz+len*i.size) cs=some (h.put b (.cells (Ci ((off+len)*s'.sz) cs bs) e fz)):=by
       rw[LM h2 (by rw[e4,hcl,hbl];omega) h4 hone,e4, ←zp]
      have b1:zl (len+new.length) k=true:=zi k2;refine⟨.sl b (off*s'.sz) (len+new.length) k o,h.put b (.cells (Ci ((off+len)*s'.sz) cs bs) e fz),F,ρ,.inl ?_,?_,hr.set ho h1 h2 rfl rfl (o':=.arr false e s' _) ⟨_,fz,rfl,hsp,h4,hlen.trans h5⟩,zJ,rfl,rfl,ze _,fun c _=>?_⟩
      ·simp only[zL,b1,cond_true,hw,zq,EP]
      ·simp only[PR];refine⟨hx.1,fun b' n' hb'=>.inl ?_⟩;rw[h1]at hb';cases hb';exact⟨by simpa using k2,by simpa using g6,o,g5,rfl⟩
      ·rw[H.Bi];by_cases e:c=b
       ·exact .inr ⟨id,by simp[EV],n,e▸h1⟩
       ·rw[if_neg e];exact .inl rfl
     ·cases ek;subst e0;have hn0:new.length=0:=by omega
      have hnil:new=[]:=zo.1 hn0;subst hnil;have hcs:cs=[]:=zo.1 (by rw[hcl];simp);subst hcs;have hlp:Ci ((off+0)*s'.sz) [] bs=bs:=OZ (by rw[hbl];have:=zh s'.sz (show off+0≤l'.length by omega);exact this);have hput:∀c,(h.put b (.cells (Ci ((off+0)*s'.sz) [] bs) e fz)).get c=h.get c:=by
       intro c;rw[hlp,H.Bi];by_cases e:c=b
       ·rw[if_pos e,e,h2]
       ·rw[if_neg e]
      have hset:=hr.set ho h1 h2 rfl rfl (o':=.arr false e s' _) (x':=.cells (Ci ((off+0)*s'.sz) [] bs) e fz) ⟨_,fz,rfl,hsp,h4,hlen.trans h5⟩;have hset':SR B h0 F ρ st.nx (Dl st.ob id (.arr false e s' (l'.take (off+0)++([]++l'.drop (off+0+0))))) h:=
       SR.congr (st:=⟨st.n,st.fr,Dl st.ob id _,st.nx⟩) hset (fun c=>(hput c).symm) rfl
      have hpr:∀w,(w=.esl∨∃off',w=.sl b off' 0 0 0∧off'≤off*s'.sz)→PR F ρ st.nx (.sl id s'.sz off (Nat.add 0 0) (some 0)) w:=by
       intro w hw;simp only[PR];refine⟨hx.1,fun b' n' hb'=>.inr ?_⟩;rw[h1]at hb';cases hb';exact⟨by simp,by simp,g6,hw⟩
      rcases g7 with rfl|⟨off',rfl,hoff'⟩
      ·exact⟨.esl,h,F,ρ,.inl rfl,hpr _ (.inl rfl),hset',zJ,rfl,rfl,ze _,fun _ _=>.inl rfl⟩
      ·have hob:off'≤bs.length:=by
        have h7:off*s'.sz≤l'.length*s'.sz:=zh _ (by omega);omega
       have hw:wr h b (off'+0*i.size) []=some (h.put b (.cells (Ci (off'+0*i.size) [] bs) e fz)):=LM h2 (by simpa using hob) h4 rfl;have hput2:∀c,(h.put b (.cells (Ci (off'+0*i.size) [] bs) e fz)).get c=h.get c:=by
        intro c;rw[OZ (by simpa using hob),H.Bi];by_cases e:c=b
        ·rw[if_pos e,e,h2]
        ·rw[if_neg e]
       refine⟨.sl b off' 0 0 0,h.put b (.cells (Ci (off'+0*i.size) [] bs) e fz),F,ρ,.inl ?_,hpr _ (.inr ⟨off',rfl,hoff'⟩),SR.congr (st:=⟨st.n,st.fr,Dl st.ob id _,st.nx⟩) hset' hput2 rfl,zJ,rfl,rfl,ze _,fun c _=>.inl (hput2 c)⟩;simp only[zH,Nat.add_zero,show zl 0 0=true from rfl,cond_true,hw,zq,EP]
    simp only[BD,zc,decide_eq_true_eq]at ht;obtain⟨⟨⟨⟨k1,k2⟩,k3⟩,k4⟩,rfl,rfl⟩:=ht;subst k2;obtain⟨cs,g1,g2,g3⟩:=head k1;obtain⟨b,n,z,h1,h2,⟨bs,fz,rfl,h3,h4,h5⟩,h6,_⟩:=hr.at ho;have hFb:=h6 rfl;simp only[PR]at hx;have hB:=(hr.own id b n h1).2;have hPb:b∉h0.pin:=fun hp=>(hr.pn b hp).2.2 id n h1
    have hidN:=(hr.own id b n h1).1;obtain⟨_,_,o,g5,rfl⟩:len≤len∧0+len≤n∧∃o,(o=0∨o=s'.sz)∧x=.sl b (0*s'.sz) len len o:=by
     rcases hx.2 b n h1 with g|⟨_,e,_⟩
     ·exact g
     ·cases e
    have hbl:bs.length=len*i.size:=by rw[h3.1,k3,e4]
    have hfree:∀j oj m,AP (FE st.ob id) j=some oj→BF ρ id none j≠some (b,m):=by
     intro j oj m hj hjr;rw[DI]at hj;split at hj
     ·cases hj
     ·rename_i hne;simp only[BF,hne,if_false]at hjr;exact hne (hr.inj j id oj _ b m n hj ho hjr h1)
    have hdel:=hr.del id;have hle1:Le F ρ st.nx F (BF ρ id none) st.nx:=Le.MM id;have hnew:DN F s' (l'++new) (bs++cs):=h3.append g2;have hlen:(l'++new).length=len+new.length:=by rw[List.length_append, ←k3]
    have hone:cs.all V.one=true:=g2.QS;rw[g3];simp only;by_cases hn:new.length=0
    ·
     have hnil:new=[]:=zo.1 hn;have hcs:cs=[]:=zo.1 (by rw[g2.1,hn,zu]);subst hcs;have b1:zl (len+new.length) len=true:=zi (by omega);have hw:wr h b (0*s'.sz+len*i.size) []=some (h.put b (.cells (Ci (0*s'.sz+len*i.size) [] bs) e fz)):=LM h2 (by rw[hbl];simp) h4 rfl;have hput:∀c,(h.put b (.cells (Ci (0*s'.sz+len*i.size) [] bs) e fz)).get c=h.get c:=by
      intro c;rw[OZ (by rw[hbl];simp),H.Bi];by_cases e:c=b
      ·rw[if_pos e,e,h2]
      ·rw[if_neg e]
     refine⟨.sl b (0*s'.sz) (len+new.length) len o,h.put b (.cells (Ci (0*s'.sz+len*i.size) [] bs) e fz),F,BF (BF ρ id none) st.nx (some (b,n)),.inl ?_,?_,?_,hle1.trans (Le.new _),rfl,rfl,ze _,fun c _=>.inl (hput c)⟩
     ·simp only[b1,cond_true,hw,zq,EP]
     ·unfold PR;refine⟨zA _,fun b' n' hb=>.inl ?_⟩;simp[BF]at hb;obtain⟨rfl,rfl⟩:=hb;refine⟨ze _,?_,o,g5,?_⟩
      ·show 0+(len+new.length)≤n;omega
      ·show V.sl b (0*s'.sz) (len+new.length) len o=.sl b (0*s'.sz) (len+new.length) (len+new.length) o;rw[hn];rfl
     ·refine SR.Z7 (ob:=FE st.ob id) ?_ (x:=.cells bs e fz) ((hput b).trans h2) hfree hFb hB hPb rfl ⟨bs,fz,rfl,?_,h4,?_⟩
      ·exact SR.congr (st:=⟨st.n,st.fr,FE st.ob id,st.nx⟩) hdel hput rfl
      ·rw[hnil,List.append_nil];exact h3
      ·rw[hnil,List.append_nil];exact h5
    ·
     have b1:zl (len+new.length) len=false:=by
      cases hb:zl (len+new.length) len with
      |false=>rfl
      |true=>have:=Nat.le_of_ble_eq_true hb;omega
     have b2:zl ((2*(len+new.length)+1000)*i.bytes) 281474976710656=true:=zi k4;have hsrc:src h i.size (.sl b (0*s'.sz) len len o) len=some bs:=by
      show rd h b (0*s'.sz) (len*i.size)=_;rw[rd_some h2 (by rw[hbl,zu];omega) (fun u hu=>h3.ok u (List.mem_of_mem_drop (List.mem_of_mem_take hu)))];rw[zu,zK, ←hbl,List.take_length]
     simp only[b1,b2,cond_false,cond_true,hsrc];have fin:∀ {h1':H},SR B h0 F (BF ρ id none) st.nx (FE st.ob id) h1'→h1'.nx=h.nx→(∀c,c≠b→h1'.get c=h.get c)→
       OK B h0 F ρ st h [id] (EP (some (.sl h.nx 0 (len+new.length) (len+new.length) i.size,h1'.push (.cells (bs++cs) e (0,0))))) (.sl st.nx s'.sz 0 (Nat.add len new.length) none) ((st.Nq id).push (.arr false e s' (l'++new))):=by
      intro h1' hr1 hnx hg;have hp:=hr1.push (o:=.arr false e s' (l'++new)) (x:=.cells (bs++cs) e (0,0)) (n:=len+new.length) rfl ⟨_,_,rfl,hnew,ze _,hlen⟩;refine⟨_,_,F,_,.inl rfl,?_,hp,hle1.trans (Le.new _),rfl,rfl,by show h.nx≤h1'.nx+1;omega,fun c hc=>?_⟩
      ·rw[←hnx];exact OX (.inr e4)
      ·rw[H.BC,if_neg (by omega)];by_cases e:c=b
       ·exact .inr ⟨id,zj.2 rfl,n,e▸h1⟩
       ·exact .inl (hg c e)
     rcases g5 with rfl|rfl
     ·simp only[zC,cond_true];exact fin hdel rfl (fun _ _=>rfl)
     ·have b3:zf s'.sz 0=false:=by
       rw[←e4];cases hb:zf i.size 0 with
       |false=>rfl
       |true=>have:=zd hb;rw[this]at c2;cases c2
      have b4:(zf (0*s'.sz) 0&&zf s'.sz i.size&&zf e e&&zl fz.2 fz.1&&cs.all V.one)=true:=by
       rw[zu,e4,hone,zi h4];simp
      simp only[b3,cond_false,h2,b4,cond_true];exact fin (hdel.kill hfree hFb hB hPb) rfl (fun c hc=>by rw[H.BY,if_neg hc])
end
section
variable {B:Nat}{h0:H0}{F:Fz}{ρ:DO}{N:Nat}{C:Ctx}{st st':AK}{fr:Fr}{h h':H}
theorem Ey:∀ {s:Sh} {x:s.T} {v:V},DV F s x v→PR F ρ N (B4 s x) v
 | .pair a b,x,v,h=>by obtain⟨cs,rfl,h1⟩:=h.1 rfl;unfold B4 PR;exact⟨cs,rfl,CI h1⟩
 | .unit,x,v,h=>by obtain⟨cs,rfl,h1⟩:=h.1 rfl;simp only[DC]at h1;subst h1;unfold B4 PR;exact⟨[],rfl,by simp⟩
 | .int _,x,v,h=>by have:=h.2 rfl;unfold B4 PR;exact this
 | .bool,x,v,h=>by have:=h.2 rfl;unfold B4 PR;exact this
 | .str,x,v,h=>by have:=h.2 rfl;unfold B4 PR;exact this
 | .list _,x,v,h=>by have:=h.2 rfl;unfold B4 PR;exact this
 | .nlist _,x,v,h=>by have:=h.2 rfl;unfold B4 PR;exact this
 | .fnv,x,v,h=>by
  have:=h.2 rfl;simp only[DC,zM,and_true]at this;subst this;unfold B4;cases (x:Option Fn)<;>simp[PR]
theorem gK{s:Sh}{p:PV}{x:s.T}{v:V}(hp:PR F ρ N p v)(hd:wB s p=some x):DV F s x v:=by
 unfold wB at hd;cases hb:(J8 p==s.O9)with
 |false=>rw[hb]at hd;cases hd
 |true=>
  rw[hb]at hd;simp only[cond_true]at hd;have hb:J8 p=s.O9:=by simpa using hb
  refine⟨fun e=>?_,fun e=>?_⟩
  ·rw[e]at hb;cases p<;>simp only[J8]at hb<;>try (cases hb;done)
   rename_i l;simp only[PR]at hp;obtain⟨cs,rfl,h1⟩:=hp;exact⟨cs,rfl,CA h1 hd⟩
  ·rw[e]at hb;have:p.cells=[p]:=by cases p<;>first|rfl|(simp[J8]at hb)
   rw[this]at hd;exact CA (by simpa using hp) hd
theorem dG{T:BS}{t:TypeId}{s:Sh}(h:kI T t=some s):(∃k,s=.int k∧T.und t=some (.int k))∨(s=.str∧T.und t=some .string)∨(s=.bool∧T.und t=some .bool):=by
 unfold kI at h;split at h
 ·rename_i k hu;cases h;exact .inl ⟨k,rfl,hu⟩
 ·rename_i hu;cases h;exact .inr (.inl ⟨rfl,hu⟩)
 ·rename_i hu;cases h;exact .inr (.inr ⟨rfl,hu⟩)
 ·cases h
theorem Vn{T:BS}{t:TypeId}{s:Sh}(hs:kI T t=some s){p:PV}{x:s.T}{v:V}(hp:PR F ρ N p v)(hd:kC s p=some x):DV F s x v:=by
 have:=G1 hp hd;rcases dG hs with⟨k,rfl,_⟩|⟨rfl,_⟩|⟨rfl,_⟩<;>exact⟨fun e=>(by cases e),fun _=>this⟩
theorem Qy{T:BS}{t:TypeId}{s:Sh}(hs:kI T t=some s){x:s.T}{v:V}(hv:DV F s x v):∃d,T.und t=some d∧HX T t d v=true∧(∀es,Ju T t v es=Kv T t v es 0)∧∀y u,DV F s y u→eK T t v u=some (nA s x y):=by
 rcases dG hs with⟨k,rfl,hu⟩|⟨rfl,hu⟩|⟨rfl,hu⟩<;>
 ·have h1:=hv.2 rfl;simp only[DC,zM,and_true]at h1;subst h1;refine⟨_,hu,rfl,fun _=>rfl,fun y u hy=>?_⟩;have h2:=hy.2 rfl;simp only[DC,zM,and_true]at h2;subst h2;simp[eK,hu,nA]
theorem O5{T:BS}{t:TypeId}{ks vs:Sh}(hs:kI T t=some ks){k:ks.T}{kv:V}(hk:DV F ks k kv):∀ {l:List (ks.T×vs.T)} {es:List (V×V×Nat)},MR F ks vs l es→∀i,∃r,Kv T t kv es i=some r∧
  (match r with
   |none=>Ke ks vs k l=none∧Rx ks vs k l=l∧∀x xv c,DV F vs x xv→MR F ks vs (Qw ks vs k x l) (es++[(kv,xv,c)])
   |some (j,u)=>(∃v,Ke ks vs k l=some v∧DV F vs v u)∧i≤j∧MR F ks vs (Rx ks vs k l) (es.eraseIdx (j-i))∧∀x xv,DV F vs x xv→MR F ks vs (Qw ks vs k x l) (T5 es (j-i) kv xv)):=by
 intro l es hm;induction hm with
 |nil=>intro i;exact⟨none,rfl,rfl,rfl,fun x xv c hx=>.cons hk hx .nil⟩
 |@cons a b l av bv n es h1 h2 h3 ih=>
  intro i;obtain⟨d,_,_,_,hq⟩:=Qy hs hk;have hq:=hq a av h1;unfold Kv;rw[hq];cases hb:nA ks k a with
  |true=>
   refine⟨some (i,bv),rfl,⟨b,by simp[Ke,hb],h2⟩,ze _,?_,fun x xv hx=>?_⟩
   ·simp only[zO,List.eraseIdx_cons_zero,Rx,hb,cond_true];exact h3
   ·simp only[zO,Qw,hb,cond_true,T5,List.modify_zero_cons];exact .cons hk hx h3
  |false=>
   obtain⟨r,g1,g2⟩:=ih (i+1);refine⟨r,g1,?_⟩;cases r with
   |none=>
    obtain⟨k1,k2,k3⟩:=g2;refine⟨by simp only[Ke,hb,cond_false];exact k1,by simp only[Rx,hb,cond_false,k2],fun x xv c hx=>?_⟩;simp only[Qw,hb,cond_false,List.cons_append];exact .cons h1 h2 (k3 x xv c hx)
   |some ju=>
    obtain⟨j,u⟩:=ju;obtain⟨⟨v,k1,k2⟩,k3,k4,k5⟩:=g2;have e:j-i=(j-(i+1))+1:=by omega
    refine⟨⟨v,by simp only[Ke,hb,cond_false];exact k1,k2⟩,by omega,?_,fun x xv hx=>?_⟩
    ·rw[e];simp only[List.eraseIdx_cons_succ,Rx,hb,cond_false];exact .cons h1 h2 k4
    ·rw[e];simp only[Qw,hb,cond_false,T5,List.modify_succ_cons];exact .cons h1 h2 (k5 x xv hx)
theorem lK(hr:SR B h0 F ρ st.nx st.ob h){t:TypeId}{v:PV}(ht:(Us C.T t st).To v st'):OK B h0 F ρ st h [] (EP (HC h none)) v st':=by
 unfold Us at ht;split at ht
 case h_2=>simp at ht
 split at ht
 case h_2=>simp at ht
 rename_i ks vs hk hv;simp only[AQ]at ht;obtain⟨rfl,rfl⟩:=ht;refine OK.new hr (o:=.map ks vs []) (x:=.map [] 0) (n:=0) rfl ⟨[],0,rfl,.nil⟩ ?_;unfold PR;exact⟨zA _,fun b m hb=>by simp[BF]at hb;rw[hb.1]⟩
theorem XV(hr:SR B h0 F ρ st.nx st.ob h){ks vs:Sh}{m:PV}{l:List (ks.T×vs.T)}{x:V}(hm:PR F ρ st.nx m x)(hd:Zf st ks vs m=some l):∃es,entries h x=some es∧MR F ks vs l es:=by
 unfold Zf at hd;split at hd
 ·cases hd;simp only[PR]at hm;subst hm;exact⟨[],rfl,.nil⟩
 ·rename_i id;split at hd
  case h_2=>cases hd
  rename_i ks' vs' l' ho;obtain⟨e,he⟩:=Cv hd;simp only[Sh.list.injEq,Sh.pair.injEq]at e;obtain⟨rfl,rfl⟩:=e;obtain rfl:l'=l:=he;obtain⟨b,n,o,h1,h2,⟨es,clk,rfl,h4⟩,_⟩:=hr.at ho;simp only[PR]at hm;obtain rfl:=hm.2 b n h1;exact⟨es,by simp[entries,h2],h4⟩
 ·cases hd
theorem bT{ks vs:Sh}{ok:Bool}{z:vs.T}{x:ks.T}:∀ {l:List (ks.T×vs.T)} {v:PV},(tU ks vs ok z x st l).To v st'→st=st'∧((Ke ks vs x l=none∧v=bif ok then .tup [B4 vs z,.bl false]else B4 vs z)∨∃w,Ke ks vs x l=some w∧v=bif ok then .tup [B4 vs w,.bl true]else B4 vs w)
 |[],v,ht=>by
  unfold tU at ht;simp only[AQ]at ht;exact⟨ht.2,.inl ⟨rfl,ht.1.symm⟩⟩
 |(a,b)::l,v,ht=>by
  unfold tU at ht;generalize hc:nA ks x a=c at ht;cases ht with
  |tt ht=>
   simp only[AQ]at ht;exact⟨ht.2,.inr ⟨b,by simp[Ke,hc],ht.1.symm⟩⟩
  |ff ht=>
   obtain⟨h1,h2⟩:=bT ht;have e:Ke ks vs x ((a,b)::l)=Ke ks vs x l:=by simp[Ke,hc]
   rw[e];exact⟨h1,h2⟩
theorem eI(hr:SR B h0 F ρ st.nx st.ob h){t:TypeId}{p q:PV}{x y:V}(hx:PR F ρ st.nx p x)(hy:PR F ρ st.nx q y){ok:Bool}{v:PV}(ht:(RY C.T t p q ok st).To v st'):OK B h0 F ρ st h [] (Bt h (En C.T h t x y ok)) v st':=by
 unfold RY at ht;split at ht
 case h_2=>simp at ht
 rename_i kt e hu;split at ht
 case h_2=>simp at ht
 rename_i ks vs i hks hvs hi;split at ht
 case h_2=>simp at ht
 rename_i k l z hk hl hz;cases hb:(sZ i.zv==vs.O9)with
 |false=>rw[hb]at ht;simp at ht
 |true=>
  rw[hb]at ht;simp only[cond_true]at ht;have hkd:=Vn hks hy hk;obtain⟨es,he,hm⟩:=XV hr hx hl;obtain⟨kd,g1,g2,g3,_⟩:=Qy hks hkd;obtain⟨r,r1,r2⟩:=O5 hks hkd hm 0;have hzd:DV F vs z i.zv:=by
   have h1:DC F vs z i.zv.cells:=CA (DQ (F:=F) (ρ:=ρ) (N:=st.nx) i.zero) hz;have hb:sZ i.zv=vs.O9:=by simpa using hb
   refine⟨fun e=>?_,fun e=>?_⟩
   ·rw[e]at hb;cases hv:i.zv<;>rw[hv]at hb<;>simp only[sZ]at hb<;>try (cases hb;done)
    rw[hv]at h1;exact⟨_,rfl,h1⟩
   ·rw[e]at hb;have:i.zv.cells=[i.zv]:=by cases hv:i.zv<;>rw[hv]at hb<;>first|rfl|(simp[sZ]at hb)
    rw[←this];exact h1
  unfold En;simp only[hu,g1,he,g2,cond_true,g3,r1];cases hf:vs.kT with
  |true=>
   rw[hf]at ht;simp only[cond_true]at ht;have hk2:=bT ht;obtain⟨e0,hk3⟩:=hk2;subst e0;rcases hk3 with⟨hn,hv⟩|⟨w,hw,hv⟩
   ·cases r with
    |none=>
     simp only[hi];cases ok with
     |true=>exact zg hr rfl (by rw[hv];simp only[cond_true,PR];exact⟨_,rfl,_,_,rfl,Ey hzd,_,_,rfl,by simp[PR],rfl⟩)
     |false=>exact zg hr rfl (by rw[hv];exact Ey hzd)
    |some ju=>
     obtain⟨⟨v',k1,_⟩,_⟩:=r2;rw[hn]at k1;cases k1
   ·cases r with
    |none=>rw[r2.1]at hw;cases hw
    |some ju=>
     obtain⟨⟨v',k1,k2⟩,_⟩:=r2;rw[hw]at k1;cases k1;cases ok with
     |true=>exact zg hr rfl (by rw[hv];simp only[cond_true,PR];exact⟨_,rfl,_,_,rfl,Ey k2,_,_,rfl,by simp[PR],rfl⟩)
     |false=>exact zg hr rfl (by rw[hv];exact Ey k2)
  |false=>
  rw[hf]at ht;simp only[cond_false,AQ]at ht;obtain⟨rfl,rfl⟩:=ht;cases r with
  |none=>
   obtain⟨k1,_⟩:=r2;simp only[hi,k1,Option.getD_none,Option.isSome_none];cases ok with
   |true=>exact zg hr rfl (by simp only[cond_true,PR];exact⟨_,rfl,_,_,rfl,Ey hzd,_,_,rfl,Dw _,rfl⟩)
   |false=>exact zg hr rfl (Ey hzd)
  |some ju=>
   obtain⟨j,u⟩:=ju;obtain⟨⟨v,k1,k2⟩,_⟩:=r2;simp only[k1,zL,Option.isSome_some];cases ok with
   |true=>exact zg hr rfl (by simp only[cond_true,PR];exact⟨_,rfl,_,_,rfl,Ey k2,_,_,rfl,Dw _,rfl⟩)
   |false=>exact zg hr rfl (Ey k2)
theorem cI(hr:SR B h0 F ρ st.nx st.ob h){t:TypeId}{p q r:PV}{x y z:V}(hx:PR F ρ st.nx p x)(hy:PR F ρ st.nx q y)(hz:PR F ρ st.nx r z){v:PV}(ht:(RG C.T t p q r st).To v st'):
  ∃id,p=.mp id∧OK B h0 F ρ st h [id] (dR (Hd C.T h t x y z)) v st':=by
 unfold RG at ht;split at ht
 case h_2=>simp at ht
 rename_i kt e id hu;split at ht
 case h_2=>simp at ht
 rename_i ks ks' vs l hks ho;split at ht
 case h_2=>simp at ht
 rename_i k l2 w hk hl hw;obtain⟨e1,he⟩:=Cv hl;simp only[Sh.list.injEq,Sh.pair.injEq,and_true]at e1;subst e1;obtain rfl:l=l2:=he;simp only[AQ]at ht;obtain⟨rfl,rfl⟩:=ht;have hkd:=Vn hks hy hk;have hwd:=gK hz hw;obtain⟨b,n,o,h1,h2,⟨es,clk,rfl,h4⟩,_⟩:=hr.at ho;have hx':=hx;simp only[PR]at hx';obtain rfl:=hx'.2 b n h1;obtain⟨kd,g1,g2,g3,_⟩:=Qy hks hkd;obtain⟨r',r1,r2⟩:=O5 hks hkd h4 0;refine⟨id,rfl,?_⟩;have fin:∀es' clk',MR F ks' vs (Qw ks' vs k w l) es'→OK B h0 F ρ st h [id] (dR (some (h.put b (.map es' clk')))) (.tup []) (st.setObj id (.map ks' vs (Qw ks' vs k w l))):=by
  intro es' clk' hm;refine⟨.tup [],_,F,ρ,.inr ⟨rfl,rfl⟩,by simp[PR],hr.set ho h1 h2 rfl rfl ⟨es',clk',rfl,hm⟩,zJ,rfl,rfl,ze _,fun c _=>?_⟩;by_cases ec:c=b
  ·exact .inr ⟨id,zj.2 rfl,n,ec▸h1⟩
  ·exact .inl (by rw[H.Bi,if_neg ec])
 unfold Hd;simp only[hu,g1,h2,g2,cond_true,g3,r1];cases r' with
 |none=>exact fin _ _ (r2.2.2 w z clk hwd)
 |some ju=>exact fin _ _ (r2.2.2.2 w z hwd)
theorem aT(hr:SR B h0 F ρ st.nx st.ob h){ts:Array TypeId}{ps:List PV}{xs:List V}(hx:Bb F ρ st.nx ps xs){v:PV}(ht:(Ry C.T ts ps st).To v st'):
  ∃id qs,ps=.mp id::qs∧OK B h0 F ρ st h [id] (EP (Kj C.T h ts xs)) v st':=by
 unfold Ry at ht;split at ht
 case h_2=>simp at ht
 rename_i t id q hts;split at ht
 case h_2=>simp at ht
 rename_i kt e hu;split at ht
 case h_2=>simp at ht
 rename_i ks ks' vs l hks ho;split at ht
 case h_2=>simp at ht
 rename_i k l2 hk hl;obtain⟨e1,he⟩:=Cv hl;simp only[Sh.list.injEq,Sh.pair.injEq,and_true]at e1;subst e1;obtain rfl:l=l2:=he;simp only[AQ]at ht;obtain⟨rfl,rfl⟩:=ht;simp only[Bb]at hx;obtain⟨x,xs',rfl,hx1,y,xs'',rfl,hy,rfl⟩:=hx;have hkd:=Vn hks hy hk;obtain⟨b,n,o,h1,h2,⟨es,clk,rfl,h4⟩,_⟩:=hr.at ho;obtain rfl:=hx1.2 b n h1;obtain⟨kd,g1,g2,g3,_⟩:=Qy hks hkd;obtain⟨r',r1,r2⟩:=O5 hks hkd h4 0;refine⟨id,_,rfl,?_⟩;have fin:∀es',MR F ks' vs (Rx ks' vs k l) es'→OK B h0 F ρ st h [id] (EP (some (.tup [],h.put b (.map es' clk)))) (.tup []) (st.setObj id (.map ks' vs (Rx ks' vs k l))):=by
  intro es' hm;refine⟨.tup [],_,F,ρ,.inl rfl,by simp[PR],hr.set ho h1 h2 rfl rfl ⟨es',clk,rfl,hm⟩,zJ,rfl,rfl,ze _,fun c _=>?_⟩;by_cases ec:c=b
  ·exact .inr ⟨id,zj.2 rfl,n,ec▸h1⟩
  ·exact .inl (by rw[H.Bi,if_neg ec])
 unfold Kj;simp only[hts,hu,g1,h2,g2,cond_true,g3,r1];cases r' with
 |none=>exact fin es (by rw[r2.2.1];exact h4)
 |some ju=>
  have:=r2.2.2.1;simp only[Nat.sub_zero]at this;exact fin _ this
end
section
variable {B:Nat}{h0:H0}{F:Fz}{ρ:DO}{N:Nat}{C:Ctx}{st st':AK}{fr:Fr}{h h':H}
theorem SR.same(hr:SR B h0 F ρ st.nx st.ob h){id b n:Nat}{o o':Obj}{x:O}(ho:st.obj id=some o)(hb:ρ id=some (b,n))(hg:h.get b=some x)(hf:o.frozen=false)(hf':o'.frozen=false)
  (hx:WL F ρ st.nx n o' x):SR B h0 F ρ st.nx (Dl st.ob id o') h:=by
 have hput:∀c,h.get c=(h.put b x).get c:=by
  intro c;rw[H.Bi];by_cases e:c=b
  ·rw[if_pos e,e,hg]
  ·rw[if_neg e]
 exact SR.congr (st:=⟨st.n,st.fr,Dl st.ob id o',st.nx⟩) (hr.set ho hb hg hf hf' hx) hput rfl
theorem fK(hr:SR B h0 F ρ st.nx st.ob h){ts:Array TypeId}{ps:List PV}{xs:List V}(hx:Bb F ρ st.nx ps xs){v:PV}(ht:(Uy C.T ts ps st).To v st'):OK B h0 F ρ st h (EV ps) (EP (Fb C.T h ts xs)) v st':=by
 unfold Uy at ht;split at ht
 case h_2=>simp at ht
 rename_i t p hts;simp only[Bb]at hx;obtain⟨x,_,rfl,hx,rfl⟩:=hx;split at ht
 case h_2=>simp at ht
 rename_i e hu;split at ht
 case h_3=>simp at ht
 case h_1=>
  simp only[AQ]at ht;obtain⟨rfl,rfl⟩:=ht;simp only[PR]at hx;subst hx;exact⟨.tup [],h,F,ρ,.inl (by simp[Fb,hts,hu,EP]),by simp[PR],hr,zJ,rfl,rfl,ze _,fun _ _=>.inl rfl⟩
 rename_i id sz off len cap;split at ht
 case h_2=>simp at ht
 rename_i i e' s l hi ho;cases hc:(zf sz s.sz&&zr 0 i.zero.length&&zf i.zero.length s.sz&&Det.JZ V.one i.zero)with
 |false=>rw[hc]at ht;simp at ht
 |true=>
  rw[hc]at ht;simp only[zc,EZ]at hc;obtain⟨⟨⟨c1,c2⟩,c3⟩,c4⟩:=hc;have c1:=zd c1;have c3:=zd c3;subst c1;simp only[cond_true]at ht;split at ht
  case h_2=>simp at ht
  rename_i z hz;simp only[BD,decide_eq_true_eq]at ht;obtain⟨k1,rfl,rfl⟩:=ht;obtain⟨b,n,y,h1,h2,⟨bs,fz,rfl,h3,h4,h5⟩,h6,_⟩:=hr.at ho;have hz0:DC F s z i.zero:=CA (DQ (F:=F) (ρ:=ρ) (N:=st.nx) i.zero) hz;have hrep:=DN.replicate hz0 len;have hsp:=DN.dV h3 hrep (a:=off) (by simpa using k1);rw[zD]at hsp;have hlen:(l.take off++(zn len z++l.drop (off+len))).length=l.length:=by simp;omega
  have skip:Fb C.T h ts [x]=some (.tup [],h)→len=0→OK B h0 F ρ st h (EV [.sl id s.sz off len cap]) (EP (Fb C.T h ts [x])) (.tup []) (st.setObj id (.arr false e' s (l.take off++(zn len z++l.drop (off+len))))):=by
   intro hd h0;subst h0;have el:l.take off++(zn 0 z++l.drop (off+0))=l:=by simp
   refine⟨.tup [],h,F,ρ,.inl (by rw[hd];rfl),by simp[PR],hr.same ho h1 h2 rfl rfl (o':=.arr false e' s _) ⟨bs,fz,rfl,?_,h4,?_⟩,zJ,rfl,rfl,ze _,fun _ _=>.inl rfl⟩
   ·rw[el];exact h3
   ·rw[el];exact h5
  simp only[PR]at hx;rcases hx.2 b n h1 with⟨_,g6,o,g5,rfl⟩|⟨e0,ek,g6,rfl|⟨off',rfl,_⟩⟩
  ·by_cases h0:len=0
   ·exact skip (by simp[Fb,hts,hu,h0]) h0
   ·have hw:wr h b (off*s.sz) (EF i.zero (len*i.zero.length))=some (h.put b (.cells (Ci (off*s.sz) ((zn len i.zero).flatten) bs) e' fz)):=by
     rw[GJ];refine LM h2 ?_ h4 ?_
     ·rw[hrep.1,zD, ←zp,h3.1];exact zh _ k1
     ·exact hrep.QS
    have b0:zf len 0=false:=by rw[Bk];simp[h0]
    refine⟨.tup [],h.put b (.cells (Ci (off*s.sz) ((zn len i.zero).flatten) bs) e' fz),F,ρ,.inl ?_,by simp[PR],hr.set ho h1 h2 rfl rfl (o':=.arr false e' s _) ⟨_,fz,rfl,hsp,h4,hlen.trans h5⟩,zJ,rfl,rfl,ze _,fun c _=>?_⟩
    ·simp only[Fb,hts,hu,b0,cond_false,hi,c2,cond_true,hw,zq,EP]
    ·rw[H.Bi];by_cases e:c=b
     ·exact .inr ⟨id,by simp[EV],n,e▸h1⟩
     ·rw[if_neg e];exact .inl rfl
  ·exact skip (by simp[Fb,hts,hu]) e0
  ·exact skip (by simp[Fb,hts,hu]) e0
theorem fX(hr:SR B h0 F ρ st.nx st.ob h){t:TypeId}{p:PV}{x:V}(hx:PR F ρ st.nx p x){v:PV}(ht:(Uc C.T t p st).To v st'):OK B h0 F ρ st h [] (EP (GL C.T h t x)) v st':=by
 unfold Uc at ht;split at ht
 case h_2=>simp at ht
 rename_i s hu;simp only[AQ]at ht;obtain⟨rfl,rfl⟩:=ht;obtain rfl:=EL hx;have hd:GL C.T h t (.str s)=some (.ptr h.nx 0,h.push (.siter s 0)):=by simp[GL,Rr,hu]
 rw[hd];exact OK.new hr (o:=.siter s 0) (n:=0) rfl rfl JO
theorem oV(hr:SR B h0 F ρ st.nx st.ob h){p:PV}{x:V}(hx:PR F ρ st.nx p x){i:Bool}{v:PV}(ht:(ZH p i st).To v st'):i=true∧∃id off,p=.ptr id off∧OK B h0 F ρ st h [id] (EP (Mi h x i)) v st':=by
 unfold ZH at ht;split at ht
 case h_2=>simp at ht
 rename_i id;split at ht
 case h_2=>simp at ht
 rename_i s pos ho;obtain⟨b,n,y,h1,h2,h3,h6,_⟩:=hr.at ho;simp only[WL]at h3;subst h3;simp only[PR]at hx;obtain rfl:=hx.2 b n h1;refine⟨rfl,id,0,rfl,?_⟩;by_cases hp:pos<s.length
 ·rw[decide_eq_true hp]at ht;cases ht with
  |tt ht=>
   simp only[AQ]at ht;obtain⟨rfl,rfl⟩:=ht;have hd:Mi h (.ptr b 0) true=some (.tup [.bool true,i64 pos,.int .i32 (rune s pos)],h.put b (.siter s (pos+mE s pos))):=by
    simp only[Mi,h2,Gq,decide_eq_true hp,cond_true];rfl
   refine⟨_,_,F,ρ,.inl (by rw[hd];rfl),?_,hr.set ho h1 h2 rfl rfl (o':=.siter s _) rfl,zJ,rfl,rfl,ze _,fun c _=>?_⟩
   ·simp[PR,DC,i64]
   ·rw[H.Bi];by_cases e:c=b
    ·exact .inr ⟨id,zj.2 rfl,n,e▸h1⟩
    ·rw[if_neg e];exact .inl rfl
 ·rw[decide_eq_false hp]at ht;cases ht with
  |ff ht=>
   simp only[AQ]at ht;obtain⟨rfl,rfl⟩:=ht;refine⟨.tup [.bool false],h,F,ρ,.inl ?_,by simp[PR],hr,zJ,rfl,rfl,ze _,fun _ _=>.inl rfl⟩;simp only[Mi,h2,Gq,decide_eq_false hp,cond_false,EP]
end
noncomputable section
section
variable {B:Nat}{h0:H0}{F:Fz}{ρ:DO}{N:Nat}{C:Ctx}{st st':AK}{h:H}
def pK:List PV→List Nat
 | .eptr id _ _ _::_=>[id]
 |_=>[]
theorem gG(hr:SR B h0 F ρ st.nx st.ob h){ps:List PV}{xs:List V}(hx:Bb F ρ st.nx ps xs){v:PV}(ht:(Vl ps st).To v st'):OK B h0 F ρ st h [] (Bt h (Ns xs)) v st':=by
 unfold Vl at ht;split at ht
 case h_2=>simp at ht
 rename_i id sz off len;cases hs:Hv (st.obj id)with
 |false=>rw[hs]at ht;simp at ht
 |true=>
  rw[hs]at ht;simp only[cond_true,BD,decide_eq_true_eq]at ht;obtain⟨hl,rfl,rfl⟩:=ht;obtain⟨o,ho⟩:=Vp hs;obtain⟨b,n,z,g1,_⟩:=hr.at ho;simp only[Bb]at hx;obtain⟨x,_,rfl,hx,rfl⟩:=hx;simp only[PR]at hx;obtain⟨_,_,o',_,rfl⟩:len≤len∧off+len≤n∧∃o,(o=0∨o=sz)∧x=.sl b (off*sz) len len o:=by
   rcases hx.2 b n g1 with g|⟨_,e,_⟩
   ·exact g
   ·cases e
  refine zg hr (v':=.ptr b (off*sz)) ?_ ?_
  ·have:zr 0 len=true:=by rw[Nat.blt_eq];exact hl
   simp only[Ns,this,cond_true];rfl
  ·simp only[PR];refine⟨hx.1,fun b' n' hb=>?_⟩;rw[g1]at hb;cases hb;rfl
theorem Zq{k:IntKind}:∀ {l:List Int} {cs:List V},DN F (.int k) l cs→cs=l.map (ya k):=by
 intro l cs hd;have hl:cs.length=l.length:=by rw[hd.1];simp[Sh.sz]
 apply List.ext_getElem
 ·rw[zY];exact hl
 ·intro i h1 h2;have hi:i<l.length:=by omega
  have:=hd.2 i hi;have e:(cs.drop (i*Sh.sz (.int k))).take (Sh.sz (.int k))=[cs[i]]:=by
   rw[show Sh.sz (.int k)=1 from rfl,zP,zw h1];rfl
  rw[e]at this;simpa [DC]using this
theorem Ou:∀ {l:List Int},PF l=true→FM (l.map (ya .u8))=some (Vi l)
 |[],_=>rfl
 |x::l,h=>by
  unfold PF at h;rw[List.all_cons,zc,zc,decide_eq_true_eq,decide_eq_true_eq]at h;have ih:=Ou (l:=l) h.2;obtain⟨n,rfl⟩:=zU h.1.1;have hb:zr n 256=true:=by rw[Nat.blt_eq];omega
  have hx:Qj (.int .u8 (n:Int))=some (UInt8.ofNat n):=by
   show(bif zr n 256 then some (UInt8.ofNat n)else none)=_;rw[hb];rfl
  rw[List.map_cons];unfold FM;rw[hx,ih];rfl
theorem T7{l:List Int}(h:PF l=true)(n:Nat):PF (l.take n)=true:=by
 unfold PF at*;rw[zB]at*;exact fun x hx=>h x (List.mem_of_mem_take hx)
theorem oR(hr:SR B h0 F ρ st.nx st.ob h){ts:Array TypeId}{ps:List PV}{xs:List V}(hx:Bb F ρ st.nx ps xs){v:PV}(ht:(ZW C.T ts.toList ps st).To v st'):OK B h0 F ρ st h (pK ps) (EP (Pr C.T h ts.toList xs)) v st':=by
 unfold ZW at ht;split at ht
 case h_2=>simp at ht
 rename_i pt it id sz i n hts;split at ht
 case h_2=>simp at ht
 rename_i e e' s l hu ho;split at ht
 case h_2=>simp at ht
 rename_i ti bs hi hbs;cases hc:(zf ti.size 1&&zf e e')with
 |false=>rw[hc]at ht;simp at ht
 |true=>
  rw[hc]at ht;simp only[cond_true,BD,zc,decide_eq_true_eq]at ht;obtain⟨⟨⟨⟨⟨k1,k2⟩,k3⟩,k4⟩,k5⟩,rfl,rfl⟩:=ht;subst k1;obtain⟨es,he⟩:=Cv hbs;have e2:s=.int .u8:=by cases es;rfl
  subst e2;have:bs=l:=by have:=he;cases this;rfl
  subst this;obtain⟨m,rfl⟩:=zU (Int.le_of_lt k2);simp only[Int.toNat_natCast]at k3 k4;obtain⟨b,n',z,h1,h2,⟨cs,fz,rfl,h3,h4,h5⟩,h6,_⟩:=hr.at ho;have hFb:=h6 rfl;simp only[Bb]at hx;obtain⟨x,_,rfl,hx,y,_,rfl,hy,rfl⟩:=hx;obtain rfl:=Cw hy;simp only[PR]at hx;obtain rfl:=hx.2 b n' h1;have hB:=(hr.own id b n' h1).2;have hPb:b∉h0.pin:=fun hp=>(hr.pn b hp).2.2 id n' h1
  have hfree:∀j oj m,AP (FE st.ob id) j=some oj→BF ρ id none j≠some (b,m):=by
   intro j oj m hj hjr;rw[DI]at hj;split at hj
   ·cases hj
   ·rename_i hne;simp only[BF,hne,if_false]at hjr;exact hne (hr.inj j id oj _ b m n' hj ho hjr h1)
  have hdel:=hr.del id;have hcs:=Zq h3;have htk:cs.take m=(bs.take m).map (ya .u8):=by rw[hcs,List.map_take]
  have hb:=Ou (T7 k5 m);have hd:Pr C.T h ts.toList [.ptr b (0*sz+0),.int .i64 (m:Int)]=some (.str (Vi (bs.take m)),h.kill b):=by
   rw[zu];unfold Pr;rw[hts];show(match C.T.und pt,h.get b with
    |some (.pointer e),some (.cells cs e' fz)=>(match C.T.inf e,FM (cs.take m)with
     |some i,some l=>bif zf i.size 1&&zf e e'&&zr 0 m&&zl m cs.length&&zl m 9223372036854775807&&zl fz.2 fz.1 then some (V.str l,h.kill b)else none
     |_,_=>none)
    |_,_=>none)=_
   rw[hu,h2];show(match C.T.inf e,FM (cs.take m)with
    |some i,some l=>bif zf i.size 1&&zf e e'&&zr 0 m&&zl m cs.length&&zl m 9223372036854775807&&zl fz.2 fz.1 then some (V.str l,h.kill b)else none
    |_,_=>none)=_
   rw[hi,htk,hb];have k2:(0:Int)<(m:Int):=k2;have c1:zr 0 m=true:=by rw[Nat.blt_eq];omega
   have c2:zl m cs.length=true:=zi (by rw[hcs,zY];exact k3);have c3:zl m 9223372036854775807=true:=zi k4;have c4:zl fz.2 fz.1=true:=zi h4;simp only[hc,c1,c2,c3,c4,zT,cond_true]
  rw[hd];refine⟨_,_,F,BF ρ id none,.inl rfl,JG _,hdel.kill hfree hFb hB hPb,Le.MM id,rfl,rfl,ze _,fun c _=>?_⟩;rw[H.BY];by_cases ec:c=b
  ·exact .inr ⟨id,zj.2 rfl,n',ec▸h1⟩
  ·rw[if_neg ec];exact .inl rfl
end
end
section
variable {B:Nat}{h0:H0}{C:Ctx}{F F1 F':Fz}{ρ:DO}{N:Nat}{st st':AK}{fr:Fr}{h h':H}
def PC(F:Fz)(p:PV)(v:V):Prop:=∀ρ N,PR F ρ N p v
def Lj(F:Fz)(ps:List PV)(vs:List V):Prop:=∀ρ N,Bb F ρ N ps vs
theorem Le.Xt(hF:∀b cs,F b=some cs→F1 b=some cs):Le F ρ N F1 ρ N:=⟨hF,fun _ _=>.inl rfl,ze _⟩
theorem PC.mono(hF:∀b cs,F b=some cs→F1 b=some cs){p:PV}{v:V}(hp:PC F p v):PC F1 p v:=fun ρ N=>(hp ρ N).mono (Le.Xt hF)
theorem Lj.cons{p:PV}{ps:List PV}{v:V}{vs:List V}(h1:PC F p v)(h2:Lj F ps vs):Lj F (p::ps) (v::vs):=fun ρ N=>(A0 ..).2 ⟨h1 ρ N,h2 ρ N⟩
theorem Lj.dc{s:Sh}{ps:List PV}{vs:List V}{x:s.T}(hp:Lj F ps vs)(hd:CQ s ps=some x):DC F s x vs:=CA (hp (fun _=>none) 0) hd
theorem PC.B4:∀ {s:Sh} {x:s.T} {cs:List V},DC F s x cs→(s.O9=true→PC F (B4 s x) (.agg cs))∧(s.O9=false→∀v,cs=[v]→PC F (B4 s x) v)
 | .pair a b,x,cs,h=>⟨fun _ ρ N=>by unfold Pe.B4 PR;exact⟨cs,rfl,CI h⟩,fun e=>by cases e⟩
 | .unit,x,cs,h=>⟨fun _ ρ N=>by simp only[DC]at h;subst h;unfold Pe.B4 PR;exact⟨[],rfl,by simp⟩,fun e=>by cases e⟩
 | .int _,x,cs,h=>⟨fun e=>(by cases e),fun _ v hv ρ N=>by subst hv;unfold Pe.B4 PR;exact h⟩
 | .bool,x,cs,h=>⟨fun e=>(by cases e),fun _ v hv ρ N=>by subst hv;unfold Pe.B4 PR;exact h⟩
 | .str,x,cs,h=>⟨fun e=>(by cases e),fun _ v hv ρ N=>by subst hv;unfold Pe.B4 PR;exact h⟩
 | .list _,x,cs,h=>⟨fun e=>(by cases e),fun _ v hv ρ N=>by subst hv;unfold Pe.B4 PR;exact h⟩
 | .nlist _,x,cs,h=>⟨fun e=>(by cases e),fun _ v hv ρ N=>by subst hv;unfold Pe.B4 PR;exact h⟩
 | .fnv,x,cs,h=>⟨fun e=>(by cases e),fun _ v hv ρ N=>by
   subst hv;simp only[DC,zM,and_true]at h;subst h;unfold Pe.B4;cases (x:Option Fn)<;>simp[PR]⟩
theorem SR.uN{ob ob':Ob}(hr:SR B h0 F ρ N ob h)(he:∀j,AP ob' j=AP ob j):SR B h0 F ρ N ob' h:=
 ⟨fun id o ho=>hr.obj id o (he id▸ho),fun id id' o o' b n n' h1 h2=>hr.inj id id' o o' b n n' (he id▸h1) (he id'▸h2),hr.frz,hr.own,fun id hid=>hr.dead id (he id▸hid),hr.old,hr.lt,hr.le,hr.fo,hr.gl,hr.pn⟩
theorem nR{s:Sh}{l:List s.T}{cs:List V}{b:Nat}(hF:F b=some cs)(hd:DN F s l cs){off len:Nat}(hle:off+len≤l.length){cap o:Nat}(hcap:len≤cap)(ho:o=0∨o=s.sz):
  DC F (.list s) ((l.drop off).take len) [.sl b (off*s.sz) len cap o]:=by
 have hlen:((l.drop off).take len).length=len:=by simp;omega
 simp only[DC];refine⟨_,rfl,.inr ⟨b,off*s.sz,cap,o,cs,by rw[hlen],by rw[hlen];exact hcap,hF,?_,ho,fun i hi=>?_⟩⟩
 ·rw[hlen,hd.1, ←zp];exact zh _ hle
 ·rw[hlen]at hi;have h1:=hd.2 (off+i) (by omega);have e1:((l.drop off).take len)[i]=l[off+i]'(by omega):=by simp
  rw[e1, ←zp];exact h1
theorem JX(st:AK)(p:PV):(Bw st p).nx=st.nx∧(Bw st p).fr=st.fr∧(Bw st p).n=st.n:=by
 unfold Bw;split
 ·split<;>exact⟨rfl,rfl,rfl⟩
 ·exact⟨rfl,rfl,rfl⟩
theorem C4:∀(ps:List PV) (st:AK),(Bl ps st).nx=st.nx∧(Bl ps st).fr=st.fr∧(Bl ps st).n=st.n
 |[],_=>⟨rfl,rfl,rfl⟩
 |p::ps,st=>by
  obtain⟨h1,h2,h3⟩:=C4 ps (Bw st p);obtain⟨g1,g2,g3⟩:=JX st p;exact⟨h1.trans g1,h2.trans g2,h3.trans g3⟩
theorem Ia:∀(ps qs:List PV) (st:AK),Bl (ps++qs) st=Bl qs (Bl ps st)
 |[],_,_=>rfl
 |p::ps,qs,st=>Ia ps qs (Bw st p)
def DM:Option Obj→Option Obj→Prop
 |some (.arr _ e s l),o=>∃fz,o=some (.arr fz e s l)
 |a,b=>b=a
theorem DM.refl(o:Option Obj):DM o o:=by
 cases o with
 |none=>rfl
 |some o=>cases o<;>first|rfl|exact⟨_,rfl⟩
theorem Mb(st:AK)(p:PV)(j:Nat):DM (st.obj j) ((Bw st p).obj j):=by
 unfold Bw;split
 case h_2=>exact DM.refl _
 split
 case h_2=>exact DM.refl _
 rename_i id _ _ _ _ _ fz e s l ho;show DM (AP st.ob j) (AP (Dl st.ob id (.arr true e s l)) j);rw[GB _ _ _ _ (by show(st.obj id).isSome=true;rw[ho];rfl)];split
 ·rename_i e1;subst e1;show DM (st.obj j) _;rw[ho];exact⟨_,rfl⟩
 ·exact DM.refl _
theorem bH{st st':AK}(h:∀id,DM (st.obj id) (st'.obj id))(p:PV):Ct st' p=Ct st p:=by
 unfold Ct;cases p<;>try rfl
 rename_i id sz off len cap;have:=h id;cases ho:st.obj id with
 |none=>rw[ho]at this;simp only[ho,show st'.obj id=none from this]
 |some o=>
  rw[ho]at this;cases o with
  |arr fz e s l=>
   obtain⟨fz',h1⟩:=this;simp only[ho,h1]
  |box _=>simp only[ho,show st'.obj id=_ from this]
  |tbox _ _=>simp only[ho,show st'.obj id=_ from this]
  |map _ _ _=>simp only[ho,show st'.obj id=_ from this]
  |siter _ _=>simp only[ho,show st'.obj id=_ from this]
  |lp _ _ _ _ _ _ _ _=>simp only[ho,show st'.obj id=_ from this]
theorem Li{st st':AK}(h:∀id,DM (st.obj id) (st'.obj id)):∀ps:List PV,Ea st' ps=Ea st ps
 |[]=>rfl
 |p::ps=>by unfold Ea;rw[bH h p,Li h ps]
theorem DM.trans{a b c:Option Obj}(h1:DM a b)(h2:DM b c):DM a c:=by
 cases a with
 |none=>have:b=none:=h1;subst this;exact h2
 |some o=>
  cases o with
  |arr fz e s l=>obtain⟨fz',rfl⟩:=h1;exact h2
  |box _=>have:b=_:=h1;subst this;exact h2
  |tbox _ _=>have:b=_:=h1;subst this;exact h2
  |map _ _ _=>have:b=_:=h1;subst this;exact h2
  |siter _ _=>have:b=_:=h1;subst this;exact h2
  |lp _ _ _ _ _ _ _ _=>have:b=_:=h1;subst this;exact h2
theorem LV:∀(ps:List PV) (st:AK) (id:Nat),DM (st.obj id) ((Bl ps st).obj id)
 |[],_,_=>DM.refl _
 |p::ps,st,id=>(Mb st p id).trans (LV ps (Bw st p) id)
theorem Sx{st st':AK}(h:∀id,DM (st.obj id) (st'.obj id))(s:Sh)(p:PV):HA st' s p=HA st s p:=by
 unfold HA;rw[Li h]
theorem Lp{st st':AK}(h:∀id,DM (st.obj id) (st'.obj id)):∀(l:List Sh) (ps:List PV),DU st' l ps=DU st l ps
 |[],[]=>rfl
 |[],_::_=>rfl
 |[a],[p]=>Sx h a p
 |[a],[]=>rfl
 |[a],_::_::_=>rfl
 |a::b::l,[]=>rfl
 |a::b::l,p::ps=>by unfold DU;rw[Sx h a p,Lp h (b::l) ps]
theorem Md(hr:SR B h0 F ρ st.nx st.ob h){p:PV}{v:V}(hp:PR F ρ st.nx p v):
  ∃F1,SR B h0 F1 ρ (Bw st p).nx (Bw st p).ob h∧(∀b cs,F b=some cs→F1 b=some cs)∧∀x,Ct st p=some (true,x)→PC F1 x v:=by
 have same:∀ {q:PV},(∀x,Ct st q=some (true,x)→PC F x v)→Bw st q=st→∃F1,SR B h0 F1 ρ (Bw st q).nx (Bw st q).ob h∧(∀b cs,F b=some cs→F1 b=some cs)∧∀x,Ct st q=some (true,x)→PC F1 x v:=
  fun h1 h2=>⟨F,by rw[h2];exact hr,fun _ _ h=>h,h1⟩
 cases p with
 |sl id sz off len cap=>
  cases ho:st.obj id with
  |none=>exact same (fun x hx=>by simp[Ct,ho]at hx) (by simp[Bw,ho])
  |some o=>
   cases o with
   |box _=>exact same (fun x hx=>by simp[Ct,ho]at hx) (by simp[Bw,ho])
   |tbox _ _=>exact same (fun x hx=>by simp[Ct,ho]at hx) (by simp[Bw,ho])
   |map _ _ _=>exact same (fun x hx=>by simp[Ct,ho]at hx) (by simp[Bw,ho])
   |siter _ _=>exact same (fun x hx=>by simp[Ct,ho]at hx) (by simp[Bw,ho])
   |lp _ _ _ _ _ _ _ _=>exact same (fun x hx=>by simp[Ct,ho]at hx) (by simp[Bw,ho])
   |arr fz e s l=>
    obtain⟨b,n,x,h1,h2,⟨cs,fz',rfl,h4,h5,h6⟩,h7,h8⟩:=hr.at ho;have hst:Bw st (.sl id sz off len cap)=st.setObj id (.arr true e s l):=by simp[Bw,ho]
    have hset:∀j,AP (Dl st.ob id (.arr true e s l)) j=if j=id then some (.arr true e s l)else AP st.ob j:=fun j=>GB _ _ _ _ (by show(st.obj id).isSome=true;rw[ho];rfl)
    have fin:∀ {G:Fz},G b=some cs→(∀b cs,F b=some cs→G b=some cs)→∀x,Ct st (.sl id sz off len cap)=some (true,x)→PC G x v:=by
     intro G hG hFG x hx ρ' N';simp only[Ct,ho]at hx;cases hsz:zf sz s.sz with
     |false=>rw[hsz]at hx;simp at hx
     |true=>
      rw[hsz]at hx;simp only[cond_true,zk,zG,decide_eq_true_eq]at hx;obtain⟨hle,rfl⟩:=hx;have hsz:=zd hsz;subst hsz;unfold PR;simp only[PR]at hp;rcases hp.2 b n h1 with⟨k1,k2,o,k3,rfl⟩|⟨rfl,rfl,k3,rfl|⟨off',rfl,k4⟩⟩
      ·exact nR hG (h4.mono hFG) hle k1 k3
      ·simp[DC]
      ·simp only[List.take_zero,DC];refine⟨_,rfl,.inr ⟨b,off',0,0,cs,rfl,ze _,hG,?_,.inl rfl,fun i hi=>by simp at hi⟩⟩;simp only[zH,zu,Nat.add_zero];rw[h4.1];exact zV k4 (zh _ (by rw[h6];exact k3))
    cases hfz:fz with
    |true=>
     subst hfz;obtain⟨cs',t',fz2,k1,k2⟩:=h8 rfl;cases k1;refine⟨F,?_,fun _ _ h=>h,fin k2 (fun _ _ h=>h)⟩;rw[hst];refine SR.uN hr fun j=>?_
     show AP (Dl st.ob id _) j=_;rw[hset];split
     ·rename_i ej;subst ej;exact ho.symm
     ·rfl
    |false=>
     subst hfz;have hFb:F b=none:=h7 rfl;have hmono:∀c cs',F c=some cs'→(fun c=>if c=b then some cs else F c) c=some cs':=by
      intro c cs' hc;have:c≠b:=fun e=>by rw[e,hFb]at hc;cases hc
      simp[this,hc]
     refine⟨fun c=>if c=b then some cs else F c,?_,hmono,fin (by simp) hmono⟩;rw[hst];have hle:Le F ρ st.nx (fun c=>if c=b then some cs else F c) ρ st.nx:=Le.Xt hmono;have get':∀k ok,AP (Dl st.ob id (.arr true e s l)) k=some ok→∃o2,AP st.ob k=some o2:=by
      intro k ok hk;rw[hset]at hk;by_cases ek:k=id
      ·exact⟨_,ek▸ho⟩
      ·rw[if_neg ek]at hk;exact⟨ok,hk⟩
     refine⟨fun j oj hj=>?_,fun i j oi oj c m m' hi hj g1 g2=>?_,fun c cs' hc=>?_,hr.own,fun j hj=>?_,hr.old,hr.lt,hr.le,fun c cs' hc=>?_,hr.gl,hr.pn⟩
     ·have hj:AP (Dl st.ob id (.arr true e s l)) j=some oj:=hj;rw[hset]at hj;by_cases ej:j=id
      ·subst ej;simp only[if_true,zk]at hj;subst hj;refine⟨b,n,_,h1,h2,⟨cs,fz',rfl,h4.mono hmono,h5,h6⟩,fun e=>(by cases e),fun _=>⟨cs,_,_,rfl,by simp⟩⟩
      ·rw[if_neg ej]at hj;obtain⟨c,m,y,g1,g2,g3,g4,g5⟩:=hr.obj j oj hj;have hne:c≠b:=fun ec=>ej (hr.inj j id oj _ c m n hj ho g1 (ec▸h1))
       exact⟨c,m,y,g1,g2,g3.mono hle,fun e=>by simp[hne,g4 e],fun e=>by obtain⟨a1,a2,a3,a4,a5⟩:=g5 e;exact⟨a1,a2,a3,a4,by simp[hne,a5]⟩⟩
     ·obtain⟨_,k1⟩:=get' i oi hi;obtain⟨_,k2⟩:=get' j oj hj;exact hr.inj i j _ _ c m m' k1 k2 g1 g2
     ·split at hc
      ·rename_i ec;cases hc;subst ec;exact⟨_,_,h2⟩
      ·exact hr.frz c cs' hc
     ·have hj:AP (Dl st.ob id (.arr true e s l)) j=none:=hj;rw[hset]at hj;split at hj
      ·cases hj
      ·exact hr.dead j hj
     ·split at hc
      ·rename_i ec;subst ec;exact .inr (hr.own id c n h1).2
      ·exact hr.fo c cs' hc
 |dat s x=>exact same (fun y hy ρ' N'=>by simp only[Ct,zk,zG,true_and]at hy;subst hy;unfold PR at hp ⊢;exact hp) rfl
 |bl b=>exact same (fun y hy ρ' N'=>by simp only[Ct,zk,zG,true_and]at hy;subst hy;unfold PR at hp ⊢;exact hp) rfl
 |nil=>exact same (fun y hy ρ' N'=>by simp only[Ct,zk,zG,true_and]at hy;subst hy;unfold PR at hp ⊢;exact hp) rfl
 |any|ub|yl _|nilp|nilm|nilf|nili|agg _|tup _|ptr _ _|eptr _ _ _ _|Fc _ _ _|mp _|fn _ _ _=>exact same (fun x hx=>by simp[Ct]at hx) rfl
theorem H8:∀ {ps:List PV} {vs:List V} {st:AK} {F:Fz},SR B h0 F ρ st.nx st.ob h→Bb F ρ st.nx ps vs→
  ∃F1,SR B h0 F1 ρ (Bl ps st).nx (Bl ps st).ob h∧(∀b cs,F b=some cs→F1 b=some cs)∧∀xs,Ea st ps=some (true,xs)→Lj F1 xs vs
 |[],vs,st,F,hr,hp=>⟨F,hr,fun _ _ h=>h,fun xs hx=>by
  cases hx;have hv:vs=[]:=by simpa using hp
  subst hv;intro ρ' N';simp⟩
 |p::ps,vs,st,F,hr,hp=>by
  simp only[Bb]at hp;obtain⟨v,vs,rfl,h1,h2⟩:=hp;obtain⟨F1,g1,g2,g3⟩:=Md hr h1;have h2':Bb F1 ρ (Bw st p).nx ps vs:=by rw[(JX st p).1];exact h2.mono (Le.Xt g2)
  obtain⟨F2,k1,k2,k3⟩:=H8 g1 h2';refine⟨F2,k1,fun b cs hb=>k2 b cs (g2 b cs hb),fun xs hx=>?_⟩;unfold Ea at hx;split at hx
  case h_2=>cases hx
  rename_i c x d xs' e1 e2;simp only[zk,zG,zc]at hx;obtain⟨⟨rfl,rfl⟩,rfl⟩:=hx;exact Lj.cons ((g3 x e1).mono k2) (k3 xs' (by rw[Li (Mb st p)];exact e2))
theorem aR(hr:SR B h0 F ρ st.nx st.ob h){t:TypeId}{n:Nat}{l:List (Nat×PV)}{l':List (Nat×V)}(hl:pR F ρ st.nx l l'){v:PV}(ht:(QW C.T t n l st).To v st'):OK B h0 F ρ st h [] (EP (Et C.T h t n l')) v st':=by
 unfold QW at ht;split at ht
 case h_2=>simp at ht
 rename_i e hu;split at ht
 case h_2=>simp at ht
 rename_i i s hi hs;cases hc:(zl (Nat.mul n i.size) 16777216&&zr 0 i.zero.length&&zf i.zero.length i.size&&zf i.size s.sz)with
 |false=>rw[hc]at ht;simp at ht
 |true=>
  rw[hc]at ht;simp only[zc]at hc;obtain⟨⟨⟨c1,c2⟩,c3⟩,c4⟩:=hc;simp only[cond_true]at ht;split at ht
  case h_2=>simp at ht
  rename_i cs hcs;split at ht
  case h_2=>
   split at ht
   case h_2=>simp at ht
   rename_i c cs' hb;split at ht
   case h_2=>simp at ht
   rename_i el hel;simp only[BD]at ht;obtain⟨rfl,rfl,rfl⟩:=ht;have e3:=zd c3;have e4:=zd c4;have hz:Bb F ρ st.nx (Jr (i.zero.map U7) n) (EF i.zero (n*i.size)):=by
    rw[←e3,GJ];exact Jw _ _
   obtain⟨ys,g1,g2⟩:=IE hr hl hz hcs;have hlen:ys.length=n*s.sz:=by
    rw[←e4];rw[Ld g1];simp[EF]
   obtain⟨F1,j1,j2,j3⟩:=H8 hr g2;obtain⟨k1,k2⟩:=IX (j3 cs' hb ρ st.nx) hel hlen;have hd:Et C.T h t n l'=some (.sl h.nx 0 n n 0,h.push (.cells ys e (0,0))):=by
    have c1':zl (n*i.size) 16777216=true:=c1;simp only[Et,hu,hi,c1',c2,c3,zT,cond_true,g1,Il]
   rw[hd];obtain⟨f1,f2,f3⟩:=C4 cs st;have res:=OK.new (F:=F1) (ρ:=ρ) (st:=Bl cs st) j1 (o:=.arr false e s el) (x:=.cells ys e (0,0)) (n:=n) (v:=.sl (Bl cs st).nx s.sz 0 n none) (v':=.sl h.nx 0 n n 0) rfl ⟨_,_,rfl,k2.mono (fun _ _ h=>h),ze _,k1⟩ (OX (.inl rfl));obtain⟨v',h',F',ρ',q1,q2,q3,q4,q5,q6,q7,q8⟩:=res;rw[f1]at q2;exact⟨v',h',F',ρ',q1,q2,q3,(by rw[f1]at q4;exact(Le.Xt j2).trans q4),q5.trans f2,q6.trans f3,q7,q8⟩
  rename_i el hel;simp only[AQ]at ht;obtain⟨rfl,rfl⟩:=ht;have e3:=zd c3;have e4:=zd c4;have hz:Bb F ρ st.nx (Jr (i.zero.map U7) n) (EF i.zero (n*i.size)):=by
   rw[←e3,GJ];exact Jw _ _
  obtain⟨ys,g1,g2⟩:=IE hr hl hz hcs;have hlen:ys.length=n*s.sz:=by
   rw[←e4];rw[Ld g1];simp[EF]
  obtain⟨k1,k2⟩:=IX g2 hel hlen;have hd:Et C.T h t n l'=some (.sl h.nx 0 n n 0,h.push (.cells ys e (0,0))):=by
   have c1':zl (n*i.size) 16777216=true:=c1;simp only[Et,hu,hi,c1',c2,c3,zT,cond_true,g1,Il]
  rw[hd];exact OK.new hr (o:=.arr false e s el) (n:=n) rfl ⟨_,_,rfl,k2.mono (fun _ _ h=>h),ze _,k1⟩ (OX (.inl rfl))
end
section
variable {B:Nat}{h0:H0}{F:Fz}{ρ:DO}{N:Nat}{C:Ctx}{st st':AK}{fr:Fr}{h h':H}
theorem DJ{x:Operand}{k:PV→PO}{v:PV}:(v1 st x k).To v st'↔∃p,Pk st x=some p∧(k p).To v st':=by
 unfold v1;cases Pk st x with
 |none=>simp
 |some p=>simp
theorem Z1(hf:FP F ρ N st fr){x:Option Operand}{k:Option PV→PO}{v:PV}(ht:(o1 st x k).To v st'):∃p y,TY C fr x=some y∧R1 F ρ N p y∧(k p).To v st':=by
 unfold o1 at ht;cases x with
 |none=>exact⟨none,none,rfl,rfl,ht⟩
 |some x=>
  obtain⟨p,h1,h2⟩:=DJ.1 ht;obtain⟨y,g1,g2⟩:=B0 (C:=C) hf h1;exact⟨some p,some y,by simp[TY,g1],⟨y,rfl,g2⟩,h2⟩
theorem Yd(hr:SR B h0 F ρ st.nx st.ob h){b:Builtin}{ts:Array TypeId}{ps:List PV}{xs:List V}(hx:Bb F ρ st.nx ps xs){v:PV}(ht:(HZ C.T b ts ps st).To v st'):
  OK B h0 F ρ st h (match b with| .append| .clear=>EV ps| .unsafeString=>pK ps|_=>[]) (DR C h b ts xs) v st':=by
 unfold HZ at ht;split at ht
 case h_8=>simp at ht
 case h_7=>exact oR hr hx ht
 case h_6=>exact gG hr hx ht
 case h_5=>exact fK hr hx ht
 case h_1=>exact uM hr hx ht
 case h_2=>exact Y9 hr hx ht
 case h_3=>exact sE (g:=aV) hr (fun k x y=>by simp[aV,imax]) hx ht
 case h_4=>exact sE (g:=eW) hr (fun k x y=>by simp[eW,D9]) hx ht
theorem jF(hr:Rel B h0 F ρ st fr h){o:Oper}{v:PV}(ht:(pop o.op C.T st).To v st'):
  ∃tch,OK B h0 F ρ st h tch (FG C fr h o) v st'∧∀sp ids,Gz sp st o.op=some ids→∀i∈tch,i∈ids:=by
 have nil:∀ {d:Option OR} {op:Op},OK B h0 F ρ st h [] d v st'→∃tch,OK B h0 F ρ st h tch d v st'∧∀sp ids,Gz sp st op=some ids→∀i∈tch,i∈ids:=fun h=>⟨[],h,fun _ _ _ i hi=>by cases hi⟩
 have ev1:∀ {x p},Pk st x=some p→∃y,ev C fr x=some y∧PR F ρ st.nx p y:=fun hp=>B0 hr.fp hp
 unfold pop at ht;rw[CD];unfold Ga;cases hop:o.op<;>rw[hop]at ht<;>simp only[I7,Lu]at ht<;>simp only
 case move x|assign x=>
  simp only[Va,Kk]at ht;obtain⟨h1,rfl⟩:=ht;obtain⟨y,g1,g2⟩:=ev1 h1;refine nil ?_;rw[g1];exact zg hr.sr rfl g2
 case pick c a b=>
  simp only[Z8,DJ]at ht;obtain⟨p,h1,q,h2,r,h3,ht⟩:=ht;obtain⟨x,g1,g2⟩:=ev1 h1;obtain⟨y,g3,g4⟩:=ev1 h2;obtain⟨z,g5,g6⟩:=ev1 h3;obtain⟨t,rfl,hk⟩:=pH hr.sr g2 g4 g6 ht;refine nil ?_;rw[g1];simp only;cases t
  ·simpa [g5]using hk
  ·simpa [g3]using hk
 case alloc t=>exact nil (jK hr.sr ht)
 case box t x=>
  simp only[mI,DJ]at ht;obtain⟨p,h1,ht⟩:=ht;obtain⟨y,g1,g2⟩:=ev1 h1;split at ht
  case h_2=>simp at ht
  rename_i cs hcs;cases hs:Det.JZ (Ji st) cs with
  |false=>rw[hs]at ht;simp at ht
  |true=>
  rw[hs]at ht;simp only[cond_true,AQ]at ht;obtain⟨rfl,rfl⟩:=ht;refine nil ?_;rw[g1];exact uE hr.sr g2 hcs (by rw[←EZ];exact hs)
 case build t ps=>
  simp only[V1]at ht;split at ht
  case h_2=>simp at ht
  rename_i l hl;obtain⟨l',g1,g2⟩:=OG (C:=C) hr.fp hl;refine nil ?_;rw[g1];exact iN hr.sr g2 ht
 case buildSlice t n ps=>
  simp only[S2]at ht;split at ht
  case h_2=>simp at ht
  rename_i l hl;obtain⟨l',g1,g2⟩:=OG (C:=C) hr.fp hl;refine nil ?_;rw[g1];exact aR hr.sr g2 ht
 case load t x=>
  simp only[YV,DJ]at ht;obtain⟨p,h1,ht⟩:=ht;obtain⟨y,g1,g2⟩:=ev1 h1;refine nil ?_;rw[g1];exact dI hr.sr g2 ht
 case store t x y=>
  simp only[V9,DJ]at ht;obtain⟨p,h1,q,h2,ht⟩:=ht;obtain⟨a,g1,g2⟩:=ev1 h1;obtain⟨b,g3,g4⟩:=ev1 h2;obtain⟨id,hid,hk⟩:=kS hr.sr g2 g4 ht;refine⟨[id],by rw[g1,g3];exact hk,fun sp ids hids=>?_⟩;simp only[Gz,h1]at hids;rcases hid with⟨off,rfl⟩|⟨sz,j,off,rfl⟩<;>(simp only[zk]at hids;subst hids;intro i hi;exact hi)
 case nilCheck x=>
  simp only[NH,DJ]at ht;obtain⟨p,h1,ht⟩:=ht;obtain⟨y,g1,g2⟩:=ev1 h1;rw[g1];split at ht
  case h_4=>simp at ht
  case h_1=>
   rename_i id off;cases hl:Hv (st.obj id)with
   |false=>rw[hl]at ht;simp at ht
   |true=>
    rw[hl]at ht;simp only[cond_true,AQ]at ht;obtain⟨rfl,rfl⟩:=ht;obtain⟨b,n,k1⟩:=hr.sr.live hl;have g2':=g2;simp only[PR]at g2';obtain rfl:=g2'.2 b n k1;exact nil (zg hr.sr rfl g2)
  case h_2=>
   rename_i id sz j off;cases hl:Hv (st.obj id)with
   |false=>rw[hl]at ht;simp at ht
   |true=>
    rw[hl]at ht;simp only[cond_true,AQ]at ht;obtain⟨rfl,rfl⟩:=ht;obtain⟨b,n,k1⟩:=hr.sr.live hl;have g2':=g2;simp only[PR]at g2';obtain rfl:=g2'.2 b n k1;exact nil (zg hr.sr rfl g2)
  case h_3=>
   simp only[AQ]at ht;obtain⟨rfl,rfl⟩:=ht;have g2':=g2;simp only[PR]at g2';obtain⟨b,o',cs,rfl,_⟩:=g2';exact nil (zg hr.sr rfl g2)
 case binOp op t x y t2=>
  simp only[mL,DJ]at ht;obtain⟨p,h1,q,h2,ht⟩:=ht;obtain⟨a,g1,g2⟩:=ev1 h1;obtain⟨b,g3,g4⟩:=ev1 h2;refine nil ?_;rw[g1,g3];split at ht
  case h_2=>exact uT hr.sr g2 g4 ht
  rename_i r hn;simp only[AQ]at ht;obtain⟨rfl,rfl⟩:=ht;unfold mR at hn;split at hn
  case h_3=>cases hn
  all_goals
   rename_i m hu;cases hc:(Wq x||Wq y)with
   |false=>rw[hc]at hn;cases hn
   |true=>
    rw[hc]at hn;cases hn;simp only[PR]at g2 g4;subst g2 g4;exact zg hr.sr (by simp only[Mf,gY,hu,hc,cond_true,Bt]) (HF _)
 case unOp op t x=>
  simp only[uJ,DJ]at ht;obtain⟨p,h1,ht⟩:=ht;obtain⟨y,g1,g2⟩:=ev1 h1;refine nil ?_;rw[g1];exact vS hr.sr g2 ht
 case convert s d x=>
  simp only[bS,DJ]at ht;obtain⟨p,h1,ht⟩:=ht;obtain⟨y,g1,g2⟩:=ev1 h1;refine nil ?_;rw[g1];exact rL hr.sr g2 ht
 case makeFunc f a b=>
  simp only[cM]at ht;split at ht
  case h_2=>simp at ht
  rename_i x y hx hy;simp only[AQ]at ht;obtain⟨rfl,rfl⟩:=ht;obtain⟨u,g1,g2⟩:=EC (C:=C) hr.fp hx;obtain⟨w,g3,g4⟩:=EC (C:=C) hr.fp hy;refine nil ?_;rw[g1,g3];exact zg hr.sr rfl (by unfold PR;exact⟨_,_,rfl,g2,g4⟩)
 case makeMap t r=>
  simp only[W6]at ht;split at ht
  case h_2=>simp at ht
  refine nil ?_;exact lK hr.sr ht
 case lookup t x i ok=>
  simp only[SQ,DJ]at ht;obtain⟨p,h1,q,h2,ht⟩:=ht;obtain⟨a,g1,g2⟩:=ev1 h1;obtain⟨b,g3,g4⟩:=ev1 h2;refine nil ?_;rw[g1,g3];exact eI hr.sr g2 g4 ht
 case mapUpdate t m k x|insert t m k x=>
  simp only[NV,DJ]at ht;obtain⟨p,h1,q,h2,r,h3,ht⟩:=ht;obtain⟨a,g1,g2⟩:=ev1 h1;obtain⟨b,g3,g4⟩:=ev1 h2;obtain⟨c,g5,g6⟩:=ev1 h3;obtain⟨id,rfl,hk⟩:=cI hr.sr g2 g4 g6 ht;refine⟨[id],by rw[g1,g3,g5];exact hk,fun sp ids hids=>?_⟩;simp only[Gz,h1,zk]at hids;subst hids;intro i hi;exact hi
 case makeSlice t l c=>
  simp only[ZT,DJ]at ht;obtain⟨p,h1,q,h2,ht⟩:=ht;obtain⟨a,g1,g2⟩:=ev1 h1;obtain⟨b,g3,g4⟩:=ev1 h2;refine nil ?_;rw[g1,g3];exact qI hr.sr g2 g4 ht
 case slice t x lo hi mx=>
  simp only[WI,DJ]at ht;obtain⟨p,h1,ht⟩:=ht;obtain⟨a,g1,g2⟩:=ev1 h1;obtain⟨l,l',k1,k2,ht⟩:=Z1 (C:=C) hr.fp ht;obtain⟨m,m',k3,k4,ht⟩:=Z1 (C:=C) hr.fp ht;obtain⟨n,n',k5,k6,ht⟩:=Z1 (C:=C) hr.fp ht;refine nil ?_;rw[g1,k1,k3,k5];exact jZ hr.sr g2 k2 k4 k6 ht
 case fieldAddr t x f=>
  simp only[WJ,DJ]at ht;obtain⟨p,h1,ht⟩:=ht;obtain⟨y,g1,g2⟩:=ev1 h1;refine nil ?_;rw[g1];exact fN hr.sr g2 ht
 case field t x f=>
  simp only[VJ,DJ]at ht;obtain⟨p,h1,ht⟩:=ht;obtain⟨y,g1,g2⟩:=ev1 h1;refine nil ?_;rw[g1];exact kO hr.sr g2 ht
 case indexAddr t x i=>
  simp only[WW,DJ]at ht;obtain⟨p,h1,q,h2,ht⟩:=ht;obtain⟨a,g1,g2⟩:=ev1 h1;obtain⟨b,g3,g4⟩:=ev1 h2;refine nil ?_;rw[g1,g3];exact kX hr.sr g2 g4 ht
 case index t x i=>
  simp only[V7,DJ]at ht;obtain⟨p,h1,q,h2,ht⟩:=ht;obtain⟨a,g1,g2⟩:=ev1 h1;obtain⟨b,g3,g4⟩:=ev1 h2;refine nil ?_;rw[g1,g3];exact gU hr.sr g2 g4 ht
 case extract x i=>
  simp only[P0,DJ]at ht;obtain⟨p,h1,ht⟩:=ht;obtain⟨y,g1,g2⟩:=ev1 h1;refine nil ?_;rw[g1];exact XF hr.sr g2 ht
 case range t x=>
  simp only[Wo,DJ]at ht;obtain⟨p,h1,ht⟩:=ht;obtain⟨y,g1,g2⟩:=ev1 h1;refine nil ?_;rw[g1];exact fX hr.sr g2 ht
 case next x i=>
  simp only[bF,DJ]at ht;obtain⟨p,h1,ht⟩:=ht;obtain⟨y,g1,g2⟩:=ev1 h1;obtain⟨rfl,id,off,rfl,hk⟩:=oV hr.sr g2 ht;refine⟨[id],by rw[g1];exact hk,fun sp ids hids=>?_⟩;simp only[Gz]at hids;cases hids
 case call c=>
  simp only[QB]at ht;split at ht
  case h_1=>simp at ht
  rename_i args hargs;obtain⟨args',g1,g2⟩:=EC (C:=C) hr.fp hargs;split at ht
  case h_2=>simp at ht
  case h_1=>
   rename_i b hb;split at ht
   case h_1=>
    obtain⟨id,qs,rfl,hk⟩:=aT hr.sr g2 ht;refine⟨[id],by rw[hb,g1];exact hk,fun sp ids hids=>?_⟩;simp only[Gz,hb,hargs,zk]at hids;subst hids;intro i hi;exact hi
   case h_2=>
   have:=Yd hr.sr g2 ht;refine⟨_,by rw[hb,g1];exact this,fun sp ids hids=>?_⟩;simp only[Gz,hb,hargs]at hids;cases b<;>simp only at hids ⊢<;>try (first|(intro i hi;cases hi;done)|(cases hids;done))
   case append=>
    cases args with
    |nil=>simp[EV]
    |cons p ps=>cases p<;>simp only[zk]at hids<;>subst hids<;>(intro i hi;exact hi)
   case unsafeString=>
    cases args with
    |nil=>simp[pK]
    |cons p ps=>cases p<;>first|(cases hids;done)|(cases hids;intro i hi;exact hi)
end
section
variable {B:Nat}{h0:H0}{F:Fz}{ρ:DO}{N:Nat}{X:A5}{st st':AK}{fr:Fr}{h h':H}{Q:PV→Ob→Prop}{n:Nat}
@[simp] theorem CM(st:AK)(t:Nat)(p:PV)(s:Nat):(st.set t p).get s=if s=t then p else st.get s:=by
 unfold AK.get AK.set;simp only[PM.CM];split<;>rfl
theorem Rel.set(hr:Rel B h0 F ρ st fr h){t:Nat}{p:PV}{x:V}(hp:PR F ρ st.nx p x):Rel B h0 F ρ (st.set t p) ⟨fr.n,fr.m.set t (some x)⟩ h:=by
 refine⟨⟨hr.fp.n,fun s=>?_⟩,hr.sr⟩;rw[CM];unfold Fr.get;simp only[PM.CM];split
 ·exact hp
 ·exact hr.fp.slot s
theorem Rel.note(hr:Rel B h0 F ρ st fr h){t:Nat}{p:PV}(hp:PR F ρ st.nx p (fr.get t)):Rel B h0 F ρ (st.set t p) fr h:=by
 refine⟨⟨hr.fp.n,fun s=>?_⟩,hr.sr⟩;rw[CM];split
 ·rename_i e;subst e;exact hp
 ·exact hr.fp.slot s
theorem Rel.put(hr:Rel B h0 F ρ st fr h){d:Option Nat}{p:PV}{x:V}(hp:PR F ρ st.nx p x)(hd:st.put d p=some st'):∃fr',fr.put d x=some fr'∧Rel B h0 F ρ st' fr' h∧st'.nx=st.nx∧st'.ob=st.ob:=by
 unfold AK.put at hd;unfold Fr.put;cases d with
 |none=>cases hd;exact⟨fr,rfl,hr,rfl,rfl⟩
 |some t=>
  simp only at hd ⊢;have hn:st.n=fr.n:=hr.fp.n;rw[hn]at hd;cases hb:zr t fr.n with
  |false=>rw[hb]at hd;cases hd
  |true=>
   rw[hb]at hd;simp only[cond_true,zk]at hd;subst hd;exact⟨_,rfl,hr.set hp,rfl,rfl⟩
structure CV(B:Nat)(h0:H0)(F:Fz)(ρ:DO)(N:Nat)(h:H)(st':AK)(fr':Fr)(h':H)(F':Fz)(ρ':DO):Prop where
 rel:Rel B h0 F' ρ' st' fr' h'
 le:Le F ρ N F' ρ' st'.nx
 nx:h.nx≤h'.nx
theorem CV.refl(hr:Rel B h0 F ρ st fr h):CV B h0 F ρ st.nx h st fr h F ρ:=⟨hr,zJ,ze _⟩
theorem CV.trans{F' F'':Fz}{ρ' ρ'':DO}{st'':AK}{fr' fr'':Fr}{h'':H}(a:CV B h0 F ρ N h st' fr' h' F' ρ')(b:CV B h0 F' ρ' st'.nx h' st'' fr'' h'' F'' ρ''):CV B h0 F ρ N h st'' fr'' h'' F'' ρ'':=
 ⟨b.rel,a.le.trans b.le,zV a.nx b.nx⟩
def tH(X:A5)(ρ:DO)(h:H)(args':List V):pP→Cl→Prop
 | .fn g,c=>c=.fn g args'∧X.C.prim g=none∧∃i,X.C.fn g=some i
 | .rnd id,c=>∃b n ls,ρ id=some (b,n)∧h.get b=some (.loop ls)∧args'.length=ls.ps.size∧c=.rnd b ls (FI ls.ps.toList args' ls.fr)
inductive LP (X:A5) (ρ:DO) (h:H) (args':List V):pP→List (V×H)→Prop where
 |Bg {g:pP} {c:Cl} {l:List (V×H)} {M:Nat}:tH X ρ h args' g c→(∀m,M≤m→Det.Bg X.C m c h=some l)→LP X ρ h args' g l
 |prim {g:FuncId} {q:List V→H→Option (V×H)} {x:V×H}:X.C.prim g=some q→q args' h=some x→LP X ρ h args' (.fn g) [x]
def EO(B:Nat)(h0:H0)(X:A5)(nd:Bool)(call:Fi):Prop:=
 ∀ {Q:PV→Ob→Prop} {n:Nat} {g:pP} {args:List PV} {st:AK} {k:PV→AK→Tr},Ev X Q n (call g args st k)→∀ {F:Fz} {ρ:DO} {fr:Fr} {h:H} {args':List V},Rel B h0 F ρ st fr h→Bb F ρ st.nx args args'→
  ∃l,LP X ρ h args' g l∧(nd=false→∃x,l=[x])∧
   ∀x∈l,∃n',n'≤n∧∃r st',Ev X Q n' (k r st')∧∃F' ρ',PR F' ρ' st'.nx r x.1∧CV B h0 F ρ st.nx h st' fr x.2 F' ρ'∧(∀gg,g=.fn gg→∀sp,X.sp gg=some sp→∀b,b<h.nx→x.2.get b=h.get b)
theorem Ev.Eo{c:Bool}{a b:Tr}(he:Ev X Q n (.ite c a b)):(c=true∧Ev X Q n a)∨(c=false∧Ev X Q n b):=by
 cases he with
 |ite h1 h2=>
  cases c with
  |true=>exact .inl ⟨rfl,h1 rfl⟩
  |false=>exact .inr ⟨rfl,h2 rfl⟩
theorem Ev.Th{a b:Tr}(he:Ev X Q n (.both a b)):Ev X Q n a∧Ev X Q n b:=by
 cases he with
 |both h1 h2=>exact⟨h1,h2⟩
theorem Ev.AE:¬Ev X Q n .fail:=fun h=>by cases h
theorem Ev.Wl{v:PV}{ob:Ob}(he:Ev X Q n (.leaf v ob)):Q v ob:=by
 cases he with
 |leaf h=>exact h
theorem LK(hr:Rel B h0 F ρ st fr h){ops:Array Oper}{o:Oper}{yes no:AK→Tr}(he:Ev X Q n (guarded ops o st yes no)):
  ∃st1,Rel B h0 F ρ st1 fr h∧st1.nx=st.nx∧st1.ob=st.ob∧((A9 fr ops o=true∧Ev X Q n (yes st1))∨(A9 fr ops o=false∧Ev X Q n (no st1))):=by
 unfold guarded at he;unfold A9;cases hg:o.guard with
 |none=>rw[hg]at he;exact⟨st,hr,rfl,rfl,.inl ⟨rfl,he⟩⟩
 |some jw=>
  obtain⟨j,want⟩:=jw;rw[hg]at he;simp only at he ⊢;cases hb:(ops[j]?).bind (·.dst)with
  |none=>rw[hb]at he;exact absurd he Ev.AE
  |some t=>
   rw[hb]at he;simp only at he ⊢;rw[show st.n=fr.n from hr.fp.n]at he;cases hlt:zr t fr.n with
   |false=>rw[hlt]at he;exact absurd he Ev.AE
   |true=>
    rw[hlt]at he;simp only[cond_true]at he ⊢;have hs:=hr.fp.slot t;split at he
    case h_1=>
     rename_i b hb2;rw[hb2]at hs;rw[NK hs];refine⟨st,hr,rfl,rfl,?_⟩;cases hbw:(b==want)with
     |true=>rw[hbw]at he;exact .inl ⟨hbw,he⟩
     |false=>rw[hbw]at he;exact .inr ⟨hbw,he⟩
    case h_2=>
     rename_i b hb2;rw[hb2]at hs;have hv:=GS hs;have note:∀c:Bool,b=c→Rel B h0 F ρ (st.set t (.bl c)) fr h:=by
      rintro c rfl;exact hr.note (by rw[hv];exact HF _)
     rw[hv];cases want with
     |true=>
      simp only[cond_true]at he;rcases he.Eo with⟨hb3,he⟩|⟨hb3,he⟩
      ·exact⟨_,note true hb3,rfl,rfl,.inl ⟨by rw[show b=true from hb3];rfl,he⟩⟩
      ·exact⟨_,note false hb3,rfl,rfl,.inr ⟨by rw[show b=false from hb3];rfl,he⟩⟩
     |false=>
      simp only[cond_false]at he;rcases he.Eo with⟨hb3,he⟩|⟨hb3,he⟩
      ·exact⟨_,note true hb3,rfl,rfl,.inr ⟨by rw[show b=true from hb3];rfl,he⟩⟩
      ·exact⟨_,note false hb3,rfl,rfl,.inl ⟨by rw[show b=false from hb3];rfl,he⟩⟩
    case h_5=>exact absurd he Ev.AE
    case h_4=>
     rename_i hb2;rw[hb2]at hs;simp only[PR]at hs;obtain⟨b,hv⟩:=hs;have note:∀c:Bool,b=c→Rel B h0 F ρ (st.set t (.bl c)) fr h:=by
      rintro c rfl;exact hr.note (by rw[hv];exact HF _)
     obtain⟨he1,he2⟩:=he.Th;rw[hv];cases b with
     |true=>
      cases want with
      |true=>exact⟨_,note true rfl,rfl,rfl,.inl ⟨rfl,he1⟩⟩
      |false=>exact⟨_,note true rfl,rfl,rfl,.inr ⟨rfl,he1⟩⟩
     |false=>
      cases want with
      |true=>exact⟨_,note false rfl,rfl,rfl,.inr ⟨rfl,he2⟩⟩
      |false=>exact⟨_,note false rfl,rfl,rfl,.inl ⟨rfl,he2⟩⟩
    case h_3=>
     rename_i l hb2;rw[hb2]at hs;simp only[PR]at hs;obtain⟨cs,hv,_⟩:=hs;rw[hv];exact⟨st,hr,rfl,rfl,.inr ⟨rfl,he⟩⟩
theorem Is{d:Option Nat}{k:AK→Tr}:∀ {po:PO},Ev X Q n (OY d k po)→∃u s st1,po.To u s∧s.put d u=some st1∧Ev X Q n (k st1)
 | .bad,he=>absurd he Ev.AE
 | .val u s,he=>by
  simp only[OY]at he;split at he
  ·rename_i s1 hs;exact⟨u,s,s1,.val,hs,he⟩
  ·exact absurd he Ev.AE
 | .ite c a b,he=>by
  simp only[OY]at he;rcases he.Eo with⟨rfl,he2⟩|⟨rfl,he2⟩
  ·obtain⟨u,s,s1,h1,h2⟩:=Is he2;exact⟨u,s,s1,.tt h1,h2⟩
  ·obtain⟨u,s,s1,h1,h2⟩:=Is he2;exact⟨u,s,s1,.ff h1,h2⟩
inductive jU (X:A5) (fr:Fr) (h:H) (o:Oper):List (V×H)→Prop where
 |val {x:V} {h':H}:FG X.C fr h o=some (.val x h')→jU X fr h o [(x,h')]
 |skip {h':H}:FG X.C fr h o=some (.skip h')→jU X fr h o [(.tup [],h')]
 |alts {l:List (V×H)}:FG X.C fr h o=some (.alts l)→jU X fr h o l
 |call {g:FuncId} {args:List V} {l:List (V×H)} {M:Nat}:FG X.C fr h o=some (.enter g args)→(∀m,M≤m→Bg X.C m (.fn g args) h=some l)→jU X fr h o l
 |round {b:Nat} {ls:LS} {f:Fr} {l:List (V×H)} {M:Nat}:FG X.C fr h o=some (.round b ls f)→(∀m,M≤m→Bg X.C m (.rnd b ls f) h=some l)→jU X fr h o l
theorem GP{nd:Bool}{call:Fi}(hcall:EO B h0 X nd call)(hr:Rel B h0 F ρ st fr h){o:Oper}{k:AK→Tr}(he:Ev X Q n (GR X.C.T call o st k)):
  ∃l,jU X fr h o l∧((nd=false→(∃x,l=[x])∧∀l',FG X.C fr h o≠some (.alts l'))∧((∀id a,JA st o.op≠ .yes (.rnd id) a)→∀b ls f,FG X.C fr h o≠some (.round b ls f)))∧∀x∈l,∃n',n'≤n∧∃st1,Ev X Q n' (k st1)∧∃F' ρ' fr',fr.put o.dst x.1=some fr'∧CV B h0 F ρ st.nx h st1 fr' x.2 F' ρ'∧
   ∀ids,Gz X.sp st o.op=some ids→∀b,b<h.nx→x.2.get b=h.get b∨∃id∈ids,∃m,ρ id=some (b,m):=by
 unfold GR at he;split at he
 case h_2=>exact absurd he Ev.AE
 case h_1=>
  rename_i g args hc;unfold JA at hc;split at hc
  case h_2=>cases hc
  rename_i c hop;split at hc
  case h_2=>cases hc
  rename_i f hcal;split at hc
  case h_3=>cases hc
  case h_2=>
   rename_i id ps hf hps;cases hc;obtain⟨fv,f1,f2⟩:=B0 (C:=X.C) hr.fp hf;obtain⟨av,a1,a2⟩:=EC (C:=X.C) hr.fp hps;simp only[PR]at f2;obtain⟨l,hcd,hnd,hall⟩:=hcall he hr a2;obtain⟨hcd1,hM⟩:=hcd;obtain⟨b,m,ls,c1,c2,c3,rfl⟩:=hcd1;obtain rfl:=f2.2 b m c1;have hdop:FG X.C fr h o=some (.round b ls (FI ls.ps.toList av ls.fr)):=by
    rw[CD];unfold Ga;have hb:zf av.length ls.ps.size=true:=by rw[c3];exact zC _
    simp only[hop,hcal,a1,f1,KV,c2,hb,cond_true]
   refine⟨l,.round hdop hM,⟨fun e=>⟨hnd e,fun l'=>by rw[hdop];intro h;cases h⟩,fun hno=>?_⟩,fun x hx=>?_⟩
   ·exact absurd (by unfold JA;simp only[hop,hcal,hf,hps]) (hno id args)
   obtain⟨n',hn,r,st',he',F',ρ',hp,hw,hsp⟩:=hall x hx;split at he'
   case h_2=>exact absurd he' Ev.AE
   rename_i st1 hput;obtain⟨fr',g1,g2,g3,g4⟩:=hw.rel.put hp hput;refine⟨n',hn,st1,he',F',ρ',fr',g1,⟨g2,by rw[g3];exact hw.le,hw.nx⟩,fun ids hids b hb=>?_⟩;simp only[hop,Gz,hcal,hf]at hids;cases hids
  rename_i g' first cap ps hf hps
  cases hc;obtain⟨fv,f1,f2⟩:=B0 (C:=X.C) hr.fp hf;obtain⟨av,a1,a2⟩:=EC (C:=X.C) hr.fp hps;simp only[PR]at f2;obtain⟨fa,fb,rfl,f3,f4⟩:=f2;have hargs:Bb F ρ st.nx (first++ps++cap) (fa++av++fb):=(f3.append a2).append f4;obtain⟨l,hcd,hnd,hall⟩:=hcall he hr hargs;have hdid:jU X fr h o l∧(∀l',FG X.C fr h o≠some (.alts l'))∧∀b ls f,FG X.C fr h o≠some (.round b ls f):=by
   cases hcd with
   |Bg hc hM=>
    obtain⟨rfl,hprim,i,hfn⟩:=hc;have hdop:FG X.C fr h o=some (.enter g' (fa++av++fb)):=by
     rw[CD];unfold Ga;simp only[hop,hcal,a1,f1,KV,hprim,hfn]
    exact⟨.call hdop hM,fun l'=>(by rw[hdop];intro h;cases h),fun b ls f=>(by rw[hdop];intro h;cases h)⟩
   |prim hq hx=>
    rename_i q x;have hdop:FG X.C fr h o=some (.val x.1 x.2):=by
     rw[CD];unfold Ga;simp only[hop,hcal,a1,f1,KV,hq,hx,EP]
    exact⟨.val hdop,fun l'=>(by rw[hdop];intro h;cases h),fun b ls f=>(by rw[hdop];intro h;cases h)⟩
  refine⟨l,hdid.1,⟨fun e=>⟨hnd e,hdid.2.1⟩,fun _=>hdid.2.2⟩,fun x hx=>?_⟩;obtain⟨n',hn,r,st',he',F',ρ',hp,hw,hsp⟩:=hall x hx;split at he'
  case h_2=>exact absurd he' Ev.AE
  rename_i st1 hput;obtain⟨fr',g1,g2,g3,g4⟩:=hw.rel.put hp hput;refine⟨n',hn,st1,he',F',ρ',fr',g1,⟨g2,by rw[g3];exact hw.le,hw.nx⟩,fun ids hids b hb=>?_⟩;simp only[hop,Gz,hcal,hf]at hids;cases hs:X.sp g' with
  |none=>rw[hs]at hids;cases hids
  |some sp=>exact .inl (hsp g' rfl sp hs b hb)
 case h_3=>
  obtain⟨u,s,st1,h1,h2,h3⟩:=Is he;obtain⟨tch,⟨v',h',F',ρ',g1,g2,g3,g4,g5,g6,g7,g8⟩,htch⟩:=jF (C:=X.C) hr h1;have hrs:Rel B h0 F' ρ' s fr h':=⟨⟨by rw[g6];exact hr.fp.n,fun t=>by
   have:s.get t=st.get t:=by unfold AK.get;rw[g5]
   rw[this];exact(hr.fp.slot t).mono g4⟩,g3⟩
  obtain⟨fr',k1,k2,k3,k4⟩:=hrs.put g2 h2;refine⟨[(v',h')],?_,⟨fun _=>⟨⟨_,rfl⟩,fun l'=>by rcases g1 with g1|⟨g1,_⟩<;>rw[g1]<;>intro h<;>cases h⟩,fun _ b ls f=>by rcases g1 with g1|⟨g1,_⟩<;>rw[g1]<;>intro h<;>cases h⟩,fun x hx=>?_⟩
  ·rcases g1 with g1|⟨g1,rfl⟩
   ·exact .val g1
   ·exact .skip g1
  ·cases zj.1 hx;refine⟨n,ze _,st1,h3,F',ρ',fr',k1,⟨k2,by rw[k3];exact g4,g7⟩,fun ids hids b hb=>?_⟩;rcases g8 b hb with e|⟨id,hi,m,e⟩
   ·exact .inl e
   ·exact .inr ⟨id,htch _ _ hids id hi,m,e⟩
theorem pB{α β:Type}{f:α→Option (List β)}{x:α}:bl [x] f=f x:=by
 unfold bl;cases f x<;>rfl
theorem KT{α β:Type}{f:Nat→Nat→α→Option (List β)}{P:β→Prop}{nd:Bool}{l:List α}(hone:nd=false→∃x,l=[x])(h:∀a∈l,∃r M,(∀m,M≤m→∀q,M≤q→f m q a=some r)∧(nd=false→∃x,r=[x])∧∀y∈r,P y):
  ∃r M,(∀m,M≤m→∀q,M≤q→bl l (f m q)=some r)∧(nd=false→∃x,r=[x])∧∀y∈r,P y:=by
 cases nd with
 |false=>
  obtain⟨x,rfl⟩:=hone rfl;obtain⟨r,M,h1,h2,h3⟩:=h x (zj.2 rfl);exact⟨r,M,fun m hm q hq=>by rw[pB];exact h1 m hm q hq,h2,h3⟩
 |true=>
  clear hone;suffices hs:∃r M,(∀m,M≤m→∀q,M≤q→bl l (f m q)=some r)∧∀y∈r,P y by
   obtain⟨r,M,h1,h2⟩:=hs;exact⟨r,M,h1,fun e=>(by cases e),h2⟩
  induction l with
  |nil=>exact⟨[],0,fun _ _ _ _=>rfl,fun y hy=>by cases hy⟩
  |cons a l ih=>
   obtain⟨r,M,h1,_,h2⟩:=h a List.mem_cons_self;obtain⟨r2,M2,h3,h4⟩:=ih (fun x hx=>h x (List.mem_cons_of_mem _ hx));cases l with
   |nil=>exact⟨r,M,fun m hm q hq=>(by simp only[bl,h1 m hm q hq]),h2⟩
   |cons b l=>
    refine⟨r++r2,max M M2,fun m hm q hq=>?_,fun y hy=>?_⟩
    ·unfold bl;rw[h1 m (by omega) q (by omega)];simp only;rw[h3 m (by omega) q (by omega)]
    ·rcases List.mem_append.1 hy with hy|hy
     ·exact h2 y hy
     ·exact h4 y hy
theorem OA{d:Option Nat}{P:Fr×H→Prop}:∀ {l:List (V×H)},(∀x∈l,∃fr',fr.put d x.1=some fr'∧P (fr',x.2))→∃r,G5 fr d l=some r∧(∀y∈r,P y)∧((∃x,l=[x])→∃y,r=[y])
 |[],_=>⟨[],rfl,fun y hy=>(by cases hy),fun⟨x,h⟩=>by cases h⟩
 |x::l,h=>by
  obtain⟨fr',h1,h2⟩:=h x List.mem_cons_self;obtain⟨r,h3,h4,_⟩:=OA (l:=l) (fun y hy=>h y (List.mem_cons_of_mem _ hy));refine⟨(fr',x.2)::r,?_,fun y hy=>?_,fun⟨z,hz⟩=>?_⟩
  ·obtain⟨v,hv⟩:=x;unfold G5;rw[h1];simp only;rw[h3]
  ·rcases List.mem_cons.1 hy with rfl|hy
   ·exact h2
   ·exact h4 y hy
  ·cases hz;cases h3;exact⟨_,rfl⟩
theorem jU.vO{l:List (V×H)}{o:Oper}{ops:Array Oper}(hd:jU X fr h o l)(hw:A9 fr ops o=true){P:Fr×H→Prop}(hp:∀x∈l,∃fr',fr.put o.dst x.1=some fr'∧P (fr',x.2)):
  ∃r M,(∀m,M≤m→step1 X.C (Bg X.C m) ops o fr h=some r)∧((∃x,l=[x])→∃y,r=[y])∧∀y∈r,P y:=by
 obtain⟨r,h3,h4,h5⟩:=OA hp;cases hd with
 |@val x h' hd=>
  obtain⟨fr',k1,k2⟩:=hp _ (zj.2 rfl);exact⟨[(fr',h')],0,fun m _=>(by simp only[step1,hw,cond_true,HM,hd,k1]),fun _=>⟨_,rfl⟩,fun y hy=>by cases zj.1 hy;exact k2⟩
 |@skip h' hd=>
  obtain⟨fr',k1,k2⟩:=hp _ (zj.2 rfl);exact⟨[(fr',h')],0,fun m _=>(by simp only[step1,hw,cond_true,HM,hd,k1]),fun _=>⟨_,rfl⟩,fun y hy=>by cases zj.1 hy;exact k2⟩
 |alts hd=>exact⟨r,0,fun m _=>by simp only[step1,hw,cond_true,HM,hd,h3],h5,h4⟩
 |@call g args l M hd hM=>exact⟨r,M,fun m hm=>by simp only[step1,hw,cond_true,HM,hd,hM m hm,h3],h5,h4⟩
 |@round b ls f l M hd hM=>exact⟨r,M,fun m hm=>by simp only[step1,hw,cond_true,HM,hd,hM m hm,h3],h5,h4⟩
theorem Yr{T:BS}{h:H}{s d:TypeId}{b off:Nat}:Fa T h s d (.ptr b off)=none:=by
 unfold Fa;split<;>first|rfl|(rename_i e;cases e)
theorem bJ(hr:Rel B h0 F ρ st fr h){o:Oper}{v:PV}(hb:oO X.C.T st o.op=some v):OK B h0 F ρ st h [] (HM X.C fr h o) v st:=by
 have fin:∀ {s d:TypeId} {x:Operand} {b off:Nat} {u:V},o.op=.convert s d x→ev X.C fr x=some (.ptr b off)→Fc X.C.T h s d (.ptr b off)=some u→PR F ρ st.nx v u→OK B h0 F ρ st h [] (HM X.C fr h o) v st:=by
  intro s d x b off u hop g1 g2 g3;have hdop:FG X.C fr h o=none:=by
   rw[CD];unfold Ga;rw[hop];simp only[g1,Yr];rfl
  refine zg hr.sr (v':=u) ?_ g3;unfold HM;rw[hdop,hop];simp only[g1,g2]
 unfold oO at hb;split at hb
 case h_2=>cases hb
 rename_i s d x hop;split at hb
 case h_3=>cases hb
 case h_1=>
  rename_i t id off hs hd hx;split at hb
  case h_2=>cases hb
  rename_i i tb cs hi ho;cases hc:(zr 0 i.size&&zr off (Det.Dr cs))with
  |false=>rw[hc]at hb;cases hb
  |true=>
   rw[hc]at hb;cases hb;obtain⟨y,g1,g2⟩:=B0 (C:=X.C) hr.fp hx;obtain⟨b,n,z,k1,k2,⟨bs,fz,rfl,k4,_⟩,_⟩:=hr.sr.at ho;have hy:=g2;simp only[PR]at hy;obtain rfl:=hy.2 b n k1;refine fin hop g1 ?_ g2;unfold Fc;rw[hs,hd];simp only[hi,k2];rw[Cr,k4.len]at hc;rw[hc];rfl
 case h_2=>
  rename_i u id off hs hd hx;split at hb
  case h_2=>cases hb
  rename_i i e cs hi ho;cases hc:(zr 0 i.size&&zl i.size (Det.Dr cs)&&zf e u&&zf off 0)with
  |false=>rw[hc]at hb;cases hb
  |true=>
   rw[hc]at hb;cases hb;obtain⟨y,g1,g2⟩:=B0 (C:=X.C) hr.fp hx;obtain⟨b,n,z,k1,k2,⟨bs,fz,rfl,k4,_⟩,_⟩:=hr.sr.at ho;have hy:=g2;simp only[PR]at hy;obtain rfl:=hy.2 b n k1;have h0:off=0:=by
    simp only[zc]at hc;exact zd hc.2
   subst h0;refine fin hop g1 (u:=.ptr b 0) ?_ g2;unfold Fc;rw[hs,hd];simp only[hi,k2];rw[Cr,k4.len]at hc;rw[hc];rfl
theorem Tw(hr:Rel B h0 F ρ st fr h){o:Oper}{v:PV}{stx:AK}(hb:RT X.C.T st o.op=some (v,stx)):OK B h0 F ρ st h [] (HM X.C fr h o) v stx:=by
 unfold RT at hb;split at hb
 case h_2=>cases hb
 rename_i s d x hop;split at hb
 case h_2=>cases hb
 rename_i e l hs hd hx;split at hb
 case h_2=>cases hb
 rename_i he;cases hb;obtain⟨y,g1,g2⟩:=B0 (C:=X.C) hr.fp hx;obtain rfl:=EL g2;have hdop:FG X.C fr h o=none:=by
  rw[CD];unfold Ga;rw[hop];simp only[g1,Fa,hs,hd];rfl
 have hx:HM X.C fr h o=EP (some (.sl h.nx 0 l.length l.length 1,h.push (.cells (l.map fun b=>.int .u8 (.ofNat b.toNat)) e (0,0)))):=by
  have hpt:Fc X.C.T h s d (.str l)=none:=by unfold Fc;rw[hs,hd]
  unfold HM;rw[hdop,hop];simp only[g1,hpt,Ru,hs,hd,he]
 rw[hx];refine OK.new hr.sr (o:=.arr false e (.int .u8) (l.map fun b=>(b.toNat:Int))) (n:=l.length) rfl ⟨l.map fun b=>ya .u8 (.ofNat b.toNat),(0,0),rfl,⟨by simp[Sh.sz],fun j hj=>?_⟩,ze _,by simp⟩ ?_
 ·have hj':j<l.length:=by simpa using hj
  have e1:((l.map fun b=>ya .u8 (.ofNat b.toNat)).drop (j*1)).take 1=[ya .u8 (.ofNat (l[j]).toNat)]:=by
   rw[zP,zw (by simpa using hj')];simp
  show DC _ (.int .u8) _ (((l.map fun b=>ya .u8 (.ofNat b.toNat)).drop (j*1)).take 1);rw[e1];simp[DC]
 ·unfold PR;refine⟨zA _,fun b m hb=>.inl ⟨ze _,?_,1,.inr rfl,?_⟩⟩
  ·simp[BF]at hb;show 0+l.length≤m;omega
  ·simp[BF]at hb;rw[←hb.1];simp
theorem Vv(hr:Rel B h0 F ρ st fr h){o:Oper}{v:PV}{stx:AK}(hb:Ur X.C.T st o.op=some (v,stx)):OK B h0 F ρ st h [] (HM X.C fr h o) v stx:=by
 unfold Ur at hb;split at hb
 case h_1=>rename_i r hr0;cases hb;exact Tw hr hr0
 case h_2=>
  split at hb
  case h_2=>cases hb
  rename_i u hu;cases hb;exact bJ hr hu
theorem SE{nd:Bool}{call:Fi}(hcall:EO B h0 X nd call){ops:Array Oper}:∀ {l:List Oper} {n:Nat} {st:AK} {F:Fz} {ρ:DO} {fr:Fr} {h:H} {k:AK→Tr},Rel B h0 F ρ st fr h→Ev X Q n (prun X.C.T call ops l st k)→
  ∃r M,(∀m,M≤m→QD X.C (Bg X.C m) ops l fr h=some r)∧(nd=false→∃x,r=[x])∧∀x∈r,∃n',n'≤n∧∃st1,Ev X Q n' (k st1)∧∃F' ρ',CV B h0 F ρ st.nx h st1 x.1 x.2 F' ρ'
 |[],n,st,F,ρ,fr,h,k,hr,he=>⟨[(fr,h)],0,fun _ _=>rfl,fun _=>⟨_,rfl⟩,fun x hx=>by cases zj.1 hx;exact⟨n,ze _,st,he,F,ρ,CV.refl hr⟩⟩
 |o::rest,n,st,F,ρ,fr,h,k,hr,he=>by
  unfold prun at he;obtain⟨st1,hr1,e1,e2,hcase⟩:=LK hr he;have fin:∀ {l:List (Fr×H)},(∃M,∀m,M≤m→step1 X.C (Bg X.C m) ops o fr h=some l)→(nd=false→∃x,l=[x])→
    (∀y∈l,∃n',n'≤n∧∃st2,Ev X Q n' (prun X.C.T call ops rest st2 k)∧∃F' ρ',CV B h0 F ρ st.nx h st2 y.1 y.2 F' ρ')→
    ∃r M,(∀m,M≤m→QD X.C (Bg X.C m) ops (o::rest) fr h=some r)∧(nd=false→∃x,r=[x])∧∀x∈r,∃n',n'≤n∧∃st1,Ev X Q n' (k st1)∧∃F' ρ',CV B h0 F ρ st.nx h st1 x.1 x.2 F' ρ':=by
   rintro l ⟨M1,hM1⟩ hone hl;obtain⟨r,M,h1,h2,h3⟩:=KT (f:=fun m _ (x:Fr×H)=>QD X.C (Bg X.C m) ops rest x.1 x.2) (P:=fun x=>∃n',n'≤n∧∃st1,Ev X Q n' (k st1)∧∃F' ρ',CV B h0 F ρ st.nx h st1 x.1 x.2 F' ρ') hone fun y hy=>by
    obtain⟨n1,hn1,st2,he2,F1,ρ1,hwent⟩:=hl y hy;obtain⟨r,M,h1,h3,h2⟩:=SE hcall hwent.rel he2;refine⟨r,M,fun m hm _ _=>h1 m hm,h3,fun z hz=>?_⟩;obtain⟨n2,hn2,st3,he3,F2,ρ2,hwent2⟩:=h2 z hz;exact⟨n2,zV hn2 hn1,st3,he3,F2,ρ2,hwent.trans hwent2⟩
   refine⟨r,max M M1,fun m hm=>?_,h2,h3⟩;simp only[QD,hM1 m (by omega)];exact h1 m (by omega) m (by omega)
  rcases hcase with⟨hw,he⟩|⟨hw,he⟩
  ·unfold mK at he;split at he
   case h_1=>
    rename_i v stx hb;split at he
    case h_2=>exact absurd he Ev.AE
    rename_i st2 hput;obtain⟨v',h',F',ρ',g1,g2,g3,g4,g5,g6,g7,g8⟩:=Vv hr1 hb;have hrs:Rel B h0 F' ρ' stx fr h':=⟨⟨by rw[g6];exact hr1.fp.n,fun t=>by
     have:stx.get t=st1.get t:=by unfold AK.get;rw[g5]
     rw[this];exact(hr1.fp.slot t).mono g4⟩,g3⟩
    have hpr:∃u,PR F' ρ' stx.nx v u∧∀fr',fr.put o.dst u=some fr'→∀m,step1 X.C (Bg X.C m) ops o fr h=some [(fr',h')]:=by
     rcases g1 with g1|⟨g1,rfl⟩
     ·exact⟨v',g2,fun fr' k1 m=>by simp only[step1,hw,cond_true,g1,k1]⟩
     ·exact⟨.tup [],g2,fun fr' k1 m=>by simp only[step1,hw,cond_true,g1,k1]⟩
    obtain⟨u,hu,Dp⟩:=hpr;obtain⟨fr',k1,k2,k3,k4⟩:=hrs.put hu hput;refine fin (l:=[(fr',h')]) ⟨0,fun m _=>Dp fr' k1 m⟩ (fun _=>⟨_,rfl⟩) fun y hy=>?_
    cases zj.1 hy;exact⟨n,ze _,st2,he,F',ρ',k2,by rw[k3, ←e1];exact g4,g7⟩
   obtain⟨l,hdid,hnd,hall⟩:=GP hcall hr1 he;obtain⟨r,M,h1,h3,h2⟩:=hdid.vO (ops:=ops) (P:=fun y=>∃n',n'≤n∧∃st2,Ev X Q n' (prun X.C.T call ops rest st2 k)∧∃F' ρ',CV B h0 F ρ st.nx h st2 y.1 y.2 F' ρ') hw fun x hx=>by
    obtain⟨n1,hn1,st2,he2,F1,ρ1,fr1,hput,hwent,_⟩:=hall x hx;rw[e1]at hwent;exact⟨fr1,hput,n1,hn1,st2,he2,F1,ρ1,hwent⟩
   exact fin ⟨M,h1⟩ (fun e=>h3 (hnd.1 e).1) h2
  ·unfold Lt at he;split at he
   case h_2=>exact absurd he Ev.AE
   rename_i st2 hput;obtain⟨fr1,g1,g2,g3,g4⟩:=hr1.put (x:=.tup []) (by simp[PR]) hput;refine fin (l:=[(fr1,h)]) ⟨0,fun m _=>by simp only[step1,hw,cond_false,g1]⟩ (fun _=>⟨_,rfl⟩) fun y hy=>?_
   cases zj.1 hy;exact⟨n,ze _,st2,he,F,ρ,g2,by rw[g3,e1];exact zJ,ze _⟩
end
end Go.Pe
end
