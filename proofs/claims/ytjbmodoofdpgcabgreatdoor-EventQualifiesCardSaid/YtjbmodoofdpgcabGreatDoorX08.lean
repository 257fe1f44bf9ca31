import Derived.Test.YtjbmodoofdpgcabGreatDoorX07
/- A part of a proof; no law is stated here. -/
noncomputable section
open List renaming mem_singleton -> Za, take_of_length_le -> Zp, replicate -> Zq, drop_eq_getElem_cons -> Zs, getElem?_eq_some_iff -> Zt, length_eq_zero_iff -> Zw, drop_zero -> Zz, all_cons -> ZC, mem_map -> ZE
open Nat renaming le_refl -> Zb, beq -> Zd, eq_of_beq_eq_true -> Ze, ble -> Zg, blt -> Zj, mul_le_mul_right -> Zk, le_trans -> Zn, le_of_ble_eq_true -> Zr, zero_mul -> Zx, add_mul -> ZA
open Bool renaming and_eq_true -> Zc, and_true -> Zu
open Option.some renaming injEq -> Zf
open Option renaming map_eq_some_iff -> Zh, getD_some -> Zv, map_some -> Zy
open Go.Pe.Le renaming refl -> Zi
open Prod.mk renaming injEq -> Zl
open Go.Pe.OK renaming pure -> Zm
open List.cons renaming injEq -> Zo
open Go.Pe renaming apart -> ZB, AO -> ZF
open Go.Det.V renaming beq -> ZD
namespace Go.Pe
open Go.Det
section
variable {B:Nat}{h0:H0}{F:Fz}{ρ:BB}{N:Nat}{C:Ctx}{st st':Ae}{fr:Fr}{h h':H}
theorem SR.O4{ob:Ob}(d:SR B h0 F ρ N ob h){o:Obj}{x:O}{b n:Nat}(L:h.get b=some x)(r:∀id o m,Af ob id=some o->ρ id≠some (b,m))(Y:F b=none)(P:h0.Nc B b)(hP:b∉h0.pin)(V:o.frozen=false)
  (W:K9 F (An ρ N<|some (b,n)) (N+1) n o x):SR B h0 F (An ρ N<|some (b,n)) (N+1) ((N,o)::ob) h:=by
 have K:Le F ρ N F (An ρ N<|some (b,n)) (N+1):=Le.new _;have a:∀j,Af ((N,o)::ob) j=if j=N then some o else Af ob j:=by
  simp only[Af,Al];grind
 refine⟨fun j oj g=>?_,fun i j oi oj c m w t g q p=>?_,d.frz,fun id c m l=>?_,fun j g=>?_,d.old,d.lt,d.le,d.fo,d.gl,fun c D=>?_⟩
 ·rw[a]at g;by_cases e:j=N
  ·grind [An]
  ·rw[w9 e]at g;obtain⟨c,m,y,q,p,E,G⟩:=d.obj j oj g;exact⟨c,m,y,by simp[An,e,q],p,E.mono K,G⟩
 ·rw[a]at t g;have key:∀k ok m,(if k=N then some o else Af ob k)=some ok->An ρ N (some (b,n)) k=some (c,m)->(k=N/\c=b)\/(k≠N/\Af ob k=some ok/\ρ k=some (c,m)/\c≠b):=by
   intro k ok m Z s;by_cases e:k=N
   ·simp_all [An]
   ·simp only[An,e,wi]at s;grind
  rcases key i oi m t q with⟨I,v⟩|⟨I,v,z,T⟩<;>rcases key j oj w g p with⟨A,u⟩|⟨A,u,J,S⟩
  ·omega
  ·omega
  ·omega
  ·exact d.inj i j oi oj c m w v u z J
 ·unfold An at l;split at l
  ·grind
  ·have:=d.own id c m l;grind
 ·rw[a]at g;by_cases e:j=N
  ·grind
  ·rw[w9 e]at g;simp[An,e,d.dead j g]
 ·obtain⟨R,M,U⟩:=d.pn c D;grind [An]
theorem GF{off:Nat}{cs:List V}(h:off<=cs.length):AR off [] cs=cs:=by
 apply List.ext_getElem?;simp_all [CU,w9]
theorem Kp{off:Nat}{vs cs:List V}(h:off+vs.length<=cs.length):AR off vs cs=cs.take off++(vs++cs.drop (off+vs.length)):=by
 apply List.ext_getElem?;intro j;rw[CU h];grind
theorem Bk.OA{s:Sh}{l new:List s.T}{cs b:List V}{a:Nat}(h:Bk F s l cs)(d:Bk F s new b)(i:a+new.length<=l.length):
  Bk F s (l.take a++(new++l.drop (a+new.length))) (AR (a*s.sz) b cs):=by
 have k:=h.1;have j:=d.1;have g:(a+new.length)*s.sz<=l.length*s.sz:=Zk _ i;rw[Kp ae];have c:=h.part (off:=0) (len:=a) a8;have e:=h.part (off:=a+new.length) (len:=l.length-(a+new.length)) a8;rw[Zx,Zz,Zz]at c;rw[Zp (by simp),Zp<|by simp_all [Nat.sub_mul]]at e;rw[j, <-ZA];exact c.append<|d.append e
def Cd:List PV->List Nat
 | .sl id _ _ _ _::_=>[id]
 |_=>[]
theorem NI{s b:Sh}{x:b.T}{c:Bool}{l:List s.T}(d:G0 st s (.dat b x)=some (c,l)):c=true:=by
 unfold G0 at d;cases b with
 |list a=>
  grind [Zh,Dg,lz]
 |nlist a=>
  grind [Zh,Dg,lz]
 |str=>
  grind [Zh,Dg,lz]
 |_=>cases d
theorem Qe(M:SR B h0 F ρ st.nx st.ob h){ts:Array TypeId}{ps:List PV}{xs:List V}(O:Ay F ρ st.nx ps xs){v:PV}(d:(Ju C.T ts ps st).To v st'):OK B h0 F ρ st h (Cd ps) (B9<|CD C.T h ts xs) v st':=by
 unfold Ju at d;split at d
 case h_2=>simp at d
 rename_i t tx p q hts htx;simp only[Ay]at O;obtain⟨x,_,rfl,O,y,_,rfl,hy,rfl⟩:=O;split at d
 case h_2=>simp at d
 rename_i e ex hu hux;have hss:Ja ex=true:=by
  cases hq:Ja ex with
  |true=>rfl
  |false=>simp_all
 rw[hss]at d;simp only[wb]at d;split at d
 case h_2=>simp at d
 rename_i i s hi hs;cases hc:(Zj 0 i.bytes&&Zj 0 i.size&&Zd i.zero.length i.size&&Zd i.size s.sz)with
 |false=>simp_all
 |true=>
  rw[hc]at d;simp only[Zc]at hc;obtain⟨⟨⟨c1,c2⟩,c3⟩,c4⟩:=hc;have e4:=Ze c4;simp only[wb]at d;split at d
  case h_2=>simp at d
  rename_i c new hel;have head:c=true->∃cs,src h i.size y new.length=some cs/\Bk F s new cs/\CD C.T h ts [x,y]=(match x with
      | .nils=>bif Zd new.length 0 then some (.nils,h)
       else bif Zg ((3*new.length+2000)*i.bytes) 562949953421312 then some (.sl h.nx 0 new.length new.length i.size,DK h e cs)else none
      | .es0=>bif Zd new.length 0 then some (.es0,h)
       else bif Zg ((3*new.length+2000)*i.bytes) 562949953421312 then some (.sl h.nx 0 new.length new.length i.size,DK h e cs)else none
      | .esl=>bif Zd new.length 0 then some (.esl,h)else none
      | .sl b off len cap o=>
       bif Zg (len+new.length) cap then(wr h b (off+len*i.size) cs).map fun h'=>(.sl b off (len+new.length) cap o,h')
       else bif Zg ((3*(len+new.length)+2000)*i.bytes) 562949953421312 then
        match src h i.size x len with
        |some old=>
         bif Zd o 0 then some (.sl h.nx 0 (len+new.length) (len+new.length) i.size,DK h e<|old++cs)
         else
          match h.get b with
          |some (.cells _ te fz)=>
           bif Zd off 0&&Zd o i.size&&Zd te e&&Zg fz.2 fz.1&&cs.all V.one then some (.sl h.nx 0 (len+new.length) (len+new.length) i.size,(h.kill b).push<|.cells (old++cs) e (0,0))
           else none
          |_=>none
        |none=>none
       else none
      |_=>none):=by
   intro hc;obtain⟨g1,E,cs,K,g4⟩:=Np M hy hel hc;rw[<-e4]at K;refine⟨cs,K,g4,?_⟩;have Y:(Zj 0 i.bytes&&Zj 0 i.size&&Zd i.zero.length i.size&&(Zd i.size 1||HP y))=true:=by
    grind
   have hint:isInt ex=false:=by cases ex<;>first|rfl|cases hss
   simp only[CD,hts,htx,hu,hux,g1,hi,hint,Y,wb,K];cases x<;>rfl
  split at d
  case h_3=>simp at d
  case h_1=>
   simp only[PR]at O;subst O;have grow:c=true->0<new.length->(3*new.length+2000)*i.bytes<=PJ->OK B h0 F ρ st h (Cd [PV.nil,q]) (B9<|CD C.T h ts [.nils,y]) (.sl st.nx s.sz 0 new.length none) (st.push<|.arr false e s new):=by
    intro k1 k2 k3;obtain⟨cs,g1,E,K⟩:=head k1;have R:Zd new.length 0=false:=by grind [Al]
    have b2:Zg ((3*new.length+2000)*i.bytes) 562949953421312=true:=Nat.ble_eq_true_of_le k3;rw[K];simp only[R,b2,wc,wb];exact OK.new M (o:=.arr false e s new) (n:=new.length) rfl ⟨_,_,rfl,E,Zb _,rfl⟩ (Hp<|.inr e4)
   have same:c=true->new.length=0->OK B h0 F ρ st h (Cd [PV.nil,q]) (B9<|CD C.T h ts [.nils,y]) .nil st:=by
    intro k1 k2;obtain⟨cs,g1,E,K⟩:=head k1;have R:Zd new.length 0=true:=by rw[k2];rfl
    rw[K];simp only[R,wb];exact⟨.nils,h,F,ρ,.inl rfl,by simp[PR],M,Zi,rfl,rfl,Zb _,(by simp)⟩
   split at d
   case h_1=>
    simp_all [G0,Dg,lz]
   case h_2=>
    have hc':c=true:=by
     exact NI hel
    by_cases hn:0<new.length
    ·rw[w4 hn]at d;cases d with
     |tt d=>
      simp_all
    ·rw[w8 hn]at d;cases d with
     |ff d=>
      simp_all
   case h_3=>
    by_cases hn:0<new.length
    ·rw[w4 hn]at d;cases d with
     |tt d=>
      simp_all
    ·rw[w8 hn]at d;cases d with
     |ff d=>
      simp_all
   simp_all
  case h_2=>
   rename_i id sz off len cap;split at d
   case h_2=>simp at d
   rename_i e' r l ho;split at d
   case h_2=>simp at d
   rename_i l' hl';obtain⟨ecast,hcast⟩:=AU hl';have es:r=s:=ae
   subst es;have:l'=l:=ae
   subst this;cases P:(Zd e e'&&Zd sz r.sz)with
   |false=>simp_all
   |true=>
    rw[P]at d;simp only[Zc]at P;have ee:=Ze P.1;have esz:=Ze P.2;subst ee;subst esz;simp only[wb]at d;split at d
    case h_2=>
     rename_i k;simp only[AK,Zc,w5]at d;obtain⟨⟨⟨k1,k2⟩,k3⟩,rfl,rfl⟩:=d;obtain⟨cs,g1,E,K⟩:=head k1;obtain⟨b,n,z,h1,h2,⟨bs,fz,rfl,h3,h4,h5⟩,h6,_⟩:=M.at ho;simp only[PR]at O;rw[K];have hone:cs.all V.one=true:=E.Ka;have hcl:cs.length=new.length*r.sz:=E.1;have hbl:=h3.1;have hle:(off+len+new.length)*r.sz<=l'.length*r.sz:=Zk _ a8;have hexp:(off+len+new.length)*r.sz=off*r.sz+len*r.sz+new.length*r.sz:=ae
     have hsp:=Bk.OA h3 E (a:=off+len) a8;have D:(l'.take (off+len)++(new++l'.drop (off+len+new.length))).length=l'.length:=by simp;omega
     rcases O.2 b n h1 with⟨_,g6,o,g5,rfl⟩|⟨e0,ek,g6,g7⟩
     ·simp only[Zv]at g6;have hw:wr h b (off*r.sz+len*i.size) cs=some (h.put b<|.cells (AR ((off+len)*r.sz) cs bs) e fz):=by
       grind [FT,ZA]
      have R:Zg (len+new.length) k=true:=(by simp_all);refine⟨.sl b (off*r.sz) (len+new.length) k o,h.put b<|.cells (AR ((off+len)*r.sz) cs bs) e fz,F,ρ,.inl ?_,?_,M.set ho h1 h2 rfl rfl (o':=.arr false e r _) ⟨_,fz,rfl,hsp,h4,D.trans h5⟩,Zi,rfl,rfl,Zb _,fun c _=>?_⟩
      ·simp only[Zv,R,wb,hw,Zy,B9]
      ·simp only[PR];refine⟨O.1,fun b' n' hb'=>.inl ?_⟩;grind
      ·rw[H.AB];by_cases e:c=b
       ·grind [Cd]
       grind
     ·cases ek;subst e0;have hn0:new.length=0:=a8
      have W:new=[]:=ae;subst W;have hcs:cs=[]:=(by grind [Zw]);subst hcs;have hlp:AR ((off+0)*r.sz) [] bs=bs:=(by grind [GF]);have U:∀c,(h.put b<|.cells (AR ((off+0)*r.sz) [] bs) e fz).get c=h.get c:=by
       intro c;rw[hlp,H.AB];grind
      have hset:=M.set ho h1 h2 rfl rfl (o':=.arr false e r _) (x':=.cells (AR ((off+0)*r.sz) [] bs) e fz) ⟨_,fz,rfl,hsp,h4,D.trans h5⟩;have J:SR B h0 F ρ st.nx (Bz st.ob id<|.arr false e r<|l'.take (off+0)++([]++l'.drop (off+0+0))) h:=
       SR.congr (st:=⟨st.n,st.fr,Bz st.ob id _,st.nx⟩) hset ae rfl
      have hpr:∀w,(w=.esl\/∃A,w=.sl b A 0 0 0/\A<=off*r.sz)->PR F ρ st.nx (.sl id r.sz off (Nat.add 0 0)<|some 0) w:=by
       grind [PR]
      rcases g7 with rfl|⟨A,rfl,hoff'⟩
      ·exact⟨.esl,h,F,ρ,.inl rfl,hpr _<|.inl rfl,J,Zi,rfl,rfl,Zb _,(by simp)⟩
      ·have hob:A<=bs.length:=by
        omega
       have hw:wr h b (A+0*i.size) []=some (h.put b<|.cells (AR (A+0*i.size) [] bs) e fz):=FT h2 a8 h4 rfl;have Z:∀c,(h.put b<|.cells (AR (A+0*i.size) [] bs) e fz).get c=h.get c:=by
        simp_all [GF]
       refine⟨.sl b A 0 0 0,h.put b<|.cells (AR (A+0*i.size) [] bs) e fz,F,ρ,.inl ?_,hpr _<|.inr ⟨A,rfl,hoff'⟩,SR.congr (st:=⟨st.n,st.fr,Bz st.ob id _,st.nx⟩) J Z rfl,Zi,rfl,rfl,Zb _,ae⟩;simp_all [Zg,B9]
    simp only[AK,Zc,w5]at d;obtain⟨⟨⟨⟨k1,k2⟩,k3⟩,k4⟩,rfl,rfl⟩:=d;subst k2;obtain⟨cs,g1,E,K⟩:=head k1;obtain⟨b,n,z,h1,h2,⟨bs,fz,rfl,h3,h4,h5⟩,h6,_⟩:=M.at ho;have hFb:=h6 rfl;simp only[PR]at O;have hB:=(M.own id b n h1).2;have hPb:b∉h0.pin:=fun hp=>(M.pn b hp).2.2 id n h1
    have hidN:=a8;obtain⟨_,_,o,g5,rfl⟩:len<=len/\0+len<=n/\∃o,(o=0\/o=r.sz)/\x=.sl b (0*r.sz) len len o:=by
     rcases O.2 b n h1 with g|⟨_,e,_⟩
     ·exact g
     grind
    have hbl:bs.length=len*i.size:=by rw[h3.1,k3,e4]
    have L:∀j oj m,Af (Cw st.ob id) j=some oj->An ρ id none j≠some (b,m):=by
     intro j oj m hj hjr;rw[Bh]at hj;split at hj
     ·cases hj
     ·rename_i hne;simp only[An,hne,wi]at hjr;exact hne<|M.inj j id oj _ b m n hj ho hjr h1
    have I:=M.del id;have S:Le F ρ st.nx F (An ρ id none) st.nx:=Le.Ei id;have hnew:Bk F r (l'++new) (bs++cs):=h3.append E;have D:(l'++new).length=len+new.length:=ae
    have hone:cs.all V.one=true:=E.Ka;rw[K];simp only;by_cases hn:new.length=0
    ·
     have W:new=[]:=ae;have hcs:cs=[]:=Zw.1 (by rw[E.1,hn,Zx]);subst hcs;have R:Zg (len+new.length) len=true:=(by simp_all);have hw:wr h b (0*r.sz+len*i.size) []=some (h.put b<|.cells (AR (0*r.sz+len*i.size) [] bs) e fz):=FT h2 ae h4 rfl;have U:∀c,(h.put b<|.cells (AR (0*r.sz+len*i.size) [] bs) e fz).get c=h.get c:=by
      simp_all [GF]
     refine⟨.sl b (0*r.sz) (len+new.length) len o,h.put b<|.cells (AR (0*r.sz+len*i.size) [] bs) e fz,F,An (An ρ id none) st.nx<|some (b,n),.inl ?_,?_,?_,S.trans<|Le.new _,rfl,rfl,Zb _,ae⟩
     ·simp only[R,wb,hw,Zy,B9]
     ·unfold PR;refine⟨Nat.lt_succ_self _,fun b' n' hb=>.inl ?_⟩;simp_all [An]
     ·refine SR.O4 (ob:=Cw st.ob id) ?_ (x:=.cells bs e fz) ae L hFb hB hPb rfl ⟨bs,fz,rfl,?_,h4,?_⟩
      ·exact SR.congr (st:=⟨st.n,st.fr,Cw st.ob id,st.nx⟩) I U rfl
      ·grind
      omega
    ·
     have R:Zg (len+new.length) len=false:=by
      cases hb:Zg (len+new.length) len with
      |false=>rfl
      |true=>have:=Zr hb;omega
     have b2:Zg ((3*(len+new.length)+2000)*i.bytes) 562949953421312=true:=Nat.ble_eq_true_of_le k4;have hsrc:src h i.size (.sl b (0*r.sz) len len o) len=some bs:=by
      show rd h b (0*r.sz) (len*i.size)=_;rw[rd_some h2 a8<|fun u hu=>h3.ok u ae];grind
     simp only[R,b2,wc,wb,hsrc];have fin:∀ {G:H},SR B h0 F (An ρ id none) st.nx (Cw st.ob id) G->G.nx=h.nx->(∀c,c≠b->G.get c=h.get c)->
       OK B h0 F ρ st h [id] (B9<|some (.sl h.nx 0 (len+new.length) (len+new.length) i.size,G.push<|.cells (bs++cs) e (0,0))) (.sl st.nx r.sz 0 (Nat.add len new.length) none) ((st.Cm id).push<|.arr false e r<|l'++new):=by
      intro G hr1 hnx hg;have hp:=hr1.push (o:=.arr false e r<|l'++new) (x:=.cells (bs++cs) e (0,0)) (n:=len+new.length) rfl ⟨_,_,rfl,hnew,Zb _,D⟩;refine⟨_,_,F,_,.inl rfl,?_,hp,S.trans<|Le.new _,rfl,rfl,by simp_all,fun c hc=>?_⟩
      ·rw[<-hnx];exact Hp<|.inr e4
      ·rw[H.AT,w9 a8];grind
     rcases g5 with rfl|rfl
     ·exact fin I rfl (fun _ _=>rfl)
     ·have b3:Zd r.sz 0=false:=by
       rw[<-e4];cases hb:Zd i.size 0 with
       |false=>rfl
       |true=>simp_all
      have b4:(Zd (0*r.sz) 0&&Zd r.sz i.size&&Zd e e&&Zg fz.2 fz.1&&cs.all V.one)=true:=by
       simp_all
      simp only[b3,wc,h2,b4,wb];exact fin (I.kill L hFb hB hPb) rfl (by simp_all)
theorem B0:∀ {s:Sh} {x:s.T} {v:V},DV F s x v->PR F ρ N (AO s x) v
 | .pair a b,x,v,h=>by obtain⟨cs,rfl,c⟩:=h.1 rfl;simp_all [AO,PR,A8]
 | .unit,x,v,h=>by obtain⟨cs,rfl,c⟩:=h.1 rfl;simp_all [DC,AO,PR]
 | .int _,x,v,h=>by have:=h.2 rfl;unfold AO PR;omega
 | .bool,x,v,h=>by have:=h.2 rfl;unfold AO PR;omega
 | .str,x,v,h=>by have:=h.2 rfl;unfold AO PR;omega
 | .list _,x,v,h=>by have:=h.2 rfl;unfold AO PR;omega
 | .nlist _,x,v,h=>by have:=h.2 rfl;unfold AO PR;omega
 | .fnv,x,v,h=>by
  have:=h.2 rfl;simp only[DC,Zo,wh]at this;subst this;unfold AO;cases (x:Option Fn)<;>simp[PR]
 | .ptr s,x,v,h=>by
  have:=h.2 rfl;grind [DC,AO,PR]
theorem Qw{s:Sh}{p:PV}{x:s.T}{v:V}(c:PR F ρ N p v)(b:Ut s p=some x):DV F s x v:=by
 unfold Ut at b;cases a:(HI p==s.Gs)with
 |false=>grind
 |true=>
  rw[a]at b;refine⟨fun e=>?_,fun e=>?_⟩
  ·rw[e]at a;cases p<;>simp only[HI]at a<;>try (cases a;done)
   obtain⟨cs,rfl,d⟩:=c;exact⟨cs,rfl,A2 d b⟩
  ·rw[e]at a;have:p.cells=[p]:=by cases p<;>first|rfl|(simp[HI]at a)
   rw[this]at b;exact A2 (by simpa using c) b
theorem OP{T:AF}{t:TypeId}{s:Sh}(h:QA T t=some s):(∃k,s=.int k/\T.und t=some (.int k))\/(s=.str/\T.und t=some .string)\/(s=.bool/\T.und t=some .bool):=by
 unfold QA at h;grind
theorem LU{T:AF}{t:TypeId}{s:Sh}(c:QA T t=some s){p:PV}{x:s.T}{v:V}(a:PR F ρ N p v)(b:RT s p=some x):DV F s x v:=by
 have:=CE a b;rcases OP c with⟨k,rfl,_⟩|⟨rfl,_⟩|⟨rfl,_⟩<;>exact⟨fun e=>(by cases e),fun _=>this⟩
theorem I4{T:AF}{t:TypeId}{s:Sh}(g:QA T t=some s){x:s.T}{v:V}(e:DV F s x v):∃d,T.und t=some d/\DM T t d v=true/\(∀es,EC T t v es=Fa T t v es 0)/\∀y u,DV F s y u->P0 T t v u=some (R9 s x y):=by
 rcases OP g with⟨k,rfl,a⟩|⟨rfl,a⟩|⟨rfl,a⟩<;>
 ·have b:=e.2 rfl;simp only[DC,Zo,wh]at b;subst b;refine⟨_,a,rfl,fun _=>rfl,fun y u c=>?_⟩;have i:=c.2 rfl;simp_all [DC,P0,R9]
theorem Hi{T:AF}{t:TypeId}{ks vs:Sh}(O:QA T t=some ks){k:ks.T}{o:V}(s:DV F ks k o):∀ {l:List (ks.T×vs.T)} {es:List (V×V×Nat)},MR F ks vs l es->∀i,∃r,Fa T t o es i=some r/\
  (match r with
   |none=>Gk ks vs k l=none/\JG ks vs k l=l/\∀x g c,DV F vs x g->MR F ks vs (Jq ks vs k x l) (es++[(o,g,c)])
   |some (j,u)=>(∃v,Gk ks vs k l=some v/\DV F vs v u)/\i<=j/\MR F ks vs (JG ks vs k l) (es.eraseIdx<|j-i)/\∀x g,DV F vs x g->MR F ks vs (Jq ks vs k x l) (LN es (j-i) o g)):=by
 intro l es D;induction D with
 |nil=>intro i;exact⟨none,rfl,rfl,rfl,fun x g c m=>.cons s m .nil⟩
 |@cons a b l E L n es q w K P=>
  intro i;obtain⟨d,_,_,_,y⟩:=I4 O s;have y:=y a E q;unfold Fa;rw[y];cases p:R9 ks k a with
  |true=>
   refine⟨some (i,L),rfl,(by grind [Gk]),Zb _,?_,fun x g m=>?_⟩
   ·simp_all [JG]
   ·simp only[Nat.sub_self,Jq,p,wb,LN,List.modify_zero_cons];exact .cons s m K
  |false=>
   obtain⟨r,J,z⟩:=P<|i+1;refine⟨r,J,?_⟩;cases r with
   |none=>
    obtain⟨M,G,A⟩:=z;refine⟨by simp_all [Gk],by simp_all [JG],fun x g c m=>?_⟩;simp only[Jq,p,wc,List.cons_append];exact .cons q w<|A x g c m
   |some I=>
    obtain⟨j,u⟩:=I;obtain⟨⟨v,M,G⟩,A,k4,k5⟩:=z;have e:j-i=(j-(i+1))+1:=a8
    refine⟨(by simp_all [Gk]),by omega,?_,fun x g m=>?_⟩
    ·rw[e];simp only[List.eraseIdx_cons_succ,JG,p,wc];exact .cons q w k4
    ·rw[e];simp only[Jq,p,wc,LN,List.modify_succ_cons];exact .cons q w<|k5 x g m
theorem Q8(b:SR B h0 F ρ st.nx st.ob h){t:TypeId}{v:PV}(a:(La C.T t st).To v st'):OK B h0 F ρ st h [] (B9<|Dz h none) v st':=by
 unfold La at a;split at a
 case h_2=>simp at a
 split at a
 case h_2=>simp at a
 rename_i ks vs d c;obtain⟨rfl,rfl⟩:=a;refine OK.new b (o:=.map ks vs []) (x:=.map [] 0) (n:=0) rfl ⟨[],0,rfl,.nil⟩ ?_;simp_all [PR,An]
theorem Nd(i:SR B h0 F ρ st.nx st.ob h){ks vs:Sh}{m:PV}{l:List (ks.T×vs.T)}{x:V}(d:PR F ρ st.nx m x)(a:Om st ks vs m=some l):∃es,entries h x=some es/\MR F ks vs l es:=by
 unfold Om at a;split at a
 ·cases a;subst d;exact⟨[],rfl,.nil⟩
 ·split at a
  case h_2=>cases a
  rename_i c j l' g;obtain⟨e,k⟩:=AU a;obtain⟨rfl,rfl⟩:=e;obtain⟨b,n,o,h1,h2,⟨es,clk,rfl,h4⟩,_⟩:=i.at g;simp_all [PR,entries]
 grind
theorem Pm{ks vs:Sh}{ok:Bool}{z:vs.T}{x:ks.T}:∀ {l:List (ks.T×vs.T)} {v:PV},(TS ks vs ok z x st l).To v st'->st=st'/\((Gk ks vs x l=none/\v=bif ok then .tup [AO vs z,.bl false]else AO vs z)\/∃w,Gk ks vs x l=some w/\v=bif ok then .tup [AO vs w,.bl true]else AO vs w)
 |[],v,d=>by
  unfold TS at d;simp only[AL]at d;exact⟨d.2,.inl ⟨rfl,d.1.symm⟩⟩
 |(a,b)::l,v,d=>by
  unfold TS at d;generalize g:R9 ks x a=c at d;cases d with
  |tt d=>
   grind [AL,Gk]
  |ff d=>
   obtain⟨e,i⟩:=Pm d;grind [Gk]
theorem Pq(b:SR B h0 F ρ st.nx st.ob h){t:TypeId}{p q:PV}{x y:V}(R:PR F ρ st.nx p x)(M:PR F ρ st.nx q y){ok:Bool}{v:PV}(a:(IU C.T t p q ok st).To v st'):OK B h0 F ρ st h [] (Av h<|BU C.T h t x y ok) v st':=by
 unfold IU at a;split at a
 case h_2=>simp at a
 rename_i Z e S;split at a
 case h_2=>simp at a
 rename_i ks vs i g O G;split at a
 case h_2=>simp at a
 rename_i k l z Y W L;cases c:(Um i.zv==vs.Gs)with
 |false=>simp_all
 |true=>
  rw[c]at a;have m:=LU g M Y;obtain⟨es,P,K⟩:=Nd b R W;obtain⟨kd,g1,g2,g3,_⟩:=I4 g m;obtain⟨r,r1,r2⟩:=Hi g m K 0;have u:DV F vs z i.zv:=by
   have E:DC F vs z i.zv.cells:=A2 (BE (F:=F) (ρ:=ρ) (N:=st.nx) i.zero) L;refine⟨fun e=>?_,fun e=>?_⟩
   ·rw[e]at c;cases d:i.zv<;>rw[d]at c<;>simp only[Um]at c<;>try (cases c;done)
    rw[d]at E;exact⟨_,rfl,E⟩
   ·rw[e]at c;have:i.zv.cells=[i.zv]:=by cases d:i.zv<;>rw[d]at c<;>first|rfl|(simp[Um]at c)
    grind
  unfold BU;simp only[S,g1,P,g2,wb,g3,r1];cases I:vs.QN with
  |true=>
   rw[I]at a;have A:=Pm a;obtain⟨U,s⟩:=A;subst U;rcases s with⟨hn,d⟩|⟨w,J,d⟩
   ·cases r with
    |none=>
     simp only[G];cases ok with
     |true=>exact Zm b rfl (by simp_all [PR,B0])
     |false=>exact Zm b rfl (by grind [B0])
    |some D=>
     grind
   ·cases r with
    |none=>grind
    |some D=>
     obtain⟨⟨v',j,o⟩,_⟩:=r2;rw[J]at j;cases j;cases ok with
     |true=>exact Zm b rfl (by simp_all [PR,B0])
     |false=>exact Zm b rfl (by rw[d];exact B0 o)
  |false=>
  rw[I]at a;obtain⟨rfl,rfl⟩:=a;cases r with
  |none=>
   obtain⟨j,_⟩:=r2;simp only[G,j,Option.getD_none,Option.isSome_none];cases ok with
   |true=>exact Zm b rfl (by simp only[wb,PR];simp_all [B0,Br])
   |false=>exact Zm b rfl (B0 u)
  |some D=>
   obtain⟨⟨v,j,o⟩,_⟩:=r2;simp only[j,Zv,Option.isSome_some];cases ok with
   |true=>exact Zm b rfl (by simp only[wb,PR];simp_all [B0,Br])
   |false=>exact Zm b rfl (B0 o)
theorem Qp(D:SR B h0 F ρ st.nx st.ob h){t:TypeId}{p q r:PV}{x y z:V}(M:PR F ρ st.nx p x)(G:PR F ρ st.nx q y)(L:PR F ρ st.nx r z){v:PV}(i:(Jg C.T t p q r st).To v st'):
  ∃id,p=.mp id/\OK B h0 F ρ st h [id] (Pb<|Dc C.T h t x y z) v st':=by
 unfold Jg at i;split at i
 case h_2=>simp at i
 rename_i P e id U;split at i
 case h_2=>simp at i
 rename_i ks d vs l j u;split at i
 case h_2=>simp at i
 rename_i k S w J I K;obtain⟨A,R⟩:=AU I;simp only[Sh.list.injEq,Sh.pair.injEq,wh]at A;subst A;simp only[AL]at i;have m:=LU j G J;have O:=Qw L K;obtain⟨b,n,o,h1,h2,⟨es,clk,rfl,h4⟩,_⟩:=D.at u;have s:=M;simp only[PR]at s;obtain⟨kd,g1,g2,g3,_⟩:=I4 j m;obtain⟨r',r1,r2⟩:=Hi j m h4 0;have fin:∀g a,MR F d vs (Jq d vs k w l) g->OK B h0 F ρ st h [id] (Pb<|some<|h.put b<|.map g a) (.tup []) (st.setObj id<|.map d vs<|Jq d vs k w l):=by
  intro g a E;refine⟨.tup [],_,F,ρ,.inr ⟨rfl,rfl⟩,by simp[PR],D.set u h1 h2 rfl rfl ⟨g,a,rfl,E⟩,Zi,rfl,rfl,Zb _,fun c _=>?_⟩;by_cases W:c=b
  ·grind
  simp_all
 unfold Dc;grind
theorem Ou(r:SR B h0 F ρ st.nx st.ob h){ts:Array TypeId}{ps:List PV}{j:List V}(z:Ay F ρ st.nx ps j){v:PV}(a:(Jd C.T ts ps st).To v st'):
  ∃id u,ps=.mp id::u/\OK B h0 F ρ st h [id] (B9<|EL C.T h ts j) v st':=by
 unfold Jd at a;split at a
 case h_2=>simp at a
 rename_i t id q w;split at a
 case h_2=>simp at a
 split at a
 case h_2=>simp at a
 rename_i ks d vs l g m;split at a
 case h_2=>simp at a
 rename_i k I D A;obtain⟨p,E⟩:=AU A;simp only[Sh.list.injEq,Sh.pair.injEq,wh]at p;subst p;simp only[AL]at a;obtain⟨x,xs',rfl,hx1,y,xs'',rfl,hy,rfl⟩:=z;have i:=LU g hy D;obtain⟨b,n,o,h1,h2,⟨es,clk,rfl,h4⟩,_⟩:=r.at m;obtain rfl:=hx1.2 b n h1;obtain⟨kd,g1,g2,g3,_⟩:=I4 g i;obtain⟨r',r1,r2⟩:=Hi g i h4 0;have fin:∀e,MR F d vs (JG d vs k l) e->OK B h0 F ρ st h [id] (B9<|some (.tup [],h.put b<|.map e clk)) (.tup []) (st.setObj id<|.map d vs<|JG d vs k l):=by
  intro e s;refine⟨.tup [],_,F,ρ,.inl rfl,by simp[PR],r.set m h1 h2 rfl rfl ⟨e,clk,rfl,s⟩,Zi,rfl,rfl,Zb _,fun c _=>?_⟩;by_cases G:c=b
  ·grind
  simp_all
 unfold EL;grind
theorem SR.same(l:SR B h0 F ρ st.nx st.ob h){id b n:Nat}{o o':Obj}{x:O}(k:st.obj id=some o)(j:ρ id=some (b,n))(e:h.get b=some x)(g:o.frozen=false)(d:o'.frozen=false)
  (i:K9 F ρ st.nx n o' x):SR B h0 F ρ st.nx (Bz st.ob id o') h:=by
 have a:∀c,h.get c=(h.put b x).get c:=by
  simp_all
 exact SR.congr (st:=⟨st.n,st.fr,Bz st.ob id o',st.nx⟩) (l.set k j e g d i) a rfl
theorem QD(r:SR B h0 F ρ st.nx st.ob h){ts:Array TypeId}{ps:List PV}{E:List V}(q:Ay F ρ st.nx ps E){v:PV}(d:(K8 C.T ts ps st).To v st'):OK B h0 F ρ st h (Cd ps) (B9<|Cq C.T h ts E) v st':=by
 unfold K8 at d;split at d
 case h_2=>simp at d
 rename_i t p A;obtain⟨x,_,rfl,q,rfl⟩:=q;split at d
 case h_2=>simp at d
 rename_i e P;split at d
 case h_3=>simp at d
 case h_1=>
  obtain⟨rfl,rfl⟩:=d;simp only[PR]at q;exact⟨.tup [],h,F,ρ,(by simp_all [Cq,B9]),by simp[PR],r,Zi,rfl,rfl,Zb _,(by simp)⟩
 rename_i id sz off len cap;split at d
 case h_2=>simp at d
 rename_i i k s l O u;cases w:(Zd sz s.sz&&Zj 0 i.zero.length&&Zd i.zero.length s.sz&&Det.E0 V.one i.zero)with
 |false=>simp_all
 |true=>
  rw[w]at d;simp only[Zc,Cc]at w;obtain⟨⟨⟨c1,R⟩,W⟩,U⟩:=w;have c1:=Ze c1;subst c1;simp only[wb]at d;split at d
  case h_2=>simp at d
  rename_i z J;simp only[AK,w5]at d;obtain⟨S,rfl,rfl⟩:=d;obtain⟨b,n,y,h1,h2,⟨bs,fz,rfl,h3,h4,h5⟩,h6,_⟩:=r.at u;have D:DC F s z i.zero:=A2 (BE (F:=F) (ρ:=ρ) (N:=st.nx) i.zero) J;have g:=Bk.replicate D len;have m:=Bk.OA h3 g (a:=off) ae;rw[List.length_replicate]at m;have j:(l.take off++(Zq len z++l.drop (off+len))).length=l.length:=ae
  have skip:Cq C.T h ts [x]=some (.tup [],h)->len=0->OK B h0 F ρ st h (Cd [.sl id s.sz off len cap]) (B9<|Cq C.T h ts [x]) (.tup []) (st.setObj id<|.arr false k s<|l.take off++(Zq len z++l.drop (off+len))):=by
   intro M h0;subst h0;have el:l.take off++(Zq 0 z++l.drop (off+0))=l:=by simp
   refine⟨.tup [],h,F,ρ,.inl (by rw[M];rfl),by simp[PR],r.same u h1 h2 rfl rfl (o':=.arr false k s _) ⟨bs,fz,rfl,?_,h4,?_⟩,Zi,rfl,rfl,Zb _,(by simp)⟩
   ·grind
   omega
  rcases q.2 b n h1 with⟨_,L,o,g5,rfl⟩|⟨Z,Y,L,rfl|⟨G,rfl,_⟩⟩
  ·by_cases h0:len=0
   ·simp_all [Cq]
   ·have I:wr h b (off*s.sz) (Ca i.zero<|len*i.zero.length)=some (h.put b<|.cells (AR (off*s.sz) ((Zq len i.zero).flatten) bs) k fz):=by
     rw[C8];refine FT h2 ?_ h4 ?_
     ·rw[g.1,List.length_replicate, <-ZA,h3.1];exact Zk _ S
     grind
    have K:Zd len 0=false:=by rw[Al];simp[h0]
    refine⟨.tup [],h.put b<|.cells (AR (off*s.sz) ((Zq len i.zero).flatten) bs) k fz,F,ρ,.inl ?_,by simp[PR],r.set u h1 h2 rfl rfl (o':=.arr false k s _) ⟨_,fz,rfl,m,h4,j.trans h5⟩,Zi,rfl,rfl,Zb _,fun c _=>?_⟩
    ·simp only[Cq,A,P,K,wc,O,R,wb,I,Zy,B9]
    ·rw[H.AB];by_cases e:c=b
     ·grind [Cd]
     grind
  ·simp_all [Cq]
  simp_all [Cq]
theorem QI(e:SR B h0 F ρ st.nx st.ob h){t:TypeId}{p:PV}{x:V}(d:PR F ρ st.nx p x){v:PV}(a:(Mc C.T t p st).To v st'):OK B h0 F ρ st h [] (B9<|C3 C.T h t x) v st':=by
 unfold Mc at a;split at a
 case h_2=>simp at a
 rename_i s b;obtain⟨rfl,rfl⟩:=a;obtain rfl:=Ci d;have c:C3 C.T h t (.str s)=some (.ptr h.nx 0,h.push<|.siter s 0):=by simp[C3,I7,b]
 rw[c];exact OK.new e (o:=.siter s 0) (n:=0) rfl rfl E9
theorem Sj(e:SR B h0 F ρ st.nx st.ob h){p:PV}{x:V}(m:PR F ρ st.nx p x){i:Bool}{v:PV}(a:(P5 p i st).To v st'):i=true/\∃id off,p=.ptr id off/\OK B h0 F ρ st h [id] (B9<|Gb h x i) v st':=by
 unfold P5 at a;split at a
 case h_2=>simp at a
 rename_i id;split at a
 case h_2=>simp at a
 rename_i s pos g;obtain⟨b,n,y,k,j,l,q,_⟩:=e.at g;subst l;obtain rfl:=m.2 b n k;refine⟨rfl,id,0,rfl,?_⟩;by_cases d:pos<s.length
 ·rw[w4 d]at a;cases a with
  |tt a=>
   obtain⟨rfl,rfl⟩:=a;have o:Gb h (.ptr b 0) true=some (.tup [.bool true,i64 pos,.int .i32<|rune s pos],h.put b<|.siter s<|pos+RV s pos):=by
    simp only[Gb,j,Dn,w4 d,wb];rfl
   refine⟨_,_,F,ρ,.inl (by rw[o];rfl),?_,e.set g k j rfl rfl (o':=.siter s _) rfl,Zi,rfl,rfl,Zb _,fun c _=>?_⟩
   ·simp[PR,DC,i64]
   ·rw[H.AB];grind
 ·rw[w8 d]at a;cases a with
  |ff a=>
   obtain⟨rfl,rfl⟩:=a;refine⟨.tup [.bool false],h,F,ρ,.inl ?_,by simp[PR],e,Zi,rfl,rfl,Zb _,(by simp)⟩;simp_all [Gb,Dn,w8,B9]
end
section
variable {B:Nat}{h0:H0}{F:Fz}{ρ:BB}{N:Nat}{C:Ctx}{st st':Ae}{h:H}
def SC:List PV->List Nat
 | .eptr id _ _ _::_=>[id]
 |_=>[]
theorem Rx(g:SR B h0 F ρ st.nx st.ob h){ps:List PV}{d:List V}(c:Ay F ρ st.nx ps d){v:PV}(a:(Ml ps st).To v st'):OK B h0 F ρ st h [] (Av h<|GC d) v st':=by
 unfold Ml at a;split at a
 case h_2=>simp at a
 rename_i id sz off len;cases e:Ds (st.obj id)with
 |false=>simp_all
 |true=>
  rw[e]at a;simp only[wb,AK,w5]at a;obtain⟨i,rfl,rfl⟩:=a;obtain⟨o,ho⟩:=LG e;obtain⟨b,n,z,g1,_⟩:=g.at ho;obtain⟨x,_,rfl,c,rfl⟩:=c;simp only[PR]at c;obtain⟨_,_,o',_,rfl⟩:len<=len/\off+len<=n/\∃o,(o=0\/o=sz)/\x=.sl b (off*sz) len len o:=by
   grind
  refine Zm g (v':=.ptr b<|off*sz) ?_ ?_
  ·have:Zj 0 len=true:=by simp_all
   simp only[GC,this,wb];rfl
  grind [PR]
theorem Qc{k:IntKind}:∀ {l:List Int} {cs:List V},Bk F (.int k) l cs->cs=l.map (V.int k):=by
 intro l cs a;have g:cs.length=l.length:=by rw[a.1];simp[Sh.sz]
 apply List.ext_getElem
 ·grind
 ·intro i b d;have c:i<l.length:=a8
  have:=a.2 i c;have e:(cs.drop<|i*Sh.sz (.int k)).take (Sh.sz<|.int k)=[cs[i]]:=by
   rw[show Sh.sz (.int k)=1 from rfl,Nat.mul_one,Zs b];rfl
  grind [DC]
theorem HD:∀ {l:List Int},IT l=true->Dh (l.map<|V.int .u8)=some (I8 l)
 |[],_=>rfl
 |x::l,h=>by
  unfold IT at h;rw[ZC,Zc,Zc,w5,w5]at h;have a:=HD (l:=l) h.2;grind [Nat.blt_eq,JI,Dh,I8]
theorem Md{l:List Int}(h:IT l=true)(n:Nat):IT (l.take n)=true:=by
 grind [IT]
theorem SH(o:SR B h0 F ρ st.nx st.ob h){ts:Array TypeId}{ps:List PV}{G:List V}(D:Ay F ρ st.nx ps G){v:PV}(a:(Qg C.T ts.toList ps st).To v st'):OK B h0 F ρ st h (SC ps) (B9<|Ks C.T h ts.toList G) v st':=by
 unfold Qg at a;split at a
 case h_2=>simp at a
 rename_i O it id sz i n A;split at a
 case h_2=>simp at a
 rename_i e t s l hu I;split at a
 case h_2=>simp at a
 rename_i J E hi r;cases R:(Zd J.size 1&&Zd e t)with
 |false=>simp_all
 |true=>
  rw[R]at a;simp only[wb,AK,Zc,w5]at a;obtain⟨⟨⟨⟨⟨U,L⟩,k3⟩,k4⟩,k5⟩,rfl,rfl⟩:=a;subst U;obtain⟨es,he⟩:=AU r;have W:s=.int .u8:=ae
  subst W;have:E=l:=ae
  subst this;obtain⟨m,rfl⟩:=Int.eq_ofNat_of_zero_le<|Int.le_of_lt L;obtain⟨b,n',z,h1,h2,⟨cs,fz,rfl,h3,h4,h5⟩,h6,_⟩:=o.at I;have w:=h6 rfl;obtain⟨x,_,rfl,D,y,_,rfl,hy,rfl⟩:=D;obtain rfl:=Bl hy;obtain rfl:=D.2 b n' h1;have M:=(o.own id b n' h1).2;have u:b∉h0.pin:=fun Y=>(o.pn b Y).2.2 id n' h1
  have d:∀j oj m,Af (Cw st.ob id) j=some oj->An ρ id none j≠some (b,m):=by
   intro j oj m q k;rw[Bh]at q;split at q
   ·cases q
   ·rename_i p;simp only[An,p,wi]at k;exact p<|o.inj j id oj _ b m n' q I k h1
  have g:=o.del id;have Z:=Qc h3;have K:cs.take m=(E.take m).map (V.int .u8):=by simp_all
  have hb:=HD<|Md k5 m;have P:Ks C.T h ts.toList [.ptr b<|0*sz+0,.int .i64 (m:Int)]=some (.str<|I8<|E.take m,h.kill b):=by
   rw[Zx];rw[A];show(match C.T.und O,h.get b with
    |some (.pointer e),some (.cells cs t fz)=>(match C.T.inf e,Dh (cs.take m)with
     |some i,some l=>bif Zd i.size 1&&Zd e t&&Zj 0 m&&Zg m cs.length&&Zg m 9223372036854775807&&Zg fz.2 fz.1 then some (V.str l,h.kill b)else none
     |_,_=>none)
    |_,_=>none)=_
   have c1:Zj 0 m=true:=by simp_all
   have c2:Zg m cs.length=true:=(by simp_all);have c3:Zg m 9223372036854775807=true:=(by simp_all);have c4:Zg fz.2 fz.1=true:=(by simp_all);grind
  rw[P];refine⟨_,_,F,An ρ id none,.inl rfl,Lj _,g.kill d w M u,Le.Ei id,rfl,rfl,Zb _,fun c _=>?_⟩;rw[H.Bp];by_cases S:c=b
  ·exact .inr ⟨id,Za.2 rfl,n',S▸h1⟩
  grind
end
section
variable {B:Nat}{h0:H0}{C:Ctx}{F F1 F':Fz}{ρ:BB}{N:Nat}{st st':Ae}{fr:Fr}{h h':H}
def PC(F:Fz)(p:PV)(v:V):Prop:=∀ρ N,PR F ρ N p v
def Gg(F:Fz)(ps:List PV)(vs:List V):Prop:=∀ρ N,Ay F ρ N ps vs
theorem Le.Nj(a:∀b cs,F b=some cs->F1 b=some cs):Le F ρ N F1 ρ N:=⟨a,(by simp),Zb _⟩
theorem PC.mono(a:∀b cs,F b=some cs->F1 b=some cs){p:PV}{v:V}(c:PC F p v):PC F1 p v:=fun ρ N=>(c ρ N).mono<|Le.Nj a
theorem Gg.cons{p:PV}{ps:List PV}{v:V}{vs:List V}(a:PC F p v)(b:Gg F ps vs):Gg F (p::ps) (v::vs):=fun ρ N=>(Ax ..).2 ⟨a ρ N,b ρ N⟩
theorem Gg.dc{s:Sh}{ps:List PV}{vs:List V}{x:s.T}(b:Gg F ps vs)(a:BI s ps=some x):DC F s x vs:=A2 (b (fun _=>none) 0) a
theorem PC.AO:∀ {s:Sh} {x:s.T} {cs:List V},DC F s x cs->(s.Gs=true->PC F (AO s x) (.agg cs))/\(s.Gs=false->∀v,cs=[v]->PC F (AO s x) v)
 | .pair a b,x,cs,h=>⟨fun _ ρ N=>by simp_all [ZF,PR,A8],fun e=>by cases e⟩
 | .unit,x,cs,h=>⟨fun _ ρ N=>by simp_all [DC,ZF,PR],fun e=>by cases e⟩
 | .int _,x,cs,h=>(by grind [ZF,PR,Sh.Gs,PC])
 | .bool,x,cs,h=>(by grind [ZF,PR,Sh.Gs,PC])
 | .str,x,cs,h=>(by grind [ZF,PR,Sh.Gs,PC])
 | .list _,x,cs,h=>(by grind [ZF,PR,Sh.Gs,PC])
 | .nlist _,x,cs,h=>(by grind [ZF,PR,Sh.Gs,PC])
 | .fnv,x,cs,h=>⟨fun e=>(by cases e),fun _ v c ρ N=>by
   subst c;simp only[DC,Zo,wh]at h;subst h;unfold ZF;cases (x:Option Fn)<;>simp[PR]⟩
 | .ptr s,x,cs,h=>(by grind [DC,ZF,PR,Sh.Gs,PC])
theorem SR.Tu{ob c:Ob}(a:SR B h0 F ρ N ob h)(d:∀j,Af c j=Af ob j):SR B h0 F ρ N c h:=
 ⟨fun id o i=>a.obj id o<|d id▸i,fun id id' o o' b n n' g k=>a.inj id id' o o' b n n' (d id▸g) ae,a.frz,a.own,fun id e=>a.dead id ae,a.old,a.lt,a.le,a.fo,a.gl,a.pn⟩
theorem SO{s:Sh}{l:List s.T}{cs:List V}{b:Nat}(g:F b=some cs)(e:Bk F s l cs){off len:Nat}(d:off+len<=l.length){cap o:Nat}(c:len<=cap)(j:o=0\/o=s.sz):
  DC F (.list s) ((l.drop off).take len) [.sl b (off*s.sz) len cap o]:=by
 have a:((l.drop off).take len).length=len:=ae
 refine⟨_,rfl,.inr ⟨b,off*s.sz,cap,o,cs,by rw[a],by omega,g,?_,j,fun i k=>?_⟩⟩
 ·rw[a,e.1, <-ZA];simp_all [Zk]
 grind [Bk]
theorem ER(st:Ae)(p:PV):(As st p).nx=st.nx/\(As st p).fr=st.fr/\(As st p).n=st.n:=by
 unfold As;split
 ·split<;>exact⟨rfl,rfl,rfl⟩
 simp
theorem Bf:∀(ps:List PV) (st:Ae),(Ak ps st).nx=st.nx/\(Ak ps st).fr=st.fr/\(Ak ps st).n=st.n
 |[],_=>⟨rfl,rfl,rfl⟩
 |p::ps,st=>by
  obtain⟨b,c,a⟩:=Bf ps<|As st p;grind [ER,Ak]
theorem DA:∀(ps a:List PV) (st:Ae),Ak (ps++a) st=Ak a (Ak ps st)
 |[],_,_=>rfl
 |p::ps,a,st=>DA ps a<|As st p
def Bw:Option Obj->Option Obj->Prop
 |some (.arr _ e s l),o=>∃fz,o=some (.arr fz e s l)
 |a,b=>b=a
theorem Bw.refl(o:Option Obj):Bw o o:=by
 cases o with
 |none=>rfl
 |some o=>cases o<;>first|rfl|exact⟨_,rfl⟩
theorem F9(st:Ae)(p:PV)(j:Nat):Bw (st.obj j) ((As st p).obj j):=by
 unfold As;split
 case h_2=>exact Bw.refl _
 split
 case h_2=>exact Bw.refl _
 rename_i id _ _ _ _ _ fz e s l b;show Bw (Af st.ob j)<|Af (Bz st.ob id<|.arr true e s l) j;rw[CS _ _ _ _<|by show(st.obj id).isSome=true;grind];split
 ·rename_i a;subst a;show Bw (st.obj j) _;rw[b];exact⟨_,rfl⟩
 ·exact Bw.refl _
theorem Qq{st st':Ae}(h:∀id,Bw (st.obj id)<|st'.obj id)(p:PV):AY st' p=AY st p:=by
 cases p<;>try rfl
 case fn f a c=>cases a<;>cases c<;>rfl
 unfold AY;rename_i id sz off len cap;have:=h id;cases b:st.obj id with
 |none=>rw[b]at this;simp only[b,show st'.obj id=none from this]
 |some o=>
  rw[b]at this;cases o with
  |arr fz e s l=>
   obtain⟨fz',d⟩:=this;grind
  |box _=>simp only[b,show st'.obj id=_ from this]
  |tbox _ _=>simp only[b,show st'.obj id=_ from this]
  |map _ _ _=>simp only[b,show st'.obj id=_ from this]
  |siter _ _=>simp only[b,show st'.obj id=_ from this]
  |lp _ _ _ _ _ _ _ _=>simp only[b,show st'.obj id=_ from this]
theorem FM{st st':Ae}(h:∀id,Bw (st.obj id)<|st'.obj id):∀ps:List PV,BM st' ps=BM st ps
 |[]=>rfl
 |p::ps=>by unfold BM;rw[Qq h p,FM h ps]
theorem Bw.trans{a b c:Option Obj}(d:Bw a b)(g:Bw b c):Bw a c:=by
 cases a with
 |none=>have:b=none:=d;grind
 |some o=>
  cases o with
  |arr fz e s l=>obtain⟨fz',rfl⟩:=d;exact g
  |box _=>have:b=_:=d;grind
  |tbox _ _=>have:b=_:=d;grind
  |map _ _ _=>have:b=_:=d;grind
  |siter _ _=>have:b=_:=d;grind
  |lp _ _ _ _ _ _ _ _=>have:b=_:=d;grind
theorem FQ:∀(ps:List PV) (st:Ae) (id:Nat),Bw (st.obj id)<|(Ak ps st).obj id
 |[],_,_=>Bw.refl _
 |p::ps,st,id=>(F9 st p id).trans<|FQ ps (As st p) id
theorem J3{st st':Ae}(h:∀id,Bw (st.obj id)<|st'.obj id)(s:Sh)(p:PV):Dp st' s p=Dp st s p:=by
 grind [Dp,FM]
theorem Fu{st st':Ae}(h:∀id,Bw (st.obj id)<|st'.obj id):∀(l:List Sh) (ps:List PV),A0 st' l ps=A0 st l ps
 |[],[]=>rfl
 |[],_::_=>rfl
 |[a],[p]=>J3 h a p
 |[a],[]=>rfl
 |[a],_::_::_=>rfl
 |a::b::l,[]=>rfl
 |a::b::l,p::ps=>by unfold A0;rw[J3 h a p,Fu h (b::l) ps]
theorem Gd(r:SR B h0 F ρ st.nx st.ob h){p:PV}{v:V}(hp:PR F ρ st.nx p v):
  ∃F1,SR B h0 F1 ρ (As st p).nx (As st p).ob h/\(∀b cs,F b=some cs->F1 b=some cs)/\∀x,AY st p=some (true,x)->PC F1 x v:=by
 have same:∀ {q:PV},(∀x,AY st q=some (true,x)->PC F x v)->As st q=st->∃F1,SR B h0 F1 ρ (As st q).nx (As st q).ob h/\(∀b cs,F b=some cs->F1 b=some cs)/\∀x,AY st q=some (true,x)->PC F1 x v:=
  fun E Z=>⟨F,by grind,fun _ _ h=>h,E⟩
 cases p with
 |sl id sz off len cap=>
  cases I:st.obj id with
  |none=>grind [AY,As]
  |some o=>
   cases o with
   |box _=>grind [AY,As]
   |tbox _ _=>grind [AY,As]
   |map _ _ _=>grind [AY,As]
   |siter _ _=>grind [AY,As]
   |lp _ _ _ _ _ _ _ _=>grind [AY,As]
   |arr fz e s l=>
    obtain⟨b,n,x,E,Z,⟨cs,fz',rfl,R,h5,h6⟩,h7,h8⟩:=r.at I;have S:As st (.sl id sz off len cap)=st.setObj id (.arr true e s l):=by simp[As,I]
    have A:∀j,Af (Bz st.ob id<|.arr true e s l) j=if j=id then some (.arr true e s l)else Af st.ob j:=(by grind [CS,Ae.obj])
    have fin:∀ {G:Fz},G b=some cs->(∀b cs,F b=some cs->G b=some cs)->∀x,AY st (.sl id sz off len cap)=some (true,x)->PC G x v:=by
     intro G hG Y x t ρ' N';simp only[AY,I]at t;cases w:Zd sz s.sz with
     |false=>grind
     |true=>
      rw[w]at t;simp only[wb,Zf,Zl,w5]at t;obtain⟨D,rfl⟩:=t;have w:=Ze w;subst w;unfold PR;rcases hp.2 b n E with⟨M,T,o,k3,rfl⟩|⟨rfl,rfl,k3,rfl|⟨K,rfl,k4⟩⟩
      ·exact SO hG (R.mono Y) D M k3
      ·simp[DC]
      ·simp only[List.take_zero,DC];refine⟨_,rfl,.inr ⟨b,K,0,0,cs,rfl,Zb _,hG,?_,.inl rfl,(by simp)⟩⟩;simp only[List.length_nil,Zx,Nat.add_zero];rw[R.1];exact Zn k4 (by simp_all [Zk])
    cases U:fz with
    |true=>
     subst U;obtain⟨cs',t',fz2,M,T⟩:=h8 rfl;refine⟨F,?_,fun _ _ h=>h,ae⟩;grind [SR.Tu,Ae.setObj,Ae.obj]
    |false=>
     have g:∀c cs',F c=some cs'->(fun c=>if c=b then some cs else F c) c=some cs':=by
      grind
     refine⟨fun c=>if c=b then some cs else F c,?_,g,ae⟩;rw[S];have D:Le F ρ st.nx (fun c=>if c=b then some cs else F c) ρ st.nx:=Le.Nj g;have z:∀k ok,Af (Bz st.ob id<|.arr true e s l) k=some ok->∃o2,Af st.ob k=some o2:=by
      intro k ok hk;by_cases ek:k=id
      ·exact⟨_,ek▸I⟩
      grind
     refine⟨fun j oj d=>?_,fun i j oi oj c m m' hi d L O=>?_,fun c cs' J=>?_,r.own,fun j d=>?_,r.old,r.lt,r.le,fun c cs' J=>?_,r.gl,r.pn⟩
     ·have d:Af (Bz st.ob id<|.arr true e s l) j=some oj:=d;rw[A]at d;by_cases P:j=id
      ·subst P;simp only[wg,Zf]at d;subst d;refine⟨b,n,_,E,Z,⟨cs,fz',rfl,R.mono g,h5,h6⟩,fun e=>(by cases e),(by simp)⟩
      ·rw[w9 P]at d;obtain⟨c,m,y,L,O,g3,g4,g5⟩:=r.obj j oj d;have hne:c≠b:=fun W=>P<|r.inj j id oj _ c m n d I L<|W▸E
       exact⟨c,m,y,L,O,g3.mono D,ae,ae⟩
     ·obtain⟨_,M⟩:=z i oi hi;obtain⟨_,T⟩:=z j oj d;exact r.inj i j _ _ c m m' M T L O
     ·split at J
      ·grind
      ·exact r.frz c cs' J
     ·have d:Af (Bz st.ob id<|.arr true e s l) j=none:=d;rw[A]at d;split at d
      ·cases d
      ·exact r.dead j d
     ·split at J
      ·rename_i W;subst W;exact .inr (r.own id c n E).2
      ·exact r.fo c cs' J
 |dat s x=>exact same (fun y u ρ' N'=>by simp only[AY,Zf,Zl,true_and]at u;grind [PR]) rfl
 |bl b=>exact same (fun y u ρ' N'=>by simp only[AY,Zf,Zl,true_and]at u;grind [PR]) rfl
 |nil=>exact same (fun y u ρ' N'=>by simp only[AY,Zf,Zl,true_and]at u;grind [PR]) rfl
 |BN s x off=>exact same (fun y u ρ' N'=>by simp only[AY,Zf,Zl,true_and]at u;grind [PR]) rfl
 |any|ub|yl _|nilp|nilm|nilf|nili|agg _|tup _|ptr _ _|eptr _ _ _ _|mp _=>exact same (fun x t=>by simp[AY]at t) rfl
 |fn f a c=>cases a with
  |cons _ _=>exact same (fun x t=>by simp[AY]at t) rfl
  |nil=>cases c with
   |cons _ _=>exact same (fun x t=>by simp[AY]at t) rfl
   |nil=>exact same (fun y u ρ' N'=>by simp only[AY,Zf,Zl,true_and]at u;grind [PR,Ay]) rfl
theorem DQ:∀ {ps:List PV} {vs:List V} {st:Ae} {F:Fz},SR B h0 F ρ st.nx st.ob h->Ay F ρ st.nx ps vs->
  ∃F1,SR B h0 F1 ρ (Ak ps st).nx (Ak ps st).ob h/\(∀b cs,F b=some cs->F1 b=some cs)/\∀e,BM st ps=some (true,e)->Gg F1 e vs
 |[],vs,st,F,i,j=>⟨F,i,fun _ _ h=>h,(by grind [BM,Gg,Ay])⟩
 |p::ps,vs,st,F,i,j=>by
  obtain⟨v,vs,rfl,s,l⟩:=j;obtain⟨F1,g1,g2,g3⟩:=Gd i s;have g:Ay F1 ρ (As st p).nx ps vs:=by rw[(ER st p).1];exact l.mono<|Le.Nj g2
  obtain⟨q,m,k,u⟩:=DQ g1 g;refine⟨q,m,ae,fun e a=>?_⟩;unfold BM at a;split at a
  case h_2=>cases a
  rename_i c x d o r t;simp only[Zf,Zl,Zc]at a;obtain⟨⟨rfl,rfl⟩,rfl⟩:=a;exact Gg.cons ((g3 x r).mono k) (by grind [FM,F9])
theorem OC(r:SR B h0 F ρ st.nx st.ob h){t:TypeId}{n:Nat}{l:List (Nat×PV)}{l':List (Nat×V)}(L:SI F ρ st.nx l l'){v:PV}(a:(Je C.T t n l st).To v st'):OK B h0 F ρ st h [] (B9<|BX C.T h t n l') v st':=by
 unfold Je at a;split at a
 case h_2=>simp at a
 rename_i e J;split at a
 case h_2=>simp at a
 rename_i i s I Z;cases q:(Zg (Nat.mul n i.size) 16777216&&Zj 0 i.zero.length&&Zd i.zero.length i.size&&Zd i.size s.sz)with
 |false=>rw[q]at a;simp at a
 |true=>
  rw[q]at a;simp only[Zc]at q;obtain⟨⟨⟨c1,K⟩,p⟩,E⟩:=q;simp only[wb]at a;split at a
  case h_2=>simp at a
  rename_i cs m;split at a
  case h_2=>
   split at a
   case h_2=>simp at a
   rename_i c cs' O;split at a
   case h_2=>simp at a
   rename_i el d;simp only[AK]at a;obtain⟨rfl,rfl,rfl⟩:=a;have M:=Ze p;have A:=Ze E;have w:Ay F ρ st.nx (GL (i.zero.map Mj) n) (Ca i.zero<|n*i.size):=by
    grind [C8,EE]
   obtain⟨j,k,u⟩:=D0 r L w m;have b:j.length=n*s.sz:=by
    rw[<-A];rw[Ft k];simp[Ca]
   obtain⟨F1,Y,U,S⟩:=DQ r u;obtain⟨D,P⟩:=D8 (S cs' O ρ st.nx) d b;have z:BX C.T h t n l'=some (.sl h.nx 0 n n 0,h.push<|.cells j e (0,0)):=by
    have g:Zg (n*i.size) 16777216=true:=c1;simp only[BX,J,I,g,K,p,Bool.and_self,wb,k,DK]
   rw[z];obtain⟨G,R,W⟩:=Bf cs st;have y:=OK.new (F:=F1) (ρ:=ρ) (st:=Ak cs st) Y (o:=.arr false e s el) (x:=.cells j e (0,0)) (n:=n) (v:=.sl (Ak cs st).nx s.sz 0 n none) (v':=.sl h.nx 0 n n 0) rfl ⟨_,_,rfl,a8,Zb _,D⟩ (Hp<|.inl rfl);obtain⟨v',h',F',ρ',q1,q2,q3,q4,q5,q6,q7,q8⟩:=y;rw[G]at q2;exact⟨v',h',F',ρ',q1,q2,q3,(by rw[G]at q4;exact(Le.Nj U).trans q4),q5.trans R,q6.trans W,q7,q8⟩
  rename_i el d;obtain⟨rfl,rfl⟩:=a;have M:=Ze p;have A:=Ze E;have w:Ay F ρ st.nx (GL (i.zero.map Mj) n) (Ca i.zero<|n*i.size):=by
   grind [C8,EE]
  obtain⟨j,k,u⟩:=D0 r L w m;have b:j.length=n*s.sz:=by
   rw[<-A];rw[Ft k];simp[Ca]
  obtain⟨D,P⟩:=D8 u d b;have z:BX C.T h t n l'=some (.sl h.nx 0 n n 0,h.push<|.cells j e (0,0)):=by
   have g:Zg (n*i.size) 16777216=true:=c1;simp only[BX,J,I,g,K,p,Bool.and_self,wb,k,DK]
  rw[z];exact OK.new r (o:=.arr false e s el) (n:=n) rfl ⟨_,_,rfl,a8,Zb _,D⟩ (Hp<|.inl rfl)
end
section
variable {B:Nat}{h0:H0}{F:Fz}{ρ:BB}{N:Nat}{C:Ctx}{st st':Ae}{fr:Fr}{h h':H}
theorem BA{x:Operand}{k:PV->PO}{v:PV}:(v1 st x k).To v st'↔∃p,H6 st x=some p/\(k p).To v st':=by
 unfold v1;cases H6 st x with
 |none=>simp
 |some p=>simp
theorem Ph(c:FP F ρ N st fr){x:Option Operand}{k:Option PV->PO}{v:PV}(a:(o1 st x k).To v st'):∃p y,KZ C fr x=some y/\K0 F ρ N p y/\(k p).To v st':=by
 cases x with
 |none=>exact⟨none,none,rfl,rfl,a⟩
 |some x=>
  obtain⟨p,b,d⟩:=BA.1 a;obtain⟨y,g1,g2⟩:=AH (C:=C) c b;exact⟨some p,some y,by simp[KZ,g1],⟨y,rfl,g2⟩,d⟩
theorem NR(d:SR B h0 F ρ st.nx st.ob h){b:Builtin}{ts:Array TypeId}{ps:List PV}{e:List V}(c:Ay F ρ st.nx ps e){v:PV}(a:(DF C.T b ts ps st).To v st'):
  OK B h0 F ρ st h (match b with| .append| .clear=>Cd ps| .unsafeString=>SC ps|_=>[]) (BZ C h b ts e) v st':=by
 unfold DF at a;split at a
 case h_8=>simp at a
 case h_7=>exact SH d c a
 case h_6=>exact Rx d c a
 case h_5=>exact QD d c a
 case h_1=>exact Ud d c a
 case h_2=>exact Qe d c a
 case h_3=>exact TV (g:=Pa) d (by grind [Pa,imax]) c a
 case h_4=>exact TV (g:=Ru) d (fun k x y=>by rfl) c a
theorem Rp(E:Rel B h0 F ρ st fr h){o:Oper}{v:PV}(e:(pop o.op C.T st).To v st'):
  ∃L,OK B h0 F ρ st h L (CM C fr h o) v st'/\∀sp K,CW sp st o.op=some K->∀i∈L,i∈K:=by
 have nil:∀ {d:Option OR} {op:Op},OK B h0 F ρ st h [] d v st'->∃L,OK B h0 F ρ st h L d v st'/\∀sp K,CW sp st op=some K->∀i∈L,i∈K:=ae;have g:∀ {x p},H6 st x=some p->∃y,ev C fr x=some y/\PR F ρ st.nx p y:=fun hp=>AH E.fp hp
 unfold pop at e;rw[A3];unfold CI;cases W:o.op<;>rw[W]at e<;>simp only[Eo,FB]at e<;>simp only
 case move x|assign x=>
  simp only[LH,IM]at e;obtain⟨G,rfl⟩:=e;obtain⟨y,D,A⟩:=g G;refine nil ?_;rw[D];exact Zm E.sr rfl A
 case pick c a b=>
  simp only[Pn,BA]at e;obtain⟨p,G,q,J,r,U,e⟩:=e;obtain⟨x,D,A⟩:=g G;obtain⟨y,g3,g4⟩:=g J;obtain⟨z,g5,g6⟩:=g U;obtain⟨t,rfl,R⟩:=S6 E.sr A g4 g6 e;grind
 case alloc t=>exact nil<|Rr E.sr e
 case box t x=>
  simp only[R2,BA]at e;obtain⟨p,G,e⟩:=e;obtain⟨y,D,A⟩:=g G;split at e
  case h_2=>simp at e
  rename_i cs V;cases Z:Det.E0 (EJ st) cs with
  |false=>simp_all
  |true=>
  rw[Z]at e;simp only[wb,AL]at e;obtain⟨rfl,rfl⟩:=e;refine nil ?_;rw[D];exact Ty E.sr A V (by rw[<-Cc];exact Z)
 case build t ps=>
  simp only[MB]at e;split at e
  case h_2=>simp at e
  rename_i l M;obtain⟨l',D,A⟩:=HA (C:=C) E.fp M;refine nil ?_;rw[D];exact QS E.sr A e
 case buildSlice t n ps=>
  simp only[J5]at e;split at e
  case h_2=>simp at e
  rename_i l M;obtain⟨l',D,A⟩:=HA (C:=C) E.fp M;refine nil ?_;rw[D];exact OC E.sr A e
 case load t x=>
  simp only[PW,BA]at e;obtain⟨p,G,e⟩:=e;obtain⟨y,D,A⟩:=g G;refine nil ?_;rw[D];exact Qr E.sr A e
 case store t x y=>
  simp only[MQ,BA]at e;obtain⟨p,G,q,J,e⟩:=e;obtain⟨a,D,A⟩:=g G;obtain⟨b,g3,g4⟩:=g J;obtain⟨id,hid,R⟩:=RA E.sr A g4 e;refine⟨[id],by grind,fun sp K O=>?_⟩;simp only[CW,G]at O;grind
 case nilCheck x=>
  simp only[HZ,BA]at e;obtain⟨p,G,e⟩:=e;obtain⟨y,D,A⟩:=g G;rw[D];split at e
  case h_4=>simp at e
  case h_1=>
   rename_i id off;cases M:Ds (st.obj id)with
   |false=>simp_all
   |true=>
    rw[M]at e;simp only[wb,AL]at e;obtain⟨rfl,rfl⟩:=e;obtain⟨b,n,k1⟩:=E.sr.live M;have I:=A;simp only[PR]at I;obtain rfl:=I.2 b n k1;exact nil<|Zm E.sr rfl A
  case h_2=>
   rename_i id sz j off;cases M:Ds (st.obj id)with
   |false=>simp_all
   |true=>
    rw[M]at e;simp only[wb,AL]at e;obtain⟨rfl,rfl⟩:=e;obtain⟨b,n,k1⟩:=E.sr.live M;have I:=A;simp only[PR]at I;obtain rfl:=I.2 b n k1;exact nil<|Zm E.sr rfl A
  case h_3=>
   simp only[AL]at e;obtain⟨rfl,rfl⟩:=e;have I:=A;simp only[PR]at I;obtain⟨b,o',cs,rfl,_⟩:=I;exact nil<|Zm E.sr rfl A
 case binOp op t x y t2=>
  simp only[R6,BA]at e;obtain⟨p,G,q,J,e⟩:=e;obtain⟨a,D,A⟩:=g G;obtain⟨b,g3,g4⟩:=g J;refine nil ?_;rw[D,g3];split at e
  case h_2=>exact TA E.sr A g4 e
  rename_i r S;simp only[AL]at e;obtain⟨rfl,rfl⟩:=e;unfold Sb at S;split at S
  case h_3=>cases S
  all_goals
   rename_i m hu;cases Y:(Mw x||Mw y)with
   |false=>grind
   |true=>
    rw[Y]at S;cases S;simp only[PR]at A g4;subst A g4;exact Zm E.sr (by simp only[Ew,QU,hu,Y,wb,Av])<|Pc _
 case unOp op t x=>
  simp only[TZ,BA]at e;obtain⟨p,G,e⟩:=e;obtain⟨y,D,A⟩:=g G;refine nil ?_;rw[D];exact UF E.sr A e
 case convert s d x=>
  simp only[Pk,BA]at e;obtain⟨p,G,e⟩:=e;obtain⟨y,D,A⟩:=g G;refine nil ?_;rw[D];exact Td E.sr A e
 case makeFunc f a b=>
  simp only[P6]at e;split at e
  case h_2=>simp at e
  rename_i x y hx hy;simp only[AL]at e;obtain⟨rfl,rfl⟩:=e;obtain⟨u,D,A⟩:=B4 (C:=C) E.fp hx;obtain⟨w,g3,g4⟩:=B4 (C:=C) E.fp hy;refine nil ?_;rw[D,g3];exact Zm E.sr rfl (by unfold PR;grind)
 case makeMap t r=>
  simp only[MD]at e;split at e
  case h_2=>simp at e
  refine nil ?_;exact Q8 E.sr e
 case lookup t x i ok=>
  simp only[J4,BA]at e;obtain⟨p,G,q,J,e⟩:=e;obtain⟨a,D,A⟩:=g G;obtain⟨b,g3,g4⟩:=g J;refine nil ?_;rw[D,g3];exact Pq E.sr A g4 e
 case mapUpdate t m k x|insert t m k x=>
  simp only[Hv,BA]at e;obtain⟨p,G,q,J,r,U,e⟩:=e;obtain⟨a,D,A⟩:=g G;obtain⟨b,g3,g4⟩:=g J;obtain⟨c,g5,g6⟩:=g U;obtain⟨id,rfl,R⟩:=Qp E.sr A g4 g6 e;grind [CW]
 case makeSlice t l c=>
  simp only[PH,BA]at e;obtain⟨p,G,q,J,e⟩:=e;obtain⟨a,D,A⟩:=g G;obtain⟨b,g3,g4⟩:=g J;refine nil ?_;rw[D,g3];exact S1 E.sr A g4 e
 case slice t x lo hi mx=>
  simp only[MM,BA]at e;obtain⟨p,G,e⟩:=e;obtain⟨a,D,A⟩:=g G;obtain⟨l,l',k1,k2,e⟩:=Ph (C:=C) E.fp e;obtain⟨m,m',k3,k4,e⟩:=Ph (C:=C) E.fp e;obtain⟨n,n',k5,k6,e⟩:=Ph (C:=C) E.fp e;refine nil ?_;rw[D,k1,k3,k5];exact QE E.sr A k2 k4 k6 e
 case fieldAddr t x f=>
  simp only[MA,BA]at e;obtain⟨p,G,e⟩:=e;obtain⟨y,D,A⟩:=g G;refine nil ?_;rw[D];exact QO E.sr A e
 case field t x f=>
  simp only[Ms,BA]at e;obtain⟨p,G,e⟩:=e;obtain⟨y,D,A⟩:=g G;refine nil ?_;rw[D];exact Ro E.sr A e
 case indexAddr t x i=>
  simp only[MP,BA]at e;obtain⟨p,G,q,J,e⟩:=e;obtain⟨a,D,A⟩:=g G;obtain⟨b,g3,g4⟩:=g J;refine nil ?_;rw[D,g3];exact Rb E.sr A g4 e
 case index t x i=>
  simp only[M5,BA]at e;obtain⟨p,G,q,J,e⟩:=e;obtain⟨a,D,A⟩:=g G;obtain⟨b,g3,g4⟩:=g J;refine nil ?_;rw[D,g3];exact QZ E.sr A g4 e
 case extract x i=>
  simp only[Ij,BA]at e;obtain⟨p,G,e⟩:=e;obtain⟨y,D,A⟩:=g G;refine nil ?_;rw[D];exact NY E.sr A e
 case range t x=>
  simp only[M8,BA]at e;obtain⟨p,G,e⟩:=e;obtain⟨y,D,A⟩:=g G;refine nil ?_;rw[D];exact QI E.sr A e
 case next x i=>
  simp only[PS,BA]at e;obtain⟨p,G,e⟩:=e;obtain⟨y,D,A⟩:=g G;obtain⟨rfl,id,off,rfl,R⟩:=Sj E.sr A e;grind [CW]
 case call c=>
  simp only[JA]at e;split at e
  case h_1=>simp at e
  rename_i args P;obtain⟨args',D,A⟩:=B4 (C:=C) E.fp P;split at e
  case h_2=>simp at e
  case h_1=>
   rename_i b hb;split at e
   case h_1=>
    obtain⟨id,qs,rfl,R⟩:=Ou E.sr A e;refine⟨[id],by rw[hb,D];exact R,fun sp K O=>?_⟩;grind [CW]
   case h_2=>
   have:=NR E.sr A e;grind [CW,Cd,SC]
end
section
variable {B:Nat}{h0:H0}{F:Fz}{ρ:BB}{N:Nat}{X:AG}{st st':Ae}{fr:Fr}{h h':H}{Q:PV->Ob->Prop}{n:Nat}
@[simp] theorem Bd(st:Ae)(t:Nat)(p:PV)(s:Nat):(st.set t p).get s=if s=t then p else st.get s:=by
 unfold Ae.get Ae.set;grind [PM.Bd]
theorem Rel.set(a:Rel B h0 F ρ st fr h){t:Nat}{p:PV}{x:V}(b:PR F ρ st.nx p x):Rel B h0 F ρ (st.set t p) ⟨fr.n,fr.m.set t<|some x⟩ h:=by
 refine⟨⟨a.fp.n,fun s=>?_⟩,a.sr⟩;rw[Bd];unfold Fr.get;simp only[PM.Bd];split
 ·exact b
 ·exact a.fp.slot s
theorem Rel.note(a:Rel B h0 F ρ st fr h){t:Nat}{p:PV}(b:PR F ρ st.nx p (fr.get t)):Rel B h0 F ρ (st.set t p) fr h:=by
 refine⟨⟨a.fp.n,fun s=>?_⟩,a.sr⟩;rw[Bd];split
 ·rename_i e;subst e;exact b
 ·exact a.fp.slot s
theorem Rel.put(b:Rel B h0 F ρ st fr h){d:Option Nat}{p:PV}{x:V}(e:PR F ρ st.nx p x)(a:st.put d p=some st'):∃fr',fr.put d x=some fr'/\Rel B h0 F ρ st' fr' h/\st'.nx=st.nx/\st'.ob=st.ob:=by
 unfold Ae.put at a;unfold Fr.put;cases d with
 |none=>grind
 |some t=>
  simp only at a ⊢;have g:st.n=fr.n:=b.fp.n;rw[g]at a;cases c:Zj t fr.n with
  |false=>grind
  |true=>
   rw[c]at a;simp only[wb,Zf]at a;subst a;exact⟨_,rfl,b.set e,rfl,rfl⟩
structure Bb(B:Nat)(h0:H0)(F:Fz)(ρ:BB)(N:Nat)(h:H)(st':Ae)(fr':Fr)(h':H)(F':Fz)(ρ':BB):Prop where
 rel:Rel B h0 F' ρ' st' fr' h'
 le:Le F ρ N F' ρ' st'.nx
 nx:h.nx<=h'.nx
theorem Bb.refl(a:Rel B h0 F ρ st fr h):Bb B h0 F ρ st.nx h st fr h F ρ:=⟨a,Zi,Zb _⟩
theorem Bb.trans{F' i:Fz}{ρ' d:BB}{c:Ae}{fr' e:Fr}{g:H}(a:Bb B h0 F ρ N h st' fr' h' F' ρ')(b:Bb B h0 F' ρ' st'.nx h' c e g i d):Bb B h0 F ρ N h c e g i d:=
 ⟨b.rel,a.le.trans b.le,Zn a.nx b.nx⟩
def TU(X:AG)(ρ:BB)(h:H)(args':List V):SK->Cl->Prop
 | .fn g,c=>c=.fn g args'/\X.C.prim g=none/\∃i,X.C.fn g=some i
 | .rnd id,c=>∃b n ls,ρ id=some (b,n)/\h.get b=some (.loop ls)/\args'.length=ls.ps.size/\c=.rnd b ls (CP ls.ps.toList args' ls.fr)
inductive Gc (X:AG) (ρ:BB) (h:H) (args':List V):SK->List (V×H)->Prop where
 |Aj {g:SK} {c:Cl} {l:List (V×H)} {M:Nat}:TU X ρ h args' g c->(∀m,M<=m->Det.Aj X.C m c h=some l)->Gc X ρ h args' g l
 |prim {g:FuncId} {q:List V->H->Option (V×H)} {x:V×H}:X.C.prim g=some q->q args' h=some x->Gc X ρ h args' (.fn g) [x]
def B8(B:Nat)(h0:H0)(X:AG)(nd:Bool)(call:Cu):Prop:=
 ∀ {Q:PV->Ob->Prop} {n:Nat} {g:SK} {args:List PV} {st:Ae} {k:PV->Ae->Tr},Ev X Q n (call g args st k)->∀ {F:Fz} {ρ:BB} {fr:Fr} {h:H} {args':List V},Rel B h0 F ρ st fr h->Ay F ρ st.nx args args'->
  ∃l,Gc X ρ h args' g l/\(nd=false->∃x,l=[x])/\
   ∀x∈l,∃n',n'<=n/\∃r st',Ev X Q n' (k r st')/\∃F' ρ',PR F' ρ' st'.nx r x.1/\Bb B h0 F ρ st.nx h st' fr x.2 F' ρ'/\(∀a,g=.fn a->∀sp,X.sp a=some sp->∀b,b<h.nx->x.2.get b=h.get b)
theorem Ev.BV{c:Bool}{a b:Tr}(d:Ev X Q n (.ite c a b)):(c=true/\Ev X Q n a)\/(c=false/\Ev X Q n b):=by
 cases d with
 |ite e g=>
  grind
theorem Ev.JP{a b:Tr}(c:Ev X Q n (.both a b)):Ev X Q n a/\Ev X Q n b:=by
 cases c with
 |both d e=>grind
theorem Ev.Ad:¬Ev X Q n .fail:=fun h=>by cases h
theorem Ev.MX{v:PV}{ob:Ob}(a:Ev X Q n (.leaf v ob)):Q v ob:=by
 cases a with
 |leaf h=>exact h
theorem F7(m:Rel B h0 F ρ st fr h){ops:Array Oper}{o:Oper}{yes no:Ae->Tr}(a:Ev X Q n (guarded ops o st yes no)):
  ∃i,Rel B h0 F ρ i fr h/\i.nx=st.nx/\i.ob=st.ob/\((Ai fr ops o=true/\Ev X Q n (yes i))\/(Ai fr ops o=false/\Ev X Q n (no i))):=by
 unfold guarded at a;unfold Ai;cases r:o.guard with
 |none=>grind
 |some v=>
  obtain⟨j,g⟩:=v;rw[r]at a;simp only at a ⊢;cases s:(ops[j]?).bind (·.dst)with
  |none=>grind [Ev.Ad]
  |some t=>
   rw[s]at a;simp only at a ⊢;rw[show st.n=fr.n from m.fp.n]at a;cases p:Zj t fr.n with
   |false=>grind [Ev.Ad]
   |true=>
    rw[p]at a;have k:=m.fp.slot t;split at a
    case h_1=>
     rename_i b e;rw[e]at k;rw[Hm k];grind
    case h_2=>
     rename_i b e;rw[e]at k;have q:=EZ k;have note:∀c:Bool,b=c->Rel B h0 F ρ (st.set t<|.bl c) fr h:=by
      rintro c rfl;exact m.note (by rw[q];rfl)
     cases g with
     |true=>
      rcases a.BV with⟨d,a⟩|⟨d,a⟩
      ·exact⟨_,note true d,rfl,rfl,ae⟩
      ·exact⟨_,note false d,rfl,rfl,ae⟩
     |false=>
      rcases a.BV with⟨d,a⟩|⟨d,a⟩
      ·exact⟨_,note true d,rfl,rfl,ae⟩
      ·exact⟨_,note false d,rfl,rfl,ae⟩
    case h_5=>grind [Ev.Ad]
    case h_4=>
     rename_i e;rw[e]at k;obtain⟨b,q⟩:=k;have note:∀c:Bool,b=c->Rel B h0 F ρ (st.set t<|.bl c) fr h:=by
      rintro c rfl;exact m.note (by rw[q];rfl)
     obtain⟨w,u⟩:=a.JP;cases b with
     |true=>
      cases g with
      |true=>exact⟨_,note true rfl,rfl,rfl,ae⟩
      |false=>exact⟨_,note true rfl,rfl,rfl,ae⟩
     |false=>
      cases g with
      |true=>exact⟨_,note false rfl,rfl,rfl,ae⟩
      |false=>exact⟨_,note false rfl,rfl,rfl,ae⟩
    case h_3=>
     rename_i l e;rw[e]at k;simp only[PR]at k;grind
theorem D1{d:Option Nat}{k:Ae->Tr}:∀ {m:PO},Ev X Q n (IL d k m)->∃u s i,m.To u s/\s.put d u=some i/\Ev X Q n (k i)
 | .bad,e=>wd e Ev.Ad
 | .val u s,e=>by
  simp only[IL]at e;split at e
  ·rename_i s1 o;exact⟨u,s,s1,.val,o,e⟩
  grind [Ev.Ad]
 | .ite c a b,e=>by
  rcases e.BV with⟨rfl,g⟩|⟨rfl,g⟩
  ·obtain⟨u,s,s1,j,l⟩:=D1 g;exact⟨u,s,s1,.tt j,l⟩
  ·obtain⟨u,s,s1,j,l⟩:=D1 g;exact⟨u,s,s1,.ff j,l⟩
inductive QH (X:AG) (fr:Fr) (h:H) (o:Oper):List (V×H)->Prop where
 |val {x:V} {h':H}:CM X.C fr h o=some (.val x h')->QH X fr h o [(x,h')]
 |skip {h':H}:CM X.C fr h o=some (.skip h')->QH X fr h o [(.tup [],h')]
 |alts {l:List (V×H)}:CM X.C fr h o=some (.alts l)->QH X fr h o l
 |call {g:FuncId} {args:List V} {l:List (V×H)} {M:Nat}:CM X.C fr h o=some (.enter g args)->(∀m,M<=m->Aj X.C m (.fn g args) h=some l)->QH X fr h o l
 |round {b:Nat} {ls:LS} {f:Fr} {l:List (V×H)} {M:Nat}:CM X.C fr h o=some (.round b ls f)->(∀m,M<=m->Aj X.C m (.rnd b ls f) h=some l)->QH X fr h o l
theorem C5{nd:Bool}{call:Cu}(j:B8 B h0 X nd call)(D:Rel B h0 F ρ st fr h){o:Oper}{k:Ae->Tr}(L:Ev X Q n (De X.C.T call o st k)):
  ∃l,QH X fr h o l/\((nd=false->(∃x,l=[x])/\∀l',CM X.C fr h o≠some (.alts l'))/\((∀id a,FE st o.op≠ .yes (.rnd id) a)->∀b ls f,CM X.C fr h o≠some (.round b ls f)))/\∀x∈l,∃n',n'<=n/\∃d,Ev X Q n' (k d)/\∃F' ρ' fr',fr.put o.dst x.1=some fr'/\Bb B h0 F ρ st.nx h d fr' x.2 F' ρ'/\
   ∀z,CW X.sp st o.op=some z->∀b,b<h.nx->x.2.get b=h.get b\/∃id∈z,∃m,ρ id=some (b,m):=by
 unfold De at L;split at L
 case h_2=>grind [Ev.Ad]
 case h_1=>
  rename_i g args p;unfold FE at p;split at p
  case h_2=>cases p
  rename_i c hop;split at p
  case h_2=>cases p
  rename_i f P;split at p
  case h_3=>cases p
  case h_2=>
   rename_i id ps S G;cases p;obtain⟨fv,f1,R⟩:=AH (C:=X.C) D.fp S;obtain⟨av,a1,a2⟩:=B4 (C:=X.C) D.fp G;simp only[PR]at R;obtain⟨l,hcd,hnd,hall⟩:=j L D a2;obtain⟨hcd1,Z⟩:=hcd;obtain⟨b,m,ls,c1,c2,c3,rfl⟩:=hcd1;have e:CM X.C fr h o=some (.round b ls<|CP ls.ps.toList av ls.fr):=by
    simp_all [A3,CI,Dk]
   refine⟨l,.round e Z,⟨ae,fun hno=>?_⟩,fun x J=>?_⟩
   ·grind [FE]
   obtain⟨n',hn,r,st',w,F',ρ',hp,I,U⟩:=hall x J;split at w
   case h_2=>grind [Ev.Ad]
   rename_i d v;obtain⟨fr',A,K,O,V⟩:=I.rel.put hp v;refine⟨n',hn,d,w,F',ρ',fr',A,⟨K,by rw[O];exact I.le,I.nx⟩,fun z y b hb=>?_⟩;grind [CW]
  rename_i g' first cap ps S G
  cases p;obtain⟨fv,f1,R⟩:=AH (C:=X.C) D.fp S;obtain⟨av,a1,a2⟩:=B4 (C:=X.C) D.fp G;simp only[PR]at R;obtain⟨fa,fb,rfl,f3,f4⟩:=R;have E:Ay F ρ st.nx (first++ps++cap) (fa++av++fb):=(f3.append a2).append f4;obtain⟨l,hcd,hnd,hall⟩:=j L D E;have M:QH X fr h o l/\(∀l',CM X.C fr h o≠some (.alts l'))/\∀b ls f,CM X.C fr h o≠some (.round b ls f):=by
   cases hcd with
   |Aj p Z=>
    obtain⟨rfl,W,i,hfn⟩:=p;have e:CM X.C fr h o=some (.enter g'<|fa++av++fb):=by
     simp_all [A3,CI,Dk]
    exact⟨.call e Z,ae,ae⟩
   |prim hq J=>
    rename_i q x;have e:CM X.C fr h o=some (.val x.1 x.2):=by
     grind [A3,CI,Dk,B9]
    exact⟨.val e,ae,ae⟩
  refine⟨l,M.1,ae,fun x J=>?_⟩;obtain⟨n',hn,r,st',w,F',ρ',hp,I,U⟩:=hall x J;split at w
  case h_2=>grind [Ev.Ad]
  rename_i d v;obtain⟨fr',A,K,O,V⟩:=I.rel.put hp v;refine⟨n',hn,d,w,F',ρ',fr',A,⟨K,by rw[O];exact I.le,I.nx⟩,fun z y b hb=>?_⟩;simp only[hop,CW,P,S]at y;grind
 case h_3=>
  obtain⟨u,s,d,h1,h2,h3⟩:=D1 L;obtain⟨tch,⟨v',h',F',ρ',A,K,O,V,g5,g6,g7,g8⟩,htch⟩:=Rp (C:=X.C) D h1;have Y:Rel B h0 F' ρ' s fr h':=⟨⟨by rw[g6];exact D.fp.n,fun t=>by
   have:s.get t=st.get t:=by unfold Ae.get;rw[g5]
   rw[this];exact(D.fp.slot t).mono V⟩,O⟩
  obtain⟨fr',k1,k2,k3,k4⟩:=Y.put K h2;refine⟨[(v',h')],?_,ae,fun x J=>?_⟩
  ·rcases A with A|⟨A,rfl⟩
   ·exact .val A
   ·exact .skip A
  ·cases Za.1 J;refine⟨n,Zb _,d,h3,F',ρ',fr',k1,⟨k2,by grind,g7⟩,fun z y b hb=>?_⟩;grind
theorem Sv{α a:Type}{f:α->Option (List a)}{x:α}:bl [x] f=f x:=by
 grind [bl]
theorem D2{α d:Type}{f:Nat->Nat->α->Option (List d)}{P:d->Prop}{nd:Bool}{l:List α}(c:nd=false->∃x,l=[x])(h:∀a∈l,∃r M,(∀m,M<=m->∀q,M<=q->f m q a=some r)/\(nd=false->∃x,r=[x])/\∀y∈r,P y):
  ∃r M,(∀m,M<=m->∀q,M<=q->bl l (f m q)=some r)/\(nd=false->∃x,r=[x])/\∀y∈r,P y:=by
 cases nd with
 |false=>
  obtain⟨x,rfl⟩:=c rfl;simp_all [Sv]
 |true=>
  clear c;suffices hs:∃r M,(∀m,M<=m->∀q,M<=q->bl l (f m q)=some r)/\∀y∈r,P y by
   simp_all
  induction l with
  |nil=>exact⟨[],0,fun _ _ _ _=>rfl,(by simp)⟩
  |cons a l g=>
   obtain⟨r,M,o,_,e⟩:=h a (by simp);obtain⟨r2,M2,h3,h4⟩:=g (by simp_all);cases l with
   |nil=>exact⟨r,M,(by grind [bl]),e⟩
   |cons b l=>
    refine⟨r++r2,max M M2,fun m i q k=>?_,fun y j=>?_⟩
    ·grind [bl]
    grind
theorem G4{d:Option Nat}{P:Fr×H->Prop}:∀ {l:List (V×H)},(∀x∈l,∃fr',fr.put d x.1=some fr'/\P (fr',x.2))->∃r,Dd fr d l=some r/\(∀y∈r,P y)/\((∃x,l=[x])->∃y,r=[y])
 |[],_=>⟨[],rfl,(by simp),(by simp)⟩
 |x::l,h=>by
  obtain⟨fr',c,e⟩:=h x (by simp);obtain⟨r,h3,h4,_⟩:=G4 (l:=l) (fun y b=>h y ae);refine⟨(fr',x.2)::r,?_,fun y b=>?_,fun⟨z,a⟩=>?_⟩
  ·grind [Dd]
  ·grind
  ·cases a;cases h3;simp
theorem QH.UJ{l:List (V×H)}{o:Oper}{ops:Array Oper}(a:QH X fr h o l)(p:Ai fr ops o=true){P:Fr×H->Prop}(e:∀x∈l,∃fr',fr.put o.dst x.1=some fr'/\P (fr',x.2)):
  ∃r M,(∀m,M<=m->CC X.C (Aj X.C m) ops o fr h=some r)/\((∃x,l=[x])->∃y,r=[y])/\∀y∈r,P y:=by
 obtain⟨r,q,c,d⟩:=G4 e;cases a with
 |@val x h' a=>
  obtain⟨fr',j,i⟩:=e _<|Za.2 rfl;exact⟨[(fr',h')],0,(by simp_all [CC,Du]),(by simp),ae⟩
 |@skip h' a=>
  obtain⟨fr',j,i⟩:=e _<|Za.2 rfl;exact⟨[(fr',h')],0,(by simp_all [CC,Du]),(by simp),ae⟩
 |alts a=>exact⟨r,0,(by simp_all [CC,Du]),d,c⟩
 |@call g args l M a k=>exact⟨r,M,(by simp_all [CC,Du]),d,c⟩
 |@round b ls f l M a k=>exact⟨r,M,(by simp_all [CC,Du]),d,c⟩
theorem Oa{T:AF}{h:H}{s d:TypeId}{b off:Nat}:Cn T h s d (.ptr b off)=none:=by
 simp_all [Cn]
theorem OO(k:Rel B h0 F ρ st fr h){o:Oper}{v:PV}(a:SP X.C.T st o.op=some v):OK B h0 F ρ st h [] (Du X.C fr h o) v st:=by
 have fin:∀ {s d:TypeId} {x:Operand} {b off:Nat} {u:V},o.op=.convert s d x->ev X.C fr x=some (.ptr b off)->BN X.C.T h s d (.ptr b off)=some u->PR F ρ st.nx v u->OK B h0 F ρ st h [] (Du X.C fr h o) v st:=by
  intro s d x b off u c j g E;have r:CM X.C fr h o=none:=by
   rw[A3];unfold CI;rw[c];simp only[j,Oa];rfl
  refine Zm k.sr (v':=u) ?_ E;grind [Du]
 unfold SP at a;split at a
 case h_2=>cases a
 rename_i s d x c;split at a
 case h_3=>cases a
 case h_1=>
  rename_i t id off A w p;split at a
  case h_2=>cases a
  rename_i i tb cs D q;cases l:(Zj 0 i.size&&Zj off (Det.B1 cs))with
  |false=>grind
  |true=>
   rw[l]at a;cases a;obtain⟨y,j,g⟩:=AH (C:=X.C) k.fp p;obtain⟨b,n,z,k1,k2,⟨bs,fz,rfl,k4,_⟩,_⟩:=k.sr.at q;have m:=g;obtain rfl:=m.2 b n k1;refine fin c j ?_ g;unfold BN;rw[A9,k4.len]at l;grind
 case h_2=>
  rename_i u id off A w p;split at a
  case h_2=>cases a
  rename_i i e cs D q;cases l:(Zj 0 i.size&&Zg i.size (Det.B1 cs)&&Zd e u&&Zd off 0)with
  |false=>grind
  |true=>
   rw[l]at a;cases a;obtain⟨y,j,g⟩:=AH (C:=X.C) k.fp p;obtain⟨b,n,z,k1,k2,⟨bs,fz,rfl,k4,_⟩,_⟩:=k.sr.at q;have m:=g;obtain rfl:=m.2 b n k1;have h0:off=0:=by
    simp_all
   subst h0;refine fin c j (u:=.ptr b 0) ?_ g;unfold BN;rw[A9,k4.len]at l;grind
theorem J7(m:Rel B h0 F ρ st fr h){o:Oper}{v:PV}{c:Ae}(a:I3 X.C.T st o.op=some (v,c)):OK B h0 F ρ st h [] (Du X.C fr h o) v c:=by
 unfold I3 at a;split at a
 case h_2=>cases a
 rename_i s d x i;split at a
 case h_2=>cases a
 rename_i e l u r g;split at a
 case h_2=>cases a
 cases a;obtain⟨y,q,p⟩:=AH (C:=X.C) m.fp g;obtain rfl:=Ci p;have k:CM X.C fr h o=none:=by
  rw[A3];unfold CI;rw[i];simp only[q,Cn,u,r];rfl
 have g:Du X.C fr h o=B9 (some (.sl h.nx 0 l.length l.length 1,h.push<|.cells (l.map fun b=>.int .u8<|.ofNat b.toNat) e (0,0))):=by
  simp_all [BN,Du,I6]
 rw[g];refine OK.new m.sr (o:=.arr false e (.int .u8)<|l.map fun b=>(b.toNat:Int)) (n:=l.length) rfl ⟨l.map fun b=>V.int .u8<|.ofNat b.toNat,(0,0),rfl,⟨by simp[Sh.sz],fun j w=>?_⟩,Zb _,by simp⟩ ?_
 ·have t:j<l.length:=ae
  have z:((l.map fun b=>V.int .u8<|.ofNat b.toNat).drop<|j*1).take 1=[V.int .u8<|.ofNat (l[j]).toNat]:=by
   simp_all [Zs]
  grind [DC,Sh.sz]
 simp_all [PR,An]
theorem K3(c:Rel B h0 F ρ st fr h){o:Oper}{v:PV}{a:Ae}(b:LP X.C.T st o.op=some (v,a)):OK B h0 F ρ st h [] (Du X.C fr h o) v a:=by
 grind [LP,J7,OO]
theorem JU{nd:Bool}{call:Cu}(e:B8 B h0 X nd call){ops:Array Oper}:∀ {l:List Oper} {n:Nat} {st:Ae} {F:Fz} {ρ:BB} {fr:Fr} {h:H} {k:Ae->Tr},Rel B h0 F ρ st fr h->Ev X Q n (prun X.C.T call ops l st k)->
  ∃r M,(∀m,M<=m->Jy X.C (Aj X.C m) ops l fr h=some r)/\(nd=false->∃x,r=[x])/\∀x∈r,∃n',n'<=n/\∃a,Ev X Q n' (k a)/\∃F' ρ',Bb B h0 F ρ st.nx h a x.1 x.2 F' ρ'
 |[],n,st,F,ρ,fr,h,k,Y,d=>⟨[(fr,h)],0,fun _ _=>rfl,(by simp),fun x hx=>by cases Za.1 hx;exact⟨n,Zb _,st,d,F,ρ,Bb.refl Y⟩⟩
 |o::c,n,st,F,ρ,fr,h,k,Y,d=>by
  unfold prun at d;obtain⟨a,i,e1,e2,s⟩:=F7 Y d;have fin:∀ {l:List (Fr×H)},(∃M,∀m,M<=m->CC X.C (Aj X.C m) ops o fr h=some l)->(nd=false->∃x,l=[x])->
    (∀y∈l,∃n',n'<=n/\∃b,Ev X Q n' (prun X.C.T call ops c b k)/\∃F' ρ',Bb B h0 F ρ st.nx h b y.1 y.2 F' ρ')->
    ∃r M,(∀m,M<=m->Jy X.C (Aj X.C m) ops (o::c) fr h=some r)/\(nd=false->∃x,r=[x])/\∀x∈r,∃n',n'<=n/\∃a,Ev X Q n' (k a)/\∃F' ρ',Bb B h0 F ρ st.nx h a x.1 x.2 F' ρ':=by
   rintro l ⟨M1,S⟩ G hl;obtain⟨r,M,J,D,K⟩:=D2 (f:=fun m _ (x:Fr×H)=>Jy X.C (Aj X.C m) ops c x.1 x.2) (P:=fun x=>∃n',n'<=n/\∃a,Ev X Q n' (k a)/\∃F' ρ',Bb B h0 F ρ st.nx h a x.1 x.2 F' ρ') G fun y w=>by
    obtain⟨n1,hn1,b,R,F1,ρ1,j⟩:=hl y w;obtain⟨r,M,J,K,D⟩:=JU e j.rel R;refine⟨r,M,ae,K,fun z hz=>?_⟩;obtain⟨n2,hn2,st3,he3,F2,ρ2,hwent2⟩:=D z hz;exact⟨n2,a8,st3,he3,F2,ρ2,j.trans hwent2⟩
   refine⟨r,max M M1,fun m hm=>?_,D,K⟩;simp only[Jy,S m a8];exact J m a8 m a8
  rcases s with⟨E,d⟩|⟨E,d⟩
  ·unfold Sc at d;split at d
   case h_1=>
    rename_i v q hb;split at d
    case h_2=>grind [Ev.Ad]
    rename_i b g;obtain⟨v',h',F',ρ',p,I,V,Z,g5,g6,g7,g8⟩:=K3 i hb;have U:Rel B h0 F' ρ' q fr h':=⟨⟨by rw[g6];exact i.fp.n,fun t=>by
     have:q.get t=a.get t:=by unfold Ae.get;rw[g5]
     rw[this];exact(i.fp.slot t).mono Z⟩,V⟩
    have W:∃u,PR F' ρ' q.nx v u/\∀fr',fr.put o.dst u=some fr'->∀m,CC X.C (Aj X.C m) ops o fr h=some [(fr',h')]:=by
     rcases p with p|⟨p,rfl⟩
     ·exact⟨v',I,fun fr' L m=>by simp only[CC,E,wb,p,L]⟩
     ·exact⟨.tup [],I,fun fr' L m=>by simp only[CC,E,wb,p,L]⟩
    obtain⟨u,hu,B2⟩:=W;obtain⟨fr',L,k2,k3,k4⟩:=U.put hu g;refine fin (l:=[(fr',h')]) ⟨0,ae⟩ (by simp) fun y w=>?_
    cases Za.1 w;exact⟨n,Zb _,b,d,F',ρ',k2,by grind,g7⟩
   obtain⟨l,A,hnd,hall⟩:=C5 e i d;obtain⟨r,M,J,K,D⟩:=A.UJ (ops:=ops) (P:=fun y=>∃n',n'<=n/\∃b,Ev X Q n' (prun X.C.T call ops c b k)/\∃F' ρ',Bb B h0 F ρ st.nx h b y.1 y.2 F' ρ') E ae;exact fin ⟨M,J⟩ ae D
  ·unfold FH at d;split at d
   case h_2=>grind [Ev.Ad]
   rename_i b g;obtain⟨O,p,I,V,Z⟩:=i.put (x:=.tup []) (by simp[PR]) g;refine fin (l:=[(O,h)]) ⟨0,fun m _=>by simp only[CC,E,wc,p]⟩ (by simp) fun y w=>?_
   cases Za.1 w;exact⟨n,Zb _,b,d,F,ρ,I,by rw[V,e1];exact Zi,Zb _⟩
mutual
theorem FI:∀v:V,ZD v v=true
 | .bool b=>by simp[ZD]
 | .int k n=>by simp[ZD]
 | .str s=>by simp[ZD]
 | .nilp=>rfl
 | .ptr a i=>by simp[ZD]
 | .nils=>rfl
 | .sl a b c d e=>by simp[ZD]
 | .esl=>rfl
 | .es0=>rfl
 | .junk=>rfl
 | .nilm=>rfl
 | .map a=>by simp[ZD]
 | .yld a=>by simp[ZD]
 | .nilf=>rfl
 | .nili=>rfl
 | .fn f a b=>by simp only[ZD,Cr a,Cr b,Zu,beq_iff_eq]
 | .iface t x=>by simp only[ZD,FI x,Zu];simp
 | .agg a=>by exact Cr a
 | .tup a=>by exact Cr a
theorem Cr:∀vs:List V,V.E7 vs vs=true
 |[]=>rfl
 |v::vs=>by simp only[V.E7,FI v,Cr vs,Zu]
end
theorem Px{T:AF}{t:TypeId}{a x:V}(c:B6 T h t a=some x):∃b off o,a=.ptr b off/\h.get b=some o/\(∀g:H,g.get b=h.get b->B6 T g t a=some x)/\
  ∀(g:H) cs j e k l,h.get b=some (.cells cs j e)->g.get b=some (.cells cs k l)->B6 T g t a=some x:=by
 unfold B6 at c;split at c
 case h_2=>cases c
 rename_i b off d i v s;have p:∃o,h.get b=some o:=by
  cases m:h.get b with
  |some o=>simp
  |none=>
   grind [rd]
 obtain⟨o,q⟩:=p;refine⟨b,off,o,rfl,q,fun g m=>?_,fun g cs j e k l u r=>?_⟩
 ·simp_all [B6,rd]
 ·unfold B6;grind [rd]
def Jx(C:Ctx)(F:Fz)(bl:List Nat)(h:H)(fr:Fr)(o:Oper)(x:V):Prop:=
 ∀g:H,(∀b cs,F b=some cs->∃t fz,g.get b=some (.cells cs t fz))->(∀b∈bl,g.get b=h.get b)->∃z,CM C fr g o=some (.val x z)
theorem Lu:∀ {s:Sh} {x:s.T} {cs:List V} {b:Nat},DC F s x cs->V.map b∉cs
 | .int _,_,_,_,h,hm=>by grind [DC]
 | .bool,_,_,_,h,hm=>by grind [DC]
 | .str,_,_,_,h,hm=>by grind [DC]
 | .list s,l,_,_,h,hm=>by
  simp only[DC]at h;grind
 | .pair a b,x,_,_,h,hm=>by
  obtain⟨c,d,rfl,g,e⟩:=h;rcases List.mem_append.1 hm with hm|hm
  ·exact Lu g hm
  ·exact Lu e hm
 | .unit,_,_,_,h,hm=>by grind [DC]
 | .fnv,x,_,_,h,hm=>by simp only[DC]at h;grind
 | .ptr _,x,_,_,h,hm=>by simp only[DC]at h;grind
 | .nlist s,l,_,_,h,hm=>by
  simp only[DC]at h;grind
theorem Mi{s:Sh}{x:s.T}{b:Nat}(a:PR F ρ N (.dat s x) (.map b)):False:=by
 exact Lu a<|Za.2 rfl
theorem LX{b:Nat}(a:PR F ρ N .nil (.map b)):False:=by
 grind [PR]
theorem P2(j:SR B h0 F ρ st.nx st.ob h){o:Oper}{c:Call}(g:o.op=.call c)(d:c.callee=.builtin .len){id sz off len:Nat}{cap:Option Nat}(e:Fx st c.args.toList=some [.sl id sz off len cap]){u:PV}{s:Ae}
  (a:(pop o.op X.C.T st).To u s) {b:Nat} (k:PR F ρ st.nx (.sl id sz off len cap) (.map b)):False:=by
 rw[g]at a;simp only[pop,JA,e,d,DF,QR,Kx,List.map_cons,List.map_nil,lz]at a;split at a;split at a
 case h_3=>
  cases i:Ds (st.obj id)with
  |false=>simp_all
  |true=>
   obtain⟨b',n,l⟩:=j.live i;grind [PR]
 all_goals first|(simp at a;done)|grind|(cases he)
theorem He{T:AF}{ts:Array TypeId}{a:V}{g:H}(c:∀b,a≠ .map b)(h:H):Cp T g ts [a]=Cp T h ts [a]:=by
 unfold Cp;grind
theorem Nv(I:Rel B h0 F ρ st fr h){o:Oper}{x:V}(A:CM X.C fr h o=some (.val x h)){l:List Nat}(J:RP st o.op=some l)(hto:∃u s,(pop o.op X.C.T st).To u s):
  ∃bl,Jx X.C F bl h fr o x/\∀b∈bl,b<h.nx/\∃id∈l,id<st.nx/\∀y,ρ id=some y->y.1=b:=by
 unfold RP at J;rw[A3]at A;unfold CI at A;split at J
 case h_5=>cases J
 case h_4 t y i ok q=>
  simp only[q]at A;have m:∀g,CM X.C fr g o=(match ev X.C fr y,ev X.C fr i with|some v,some u=>Av g (BU X.C.T g t v u ok)|_,_=>none):=(by grind [A3,CI]);cases M:ev X.C fr y with
  |none=>grind
  |some a=>
   cases hi:ev X.C fr i with
   |none=>grind
   |some u=>
    rw[M,hi]at A;simp only at A;obtain⟨x',D,E⟩:=CA A;cases E;have G:∀g:H,entries g a=entries h a->BU X.C.T g t a u ok=some x:=by
     grind [BU]
    split at J
    case h_3=>cases J
    case h_1=>
     rename_i id K;obtain⟨Y,w,p⟩:=AH (C:=X.C) I.fp K;rw[M]at w;cases w;have Z:∃es,entries h a=some es:=by
      grind [BU]
     obtain⟨es,E⟩:=Z;cases J;by_cases R:∃b,a=.map b
     ·obtain⟨b,rfl⟩:=R;have P:∃ob,h.get b=some ob:=by
       cases L:h.get b with
       |none=>simp[entries,L]at E
       |some ob=>simp
      obtain⟨ob,P⟩:=P;simp only[PR]at p;refine⟨[b],fun g _ L=>⟨g,?_⟩,fun b' U=>?_⟩
      ·rw[m,M,hi];simp only;rw[G g<|by simp_all [entries]];rfl
      ·cases Za.1 U;refine⟨I.sr.lt b ob P,id,(by simp),p.1,fun z hz=>?_⟩;grind
     ·refine⟨[],fun g _ L=>⟨g,?_⟩,(by simp)⟩;rw[m,M,hi];simp only;rw[G g ?_];rfl;cases a<;>first|rfl|grind
    case h_2=>
     rename_i K;obtain⟨Y,w,p⟩:=AH (C:=X.C) I.fp K;rw[M]at w;cases w;simp only[PR]at p;subst p;cases J;refine⟨[],fun g _ L=>⟨g,?_⟩,(by simp)⟩;rw[m,M,hi];simp only;rw[G g rfl];rfl
 case h_1 t y q=>
  simp only[q]at A;have m:∀g,CM X.C fr g o=(match ev X.C fr y with|some v=>Av g (B6 X.C.T g t v)|none=>none):=(by grind [A3,CI]);cases M:ev X.C fr y with
  |none=>grind
  |some a=>
   rw[M]at A;simp only at A;obtain⟨x',D,E⟩:=CA A;cases E;obtain⟨b,off,ob,rfl,P,G,hfz⟩:=Px D;have hblt:=I.sr.lt b ob P;have live:∀id,id<st.nx->(∀z,ρ id=some z->z.1=b)->l=[id]->∃bl,Jx X.C F bl h fr o x/\∀b∈bl,b<h.nx/\∃id∈l,id<st.nx/\∀y,ρ id=some y->y.1=b:=by
    rintro id hlt hid rfl;refine⟨[b],fun g _ L=>⟨g,?_⟩,fun b' U=>?_⟩
    ·rw[m,M];simp only;rw[G g ae];rfl
    simp_all
   split at J
   case h_4=>cases J
   case h_1=>
    rename_i id W K;obtain⟨Y,w,p⟩:=AH (C:=X.C) I.fp K;grind [PR]
   case h_2=>
    rename_i id sz j W K;obtain⟨Y,w,p⟩:=AH (C:=X.C) I.fp K;grind [PR]
   case h_3=>
    rename_i s y' W K;obtain⟨Y,w,p⟩:=AH (C:=X.C) I.fp K;rw[M]at w;cases w;simp only[PR]at p;obtain⟨b',o',cs,E,hF,_⟩:=p;cases E;obtain⟨t1,f1,k1⟩:=I.sr.frz b cs hF;refine⟨[],fun g L _=>⟨g,?_⟩,(by simp)⟩;obtain⟨t2,f2,k2⟩:=L b cs hF;rw[m,M];simp only;rw[hfz g cs t1 f1 t2 f2 k1 k2];rfl
 case h_2 s d y q=>
  simp only[q]at A;have m:∀g,CM X.C fr g o=(match ev X.C fr y with|some v=>Av g (Cn X.C.T g s d v)|none=>none):=(by grind [A3,CI]);have fin:∀a,ev X.C fr y=some a->(∀g,Cn X.C.T g s d a=Cn X.C.T h s d a)->∃bl,Jx X.C F bl h fr o x/\∀b∈bl,b<h.nx/\∃id∈l,id<st.nx/\∀y,ρ id=some y->y.1=b:=by
   intro a ha L;rw[ha]at A;simp only at A;obtain⟨x',D,E⟩:=CA A;cases E;exact⟨[],fun g _ _=>⟨g,by rw[m,ha];simp only;rw[L,D];rfl⟩,(by simp)⟩
  split at J
  case h_3=>cases J
  case h_1=>
   rename_i k z K;obtain⟨Y,w,p⟩:=AH (C:=X.C) I.fp K;simp only[PR,DC,Zo,wh]at p;subst p;exact fin _ w fun g=>by
    unfold Cn;grind
  case h_2=>
   rename_i z K;obtain⟨Y,w,p⟩:=AH (C:=X.C) I.fp K;simp only[PR,DC,Zo,wh]at p;subst p;exact fin _ w fun g=>by
    unfold Cn;grind
 case h_3 c q=>
  simp only[q]at A;split at J
  case h_5=>cases J
  case h_4=>
   rename_i id r O;obtain⟨U6,w,p⟩:=B4 (C:=X.C) I.fp O;simp only[Ay]at p;obtain⟨a,as',rfl,p,rfl⟩:=p;have m:∀g,CM X.C fr g o=Av g (Cp X.C.T g c.argTypes [a]):=fun g=>by rw[A3];unfold CI;simp only[q,r,w];rfl
   simp only[r,w,BZ]at A;obtain⟨x',D,E⟩:=CA A;cases E;cases J;by_cases R:∃b,a=.map b
   ·obtain⟨b,rfl⟩:=R;simp only[PR]at p;by_cases P:∃ob,h.get b=some ob
    ·obtain⟨ob,P⟩:=P;refine⟨[b],fun g _ L=>⟨g,?_⟩,fun b' U=>?_⟩
     ·rw[m];have:Cp X.C.T g c.argTypes [.map b]=Cp X.C.T h c.argTypes [.map b]:=by
       unfold Cp;grind
      rw[this,D];rfl
     ·cases Za.1 U;refine⟨I.sr.lt b ob P,id,(by simp),p.1,fun z hz=>?_⟩;grind
    ·have hnone:h.get b=none:=by
      cases L:h.get b with
      |none=>rfl
      |some ob=>grind
     refine⟨[],fun g _ _=>⟨g,?_⟩,(by simp)⟩;obtain⟨uu,s,S⟩:=hto;exfalso;rw[q]at S;simp only[pop,JA,O,r,DF,QR,Kx,List.map_cons,List.map_nil,lz]at S;split at S
     case h_2=>simp at S
     rename_i t x _ E;cases E;split at S
     case h_5=>
      rename_i E;cases E;split at S
      case h_2=>simp at S
      rename_i ks vs l ho;obtain⟨b1,n1,o1,q1,q2,_⟩:=I.sr.at ho;grind
     all_goals first|(simp at S;done)|grind|(cases E)
   ·refine⟨[],fun g _ _=>⟨g,?_⟩,(by simp)⟩;rw[m,He ae h,D];rfl
  all_goals
   rename_i r O;obtain⟨U6,w,p⟩:=B4 (C:=X.C) I.fp O;obtain⟨a,as',rfl,p,rfl⟩:=p;have m:∀g,CM X.C fr g o=Av g (Cp X.C.T g c.argTypes [a]):=fun g=>by rw[A3];unfold CI;simp only[q,r,w];rfl
   simp only[r,w,BZ]at A;have hnm:∀b,a≠ .map b:=by
    intro b e;subst e;first
     |exact Mi p
     |exact LX p
     |(obtain⟨u,s,S⟩:=hto
       exact P2 I.sr q r O S p)
   obtain⟨x',D,E⟩:=CA A;cases E;refine⟨[],fun g _ _=>⟨g,?_⟩,fun b P=>by cases P⟩;rw[m];rw[He hnm h,D];rfl
structure Qs(C:Ctx)(F:Fz)(ρ:BB)(N:Nat)(h:H)(r:Nat×Option (List Nat))(c:Rc):Prop where
 i:c.i=r.1
 k:∀l,r.2=some l->∃bl,Jx C F bl h c.f c.o c.v/\∀b∈bl,b<h.nx/\∃id∈l,id<N/\∀y,ρ id=some y->y.1=b
def LB(C:Ctx)(F:Fz)(ρ:BB)(N:Nat)(h:H):Rs->List Rc->Prop
 |[],l=>l=[]
 |r::a,l=>∃c cs,l=c::cs/\Qs C F ρ N h r c/\LB C F ρ N h a cs
theorem Qs.mono{F':Fz}{ρ':BB}{N':Nat}{r:Nat×Option (List Nat)}{c:Rc}(m:Qs X.C F ρ N h r c)(d:Le F ρ N F' ρ' N')(w:h.nx<=h'.nx)
  (A:∀l,r.2=some l->∀b,b<h.nx->(∃id∈l,id<N/\∀y,ρ id=some y->y.1=b)->h'.get b=h.get b):Qs X.C F' ρ' N' h' r c:=by
 refine⟨m.i,fun l e=>?_⟩;obtain⟨bl,u,s⟩:=m.k l e;refine⟨bl,fun g o x=>u g (fun b cs v=>o b cs<|d.fz b cs v)<|fun b a=>?_,fun b a=>?_⟩
 ·grind
 ·obtain⟨z,id,q,j,t⟩:=s b a;exact⟨a8,id,q,Nat.lt_of_lt_of_le j d.n,fun y p=>t y<|d.at j p⟩
theorem LB.mono{F':Fz}{ρ':BB}{N':Nat}(g:Le F ρ N F' ρ' N')(e:h.nx<=h'.nx)(k:∀b,b<h.nx->h'.get b=h.get b):∀ {a:Rs} {cs:List Rc},LB X.C F ρ N h a cs->LB X.C F' ρ' N' h' a cs
 |[],_,d=>d
 |r::a,_,d=>by
  obtain⟨c,cs,rfl,j,i⟩:=d;exact⟨c,cs,rfl,j.mono g e ae,LB.mono g e k i⟩
theorem LB.apart{F':Fz}{ρ':BB}{fr':Fr}{anc:Nat->Nat->Bool}{i:Nat}{t:Option (List Nat)}(u:Rel B h0 F ρ st fr h)(g:Bb B h0 F ρ st.nx h st' fr' h' F' ρ')
  (G:∀d,t=some d->∀b,b<h.nx->h'.get b=h.get b\/∃id∈d,∃m,ρ id=some (b,m)):
  ∀ {s:Rs} {cs:List Rc},LB X.C F ρ st.nx h s cs->ZB anc i st t s=true->cs.all (still X.C anc i h')=true/\LB X.C F' ρ' st'.nx h' (behind st t s) cs
 |[],_,w,_=>by
  cases w;exact⟨rfl,rfl⟩
 |r::s,_,w,E=>by
  obtain⟨c,cs,rfl,q,M⟩:=w;unfold ZB at E;rw[ZC,Zc]at E;obtain⟨h3,h4⟩:=LB.apart u g G M (by exact E.2);have key:(Kh r.2 t&&EW st r.2)=true->∀l,r.2=some l->∀b,b<h.nx->(∃id∈l,id<st.nx/\∀y,ρ id=some y->y.1=b)->h'.get b=h.get b:=by
   rintro p l j b K ⟨id,D,L,U⟩;simp only[Zc,j]at p;have a:=List.all_eq_true.1 p.2 id D;obtain⟨x,R,I⟩:=u.sr.live a;obtain rfl:x=b:=U _ I;cases t with
   |none=>
    grind [Kh]
   |some d=>
    rcases G d rfl x K with e|⟨id',V,m,A⟩
    ·exact e
    ·obtain⟨o1,O⟩:=Dt a;have v:∃o,Af st.ob id'=some o:=by
      cases J:Af st.ob id' with
      |some o=>simp
      |none=>rw[u.sr.dead id' J]at A;cases A
     obtain⟨o,v⟩:=v;obtain rfl:=u.sr.inj id id' o1 o x R m O v I A;grind [Nat.beq_refl,Kh]
  refine⟨?_,c,cs,rfl,?_,h4⟩
  ·rw[ZC,h3,Zu];unfold still;rw[q.i];cases P:anc i r.1 with
   |true=>rfl
   |false=>
    have j:∃l,r.2=some l:=by
     cases T:r.2 with
     |some l=>simp
     |none=>grind [Kh]
    obtain⟨l,j⟩:=j;obtain⟨bl,D,L⟩:=q.k l j;obtain⟨z,hz⟩:=D h' (fun b cs S=>g.rel.sr.frz b cs<|g.le.fz b cs S) ae;grind [FI]
  ·show Qs X.C F' ρ' st'.nx h' (bif Kh r.2 t&&EW st r.2 then r else(r.1,none)) c;cases p:(Kh r.2 t&&EW st r.2)with
   |true=>exact q.mono g.le g.nx<|key p
   |false=>
    exact⟨q.i,(by simp)⟩
theorem Js{C:Ctx}{o:Oper}(g:AZ o=true){r:OR}(a:CM C fr h o=some r):∃ob f,Qu C fr o=some (ob,f)/\r=.val (f h.nx) (h.push ob):=by
 rw[A3]at a;unfold CI at a;unfold AZ at g;unfold Qu;split at g
 case h_4=>cases g
 case h_1 t b=>
  simp only[b]at a ⊢;unfold CF at a;cases d:C.T.inf t with
  |none=>rw[d]at a;cases a
  |some i=>rw[d]at a;cases a;exact⟨_,_,rfl,rfl⟩
 case h_2 t x b=>
  simp only[b]at a ⊢;cases c:ev C fr x with
  |none=>rw[c]at a;cases a
  |some y=>rw[c]at a;cases a;exact⟨_,_,rfl,rfl⟩
 case h_3 t n ps b=>
  simp only[b]at a ⊢;cases c:Lq C fr ps.toList with
  |none=>grind
  |some y=>
   rw[c]at a;simp only at a ⊢;unfold BX at a;unfold Ld;split at a
   case h_2=>cases a
   rename_i e l;simp only[l];split at a
   case h_2=>cases a
   rename_i i d;simp only[d];cases k:(Zg (n*i.size) 16777216&&Zj 0 (i.zero.length)&&Zd i.zero.length i.size)with
   |false=>rw[k]at a;cases a
   |true=>
    rw[k]at a;split at a
    case h_2=>cases a
    rename_i cs j;cases a;simp only[j];exact⟨_,_,rfl,rfl⟩
theorem Uh{T:AF}{call:Cu}{st:Ae}{o:Oper}{k:Ae->Tr}(a:BO o=true):De T call o st k=IL o.dst k (pop o.op T st):=by
 grind [FE,BO,De]
theorem Sq{call:Cu}(b:B8 B h0 X false call)(m:Rel B h0 F ρ st fr h){o:Oper}(p:BO o=true){k:Ae->Tr}(i:Ev X Q n (De X.C.T call o st k)):
  ∃n',n'<=n/\∃a,Ev X Q n' (k a)/\∃F' ρ' x fr',CM X.C fr h o=some (.val x h)/\fr.put o.dst x=some fr'/\Bb B h0 F ρ st.nx h a fr' h F' ρ'/\∃u s,(pop o.op X.C.T st).To u s:=by
 obtain⟨l,c,g,d⟩:=C5 b m i;obtain⟨⟨⟨x,h'⟩,rfl⟩,_⟩:=g.1 rfl;obtain⟨n',hn,a,he1,F',ρ',fr',hput,hw,_⟩:=d _<|Za.2 rfl;have j:∃u s,(pop o.op X.C.T st).To u s:=by
  grind [Uh,D1]
 cases c with
 |val e=>
  grind [rd_val]
 |skip e=>grind [rd_val]
 |call e _=>grind [rd_val]
 |round e _=>grind [rd_val]
 |alts e=>grind
theorem H4{call:Cu}(s:B8 B h0 X false call){ops:Array Oper}{anc:Nat->Nat->Bool}:∀ {L:List Nat} {n:Nat} {st:Ae} {F:Fz} {ρ:BB} {fr:Fr} {h:H} {k:Ae->Tr} {I:Rs} {cs:List Rc},Rel B h0 F ρ st fr h->LB X.C F ρ st.nx h I cs->
  Ev X Q n (Et X.C.T X.sp call ops anc L st I k)->
  ∃n',n'<=n/\∃e,Ev X Q n' (k e)/\∃F' ρ' fr' h',Bb B h0 F ρ st.nx h e fr' h' F' ρ'/\∃M,∀m,M<=m->∃cs',Kw X.C (Aj X.C m) ops anc L ⟨fr,h,cs⟩=some ⟨fr',h',cs'⟩
 |[],n,st,F,ρ,fr,h,k,I,cs,hr,_,c=>⟨n,Zb _,st,c,F,ρ,fr,h,Bb.refl hr,0,fun _ _=>⟨cs,rfl⟩⟩
 |i::is,n,st,F,ρ,fr,h,k,I,cs,hr,E,c=>by
  unfold Et at c;cases ho:ops[i]? with
  |none=>grind [Ev.Ad]
  |some o=>
   rw[ho]at c;simp only at c;obtain⟨e,u,J,e2,S⟩:=F7 hr c;rw[<-J]at E;have fin:∀ {V:Nat} {j:Ae} {F1:Fz} {v:BB} {r:Fr} {O:H} {rs2:Rs} {cs2:List Rc},V<=n->Bb B h0 F ρ st.nx h j r O F1 v->LB X.C F1 v j.nx O rs2 cs2->Ev X Q V (Et X.C.T X.sp call ops anc is j rs2 k)->
     (∃M,∀m,M<=m->∃x,Dl X.C (Aj X.C m) ops anc i ⟨fr,h,cs⟩=some (x,⟨r,O,cs2⟩))->
     ∃n',n'<=n/\∃e,Ev X Q n' (k e)/\∃F' ρ' fr' h',Bb B h0 F ρ st.nx h e fr' h' F' ρ'/\∃M,∀m,M<=m->∃cs',Kw X.C (Aj X.C m) ops anc (i::is) ⟨fr,h,cs⟩=some ⟨fr',h',cs'⟩:=by
    rintro V j F1 v r O rs2 cs2 w hw q p ⟨M1,hM1⟩;obtain⟨n2,hn2,st3,he3,F2,ρ2,fr2,h2,hw2,M2,hM2⟩:=H4 s hw.rel q p;refine⟨n2,a8,st3,he3,F2,ρ2,fr2,h2,hw.trans hw2,max M1 M2,fun m hm=>?_⟩;obtain⟨x,hx⟩:=hM1 m a8;obtain⟨cs',hcs'⟩:=hM2 m a8;grind [Kw]
   rcases S with⟨hw,c⟩|⟨hw,c⟩
   ·cases U:BO o with
    |true=>
     rw[U]at c;simp only[wb]at c;obtain⟨V,w,j,p,F1,v,x,r,z,d,a,hto⟩:=Sq s u U c;rw[J]at a;have q:LB X.C F1 v j.nx h I cs:=E.mono (by rw[J];exact a.le) a8 (by simp);cases Y:H9 o with
     |false=>
      rw[Y]at p;refine fin (cs2:=cs) w a q p ⟨0,fun m _=>⟨x,?_⟩⟩;unfold Dl;grind
     |true=>
      rw[Y]at p;refine fin (cs2:=⟨i,o,fr,x⟩::cs) (rs2:=(i,RP e o.op)::I) w a ⟨_,_,rfl,⟨rfl,fun l hl=>?_⟩,q⟩ p ⟨0,fun m _=>⟨x,?_⟩⟩
      ·obtain⟨bl,k1,W⟩:=Nv u z hl hto;refine⟨bl,fun g hg Z=>k1 g (fun b cs hF=>hg b cs<|a.le.fz b cs hF) Z,fun b Z=>?_⟩;obtain⟨j1,id,j2,j3,j4⟩:=W b Z;rw[J]at j3;exact⟨j1,id,j2,Nat.lt_of_lt_of_le j3 a.le.n,fun y hy=>j4 y<|a.le.at j3 hy⟩
      ·unfold Dl;grind
    |false=>
     rw[U]at c;simp only[wc]at c;cases P:AZ o with
     |true=>
      rw[P]at c;simp only[wb]at c;obtain⟨l,A,R,G⟩:=C5 s u c;obtain⟨⟨⟨x,O⟩,rfl⟩,hna⟩:=R.1 rfl;obtain⟨V,w,j,p,F1,v,r,d,a,_⟩:=G _<|Za.2 rfl;rw[J]at a;simp only at d a;have hv:∃ob f,Qu X.C fr o=some (ob,f)/\x=f h.nx/\O=h.push ob:=by
       cases A with
       |val z=>obtain⟨ob,f,k1,W⟩:=Js P z;grind
       |skip z=>grind [Js]
       |call z _=>grind [Js]
       |round z _=>grind [Js]
       |alts z=>grind
      obtain⟨ob1,f,k1,rfl,rfl⟩:=hv;have q:LB X.C F1 v j.nx (h.push ob1) I cs:=E.mono (by rw[J];exact a.le) (by simp) (fun b Z=>by simp[Nat.ne_of_lt Z]);refine fin (cs2:=cs) w a q p ⟨0,fun m _=>⟨f h.nx,?_⟩⟩;unfold Dl;grind
     |false=>
      rw[P]at c;simp only[wc]at c;cases D:(ZB anc i e (CW X.sp e o.op) I&&P3 e o.op)with
      |false=>grind [Ev.Ad]
      |true=>
       rw[D]at c;simp only[wb]at c;simp only[Zc]at D;obtain⟨K,hnr⟩:=D;obtain⟨l,A,R,G⟩:=C5 s u c;obtain⟨⟨⟨x,O⟩,rfl⟩,hna⟩:=R.1 rfl;obtain⟨V,w,j,p,F1,v,r,d,a,htch⟩:=G _<|Za.2 rfl;simp only at d a htch;obtain⟨k1,W⟩:=LB.apart u a htch E K;rw[J]at a;refine fin w a W p ?_;have hh:∃M,∀m,M<=m->B2 X.C (Aj X.C m) fr h o=some (x,O):=by
        cases A with
        |val z=>exact⟨0,(by grind [B2])⟩
        |skip z=>exact⟨0,(by grind [B2])⟩
        |alts z=>grind
        |round z _=>grind [P3]
        |@call g args _ M z hM=>exact⟨M,(by grind [B2])⟩
       obtain⟨M,hM⟩:=hh;refine⟨M,fun m hm=>⟨x,?_⟩⟩;unfold Dl;grind
   ·cases hv:A1 o with
    |false=>
     rw[hv]at c;unfold FH at c;split at c
     case h_2=>grind [Ev.Ad]
     rename_i j d;obtain⟨r,g1,g2,g3,g4⟩:=u.put (x:=.tup []) (by simp[PR]) d;refine fin (cs2:=cs) a8 ⟨g2,by rw[g3,J];exact Zi,Zb _⟩ ae c ⟨0,fun m _=>⟨.tup [],?_⟩⟩;unfold Dl;grind
    |true=>
     rw[hv]at c;cases K:ZB anc i e (some []) I with
     |false=>grind [Ev.Ad]
     |true=>
      rw[K]at c;unfold FH at c;split at c
      case h_2=>grind [Ev.Ad]
      rename_i j d;obtain⟨r,g1,g2,g3,g4⟩:=u.put (x:=.tup []) (by simp[PR]) d;have a:Bb B h0 F ρ e.nx h j r h F ρ:=⟨g2,by rw[g3];exact Zi,Zb _⟩;obtain⟨k1,W⟩:=LB.apart (t:=some []) u a (by simp) E K;rw[J]at a;refine fin a8 a W c ⟨0,fun m _=>⟨.tup [],?_⟩⟩;unfold Dl;grind
theorem N9{call:Cu}(c:B8 B h0 X false call){ops:Array Oper}{k:Ae->Tr}(j:Rel B h0 F ρ st fr h)(g:Ev X Q n (Et X.C.T X.sp call ops (BS ops).a (BS ops).ord st [] k)):
  ∃n',n'<=n/\∃b,Ev X Q n' (k b)/\∃F' ρ' fr' h',Bb B h0 F ρ st.nx h b fr' h' F' ρ'/\∃M,∀m,M<=m->DP X.C (Aj X.C m) ops fr h=some (fr',h'):=by
 obtain⟨n',i,b,d,F',ρ',fr',h',e,M,o⟩:=H4 (cs:=[]) c j (by rfl) g;refine⟨n',i,b,d,F',ρ',fr',h',e,M,fun m l=>?_⟩;grind [DP]
end
section
variable {B:Nat}{h0:H0}{F:Fz}{ρ ρ':BB}{N N':Nat}{f:Nat->Option Nat}
mutual
theorem HE(d:∀i j,i<N->f i=some j->j<N'/\ρ' j=ρ i):∀ {p:PV} {v:V},PR F ρ N p v->PR F ρ' N' (Dq f p) v
 | .any,_,_=>by simp[Dq,PR]
 | .bl _,_,h=>by grind [Dq,PR]
 | .ub,_,h=>by grind [Dq,PR]
 | .dat _ _,_,h=>by grind [Dq,PR]
 | .nil,_,h| .nilp,_,h| .nilm,_,h| .nilf,_,h| .nili,_,h=>by simpa only[Dq,PR]using h
 | .BN _ _ _,_,h=>by grind [Dq,PR]
 | .agg l,_,h=>by obtain⟨cs,rfl,c⟩:=h;exact⟨cs,rfl,BQ d c⟩
 | .tup l,_,h=>by obtain⟨cs,rfl,c⟩:=h;exact⟨cs,rfl,BQ d c⟩
 | .fn g a b,_,h=>by obtain⟨x,y,rfl,c,e⟩:=h;exact⟨x,y,rfl,BQ d c,BQ d e⟩
 | .ptr i o,_,h=>by
  grind [Dq,PR]
 | .eptr i _ _ _,_,h=>by
  grind [Dq,PR]
 | .sl i _ _ _ _,_,h=>by
  grind [Dq,PR]
 | .yl i,_,h=>by
  grind [Dq,PR]
 | .mp i,_,h=>by
  grind [Dq,PR]
theorem BQ(a:∀i j,i<N->f i=some j->j<N'/\ρ' j=ρ i):∀ {ps:List PV} {vs:List V},Ay F ρ N ps vs->Ay F ρ' N' (Ep f ps) vs
 |[],_,h=>by simpa [Ep]using h
 |p::ps,_,h=>by
  obtain⟨v,vs,rfl,b,c⟩:=h;simp only[Ep,Ax];exact⟨HE a b,BQ a c⟩
end
theorem Iz(f:PV->PV):∀(sl:List (Nat×PV)) (m a:PM PV),(∀t,a.get t=(m.get t).map f)->∀t,((sl.map fun x=>(x.1,f x.2)).foldl (fun m x=>m.set x.1<|some x.2) a).get t=((sl.foldl (fun m x=>m.set x.1<|some x.2) m).get t).map f
 |[],_,_,h,t=>h t
 |x::sl,m,a,h,t=>by
  refine Iz f sl _ _ (fun t=>?_) t;grind [PM.Bd]
theorem Mg(f:PV->PV)(a:f .any=.any)(sl:List (Nat×PV))(t:Nat):HL (sl.map fun x=>(x.1,f x.2)) t=f (HL sl t):=by
 unfold HL BW;rw[Iz f sl .leaf .leaf (by simp) t];cases (sl.foldl (fun m x=>m.set x.1<|some x.2) PM.leaf).get t with
 |none=>grind
 |some x=>rfl
theorem Qj(d:∀i j,i<N->f i=some j->j<N'/\ρ' j=ρ i){n:Nat}{o:Obj}{x:O}(h:K9 F ρ N n o x):K9 F ρ' N' n (GH f o) x:=by
 cases o with
 |arr fz e s l=>exact h
 |box ps=>grind [BQ,K9,GH]
 |tbox t ps=>grind [BQ,K9,GH]
 |lp g r ps asg body s n sl=>
  obtain⟨ls,u,k,b,c,m,a,q⟩:=h;refine⟨ls,u,k,b,c,m,a,fun t=>?_⟩;rw[Mg (Dq f)<|by rfl];exact HE d<|q t
 |map ks vs l=>exact h
 |siter s p=>exact h
theorem Ku(o:Obj):(GH f o).frozen=o.frozen:=by cases o<;>rfl
theorem Ej{st:Ae}{base:Nat}:∀(n:Nat) (c acc:List Nat),(∀i∈acc,base<=i/\(st.obj i).isSome=true)->acc.Nodup->(∀i∈DS st base n c acc,base<=i/\(st.obj i).isSome=true)/\(DS st base n c acc).Nodup
 |0,_,acc,b,a=>⟨b,a⟩
 |n+1,[],acc,b,a=>⟨b,a⟩
 |n+1,i::c,acc,b,a=>by
  unfold DS;cases l:(Zj i base||acc.any (Zd i))with
  |true=>exact Ej n c acc b a
  |false=>
   cases k:st.obj i with
   |none=>exact Ej n c acc b a
   |some o=>
    have g:base<=i:=by
     grind [Bq]
    have d:i∉acc:=by
     grind [Nat.beq_refl]
    refine Ej n _ _ (fun j e=>?_) ?_
    ·grind
    grind
theorem GD{base:Nat}:∀(b:List Nat) (n i j:Nat),b.Nodup->GR base b n i=some j->(∃k,b[k]?=some i/\j=n+k)\/(i∉b/\i<base/\j=i)
 |[],n,i,j,_,h=>by
  unfold GR at h;cases o:Zj i base with
  |false=>grind
  |true=>simp_all
 |a::b,n,i,j,g,h=>by
  unfold GR at h;rw[Al]at h;by_cases e:i=a
  ·simp_all
  ·simp only[e,decide_false,wc]at h;have c:=List.nodup_cons.1 g;rcases GD b (Nat.add n 1) i j c.2 h with⟨k,l,d⟩|⟨l,d,m⟩
   ·exact .inl ⟨k+1,by grind,by grind⟩
   grind
theorem M9(f:Nat->Option Nat)(base:Nat):∀(l:Ob) (j:Nat),Af (low f base l) j=if j<base then(Af l j).map (GH f)else none
 |[],j=>by simp[low,Af]
 |(i,o)::l,j=>by
  simp only[low];have c:=M9 f base l j;by_cases a:i<base
  ·rw[Bq a];simp only[wb,Af,Al];grind
  ·have:Zj i base=false:=by
    cases b:Zj i base with
    |false=>rfl
    |true=>exact wd (Zr b) a
   rw[this];simp only[wc,Af,Al];grind
theorem JQ{st:Ae}(f:Nat->Option Nat):∀(a:List Nat) (n:Nat) (b:Ob) (j:Nat),(∀i∈a,(st.obj i).isSome=true)->Af (kept st f a n b) j=(if n<=j/\j<n+a.length then(a[j-n]?).bind fun i=>(st.obj i).map (GH f)else Af b j)
 |[],n,b,j,_=>by simp_all [kept,w9]
 |i::a,n,b,j,h=>by
  obtain⟨o,c⟩:=Option.isSome_iff_exists.1 (h i (by simp));unfold kept;rw[c];rw[JQ f a (Nat.add n 1) _ j ae];by_cases d:n+1<=j/\j<n+1+a.length
  ·grind
  ·simp only[Af,Al];grind
theorem Cy:∀(vs:List (Nat×PV)) (m:PM PV) (t:Nat) (p:PV),(vs.foldl (fun m x=>m.set x.1<|some x.2) m).get t=some p->(t,p)∈vs\/m.get t=some p
 |[],m,t,p,h=>.inr h
 |x::vs,m,t,p,h=>by
  rcases Cy vs _ t p h with a|a
  ·grind
  grind [PM.Bd]
theorem NH{st:Ae}{fr:Fr}{h:H}(l:Rel B h0 F ρ st fr h)(base:Nat)(L:List Nat)(_hb:base<=st.nx):
  ∃ρ',Rel B h0 F ρ' (canon base L st) fr h/\base<=(canon base L st).nx/\∀id,id<base->ρ' id=ρ id:=by
 generalize v:DS st base 100 (Es ((L.map fun t=>(t,st.get t)).map (·.2))++HJ base st.ob) []=ids;have D:=Ej (st:=st) (base:=base) 100 (Es ((L.map fun t=>(t,st.get t)).map (·.2))++HJ base st.ob) [] (by simp) List.nodup_nil;rw[v]at D;obtain⟨U,K⟩:=D;let g:=GR base ids base
 let q:BB:=fun id=>if id<base then ρ id else(ids[id-base]?).bind ρ
 have A:∀id,id<base->q id=ρ id:=ae;have y:∀k i,ids[k]?=some i->q (base+k)=ρ i:=by
  grind
 have G:canon base L st=Ba st.n ((L.map fun t=>(t,st.get t)).map fun x=>(x.1,Dq g x.2)) (kept st g ids base<|low g base st.ob) (base+ids.length):=by
  rw[show g=GR base ids base from rfl, <-v];rfl
 have M:∀i j,i<st.nx->g i=some j->j<base+ids.length/\q j=ρ i:=by
  intro i j _ J;rcases GD ids base i j K J with⟨k,d,rfl⟩|⟨_,u,rfl⟩
  ·grind
  grind
 have E:∀j,Af (kept st g ids base<|low g base st.ob) j=if j<base then(Af st.ob j).map (GH g)else(ids[j-base]?).bind fun i=>(st.obj i).map (GH g):=by
  intro j;rw[JQ g ids base _ j ae,M9];grind
 have src:∀j o',Af (kept st g ids base<|low g base st.ob) j=some o'->∃i o,Af st.ob i=some o/\o'=GH g o/\q j=ρ i/\j<base+ids.length/\((j<base/\i=j)\/(base<=j/\ids[j-base]?=some i/\base<=i)):=by
  intro j o' r;rw[E]at r;by_cases d:j<base
  ·rw[wa d,Zh]at r;grind
  ·rw[w9 d]at r;cases z:ids[j-base]? with
   |none=>grind
   |some i=>
    rw[z]at r;simp only[Option.bind_some,Zh]at r;obtain⟨o,u,rfl⟩:=r;have S:=(Zt.1 z).1;have:=y (j-base) i z;rw[show base+(j-base)=j from by omega]at this;exact⟨i,o,u,rfl,this,by omega,ae⟩
 refine⟨q,?_,by rw[G];show base<=base+ids.length;omega,A⟩;rw[G];refine⟨⟨l.fp.n,fun t=>?_⟩,⟨fun j o' r=>?_,fun i j oi oj c m Z V r d u=>?_,l.sr.frz,fun id b m e=>?_,fun j r=>?_,l.sr.old,l.sr.lt,l.sr.le,l.sr.fo,l.sr.gl,fun c G=>?_⟩⟩
 ·generalize I:((L.map fun t=>(t,st.get t)).map fun x=>(x.1,Dq g x.2))=vs;show PR F q (base+ids.length) (((BW vs).get t).getD .any)<|fr.get t;cases hp:(BW vs).get t with
  |none=>grind [PR]
  |some p=>
   rcases Cy vs .leaf t p hp with d|d
   ·rw[<-I]at d;simp only[List.map_map,ZE,Function.comp]at d;obtain⟨s,_,u⟩:=d;cases u;exact HE M (l.fp.slot _)
   simp_all
 ·obtain⟨i,o,d,rfl,u,h3,_⟩:=src j o' r;obtain⟨b,m,x,k1,k2,k3,k4⟩:=l.sr.obj i o d;exact⟨b,m,x,u.trans k1,k2,Qj M k3,by rw[Ku];exact k4⟩
 ·obtain⟨a,o,P,_,O,_,R⟩:=src i oi V;obtain⟨a',o',g4,_,g5,_,g6⟩:=src j oj r;rw[O]at d;rw[g5]at u;have hab:=l.sr.inj a a' o o' c m Z P g4 d u;rcases R with⟨e1,Y⟩|⟨e1,Y,e3⟩<;>rcases g6 with⟨T,W⟩|⟨T,W,f3⟩
  ·omega
  ·omega
  ·omega
  grind [List.getElem?_inj]
 ·have e:(if id<base then ρ id else(ids[id-base]?).bind ρ)=some (b,m):=e;by_cases d:id<base
  ·rw[wa d]at e;exact⟨by show id<base+ids.length;omega,(l.sr.own id b m e).2⟩
  ·rw[w9 d]at e;cases z:ids[id-base]? with
   |none=>grind
   |some i=>
    rw[z]at e;have:=(Zt.1 z).1;exact⟨by show id<base+ids.length;omega,(l.sr.own i b m e).2⟩
 ·have w:Af (kept st g ids base<|low g base st.ob) j=none:=r;rw[E]at w;show(if j<base then ρ j else(ids[j-base]?).bind ρ)=none;by_cases d:j<base
  ·rw[wa d]at w ⊢;exact l.sr.dead j (by simp_all)
  ·rw[w9 d]at w ⊢;cases z:ids[j-base]? with
   |none=>rfl
   |some i=>
    grind [Option.map_eq_none_iff]
 ·obtain⟨P,O,R⟩:=l.sr.pn c G;grind
end
section
variable {B:Nat}{h0:H0}{X:AG}{F:Fz}{ρ:BB}{N:Nat}{h:H}
theorem N4(h0:H0)(a b:List Nat):(h0.pins a).pins b=h0.pins (b++a):=by unfold H0.pins;simp
theorem SR.O9{ob:Ob}{ps:List Nat}(a:SR B (h0.pins ps) F ρ N ob h):SR B h0 F ρ N ob h:=
 ⟨a.obj,a.inj,a.frz,a.own,a.dead,a.old,a.lt,a.le,a.fo,a.gl,fun b c=>a.pn b<|List.mem_append_right _ c⟩
theorem SR.mark{ob:Ob}(a:SR B h0 F ρ N ob h):SR B (h0.pins [h.nx]) F ρ N ob (h.push<|.defd true):=by
 have i:∀b y,h.get b=some y->b≠h.nx:=fun b y r=>by have:=a.lt b y r;omega
 have k:∀b y,h.get b=some y->(h.push<|.defd true).get b=some y:=(by simp_all);refine⟨fun j oj l=>?_,a.inj,fun c cs d=>?_,a.own,a.dead,fun c d s=>?_,fun c q d=>?_,?_,a.fo,a.gl,fun c d=>?_⟩
 ·obtain⟨c,m,y,E,A,x⟩:=a.obj j oj l;grind
 ·obtain⟨t,fz,w⟩:=a.frz c cs d;grind
 ·have:=a.le;rw[H.AT,w9 a8];exact a.old c d s
 ·rw[H.AT]at d;by_cases e:c=h.nx
  ·simp_all
  ·rw[w9 e]at d;have:=a.lt c q d;show c<h.nx+1;omega
 ·have:=a.le;show B<=h.nx+1;omega
 ·rcases List.mem_append.1 d with d|d
  ·cases Za.1 d;refine⟨by simp,a.le,fun id n e=>?_⟩;by_cases g:∃o,Af ob id=some o
   ·obtain⟨o,u⟩:=g;obtain⟨c,m,y,v,p,_⟩:=a.obj id o u;grind
   ·have:Af ob id=none:=by
     cases z:Af ob id with
     |none=>rfl
     |some o=>grind
    rw[a.dead id this]at e;cases e
  ·obtain⟨v,p,D⟩:=a.pn c d;grind
theorem SR.MS{ob:Ob}(a:SR B h0 F ρ N ob h){b:Nat}{x y:O}(w:∀id o n,Af ob id=some o->ρ id≠some (b,n))(v:F b=none)(r:h0.Nc B b)(u:b∉h0.pin)(p:h.get b=some x):SR B h0 F ρ N ob (h.put b y):=by
 refine⟨fun j oj l=>?_,a.inj,fun c cs d=>?_,a.own,a.dead,fun c d g=>?_,fun c s d=>?_,a.le,a.fo,a.gl,fun c d=>?_⟩
 ·obtain⟨c,m,y,k,q,i⟩:=a.obj j oj l;have:c≠b:=ae;exact⟨c,m,y,k,by simp_all,i⟩
 ·have:c≠b:=ae;rw[H.AB,w9 this];exact a.frz c cs d
 ·have:c≠b:=Gt r d g;rw[H.AB,w9 this];exact a.old c d g
 ·rw[H.AB]at d;split at d
  ·rename_i e;subst e;exact a.lt _ _ p
  ·exact a.lt c s d
 ·obtain⟨k,q,i⟩:=a.pn c d;have t:c≠b:=ae;simp_all
theorem SR.leave{ob:Ob}:∀ {ps:List Nat} {h:H},ps.Nodup->(∀b∈ps,b∉h0.pin)->SR B (h0.pins ps) F ρ N ob h->∃a,CH ps h=some a/\SR B h0 F ρ N ob a/\a.nx=h.nx/\∀b,b∉ps->a.get b=h.get b
 |[],h,_,_,c=>⟨h,rfl,c,rfl,fun _ _=>rfl⟩
 |p::ps,h,e,q,c=>by
  obtain⟨i,g,r⟩:=c.pn p (by simp[H0.pins]);rw[List.nodup_cons]at e;have d:SR B ((h0.pins ps).pins [p]) F ρ N ob h:=by exact c
  have j:SR B (h0.pins ps) F ρ N ob (h.put p<|.defd false):=by
   refine SR.MS d.O9 ae ?_ (.inl g) ?_ i
   ·cases l:F p with
    |none=>rfl
    |some cs=>obtain⟨t,fz,k⟩:=c.frz p cs l;grind
   grind [H0.pins]
  obtain⟨a,s,m,u,o⟩:=SR.leave e.2 ae j;simp_all [CH]
theorem Qa{st:Ae}{fr:Fr}(d:Rel B h0 F ρ st fr h)(base:Nat)(x:Nat×Sh):∃F1 E,Rel B h0 F1 E (Rm base x st) fr h/\(Rm base x st).nx=st.nx/\(∀id,id<base->E id=ρ id)/\∀b cs,F b=some cs->F1 b=some cs:=by
 have q:=d.fp.slot x.1;unfold Rm;split
 case h_1=>
  rename_i r;rw[r]at q;exact⟨F,ρ,d.note (by rw[q];simp[PR,DC]),rfl,fun _ _=>rfl,fun _ _ h=>h⟩
 case h_4=>grind
 case h_3=>
  rename_i id r;cases R:Zg base id with
  |false=>grind
  |true=>
  have R:=Zr R;split
  case h_2=>grind
  rename_i ps u;split
  case h_2=>grind
  rename_i v Y;rw[r]at q;obtain⟨b,n,y,I,h2,h3,W,-⟩:=d.sr.at u;obtain⟨cs,t,fz,rfl,h4,h5⟩:=h3;have Z:F b=none:=W rfl;have a:∀c cs',F c=some cs'->(fun c=>if c=b then some cs else F c) c=some cs':=by
   grind
  have D:=(A2 h4 Y);have U:=D.len;have k:Le F ρ st.nx (fun c=>if c=b then some cs else F c) (An ρ id none) st.nx:=(Le.Nj a).trans<|Le.Ei id;have A:Le F (An ρ id none) st.nx (fun c=>if c=b then some cs else F c) (An ρ id none) st.nx:=Le.Nj a;have g:=d.sr.del id;have T:∀j m,An ρ id none j=some (b,m)->∀oj,Af (Cw st.ob id) j=some oj->False:=by
   intro j m i oj o;rw[Bh]at o;split at o
   ·cases o
   ·rename_i S;simp only[An,S,wi]at i;exact S<|d.sr.inj j id oj _ b m n o u i I
  have J:SR B h0 (fun c=>if c=b then some cs else F c) (An ρ id none) st.nx (Cw st.ob id) h:=by
   refine⟨fun j oj o=>?_,g.inj,fun c cs' w=>?_,g.own,g.dead,g.old,g.lt,g.le,fun c cs' w=>?_,g.gl,g.pn⟩
   ·obtain⟨c,m,z,i,G,L,g4,g5⟩:=g.obj j oj o;exact⟨c,m,z,i,G,L.mono A,ae,ae⟩
   ·split at w
    ·grind
    ·exact g.frz c cs' w
   ·split at w
    ·rename_i ec;subst ec;exact .inr (d.sr.own id c n I).2
    ·exact g.fo c cs' w
  have p:Rel B h0 (fun c=>if c=b then some cs else F c) (An ρ id none) (st.Cm id) fr h:=⟨⟨d.fp.n,fun t=>(d.fp.slot t).mono k⟩,J⟩;refine⟨_,_,p.note ?_,rfl,fun j o=>by unfold An;grind,a⟩;have M:=q.2 b n I;exact⟨b,0,cs,by rw[M],by simp,by omega,by rw[Zz,Zp a8];exact D.mono a⟩
 rename_i id sz off len cap r;split
 case h_2=>grind
 rename_i fz e s l u;cases hz:Zd sz s.sz with
 |false=>grind
 |true=>
 rw[r]at q;obtain⟨F1,i,G,L⟩:=Gd d.sr q;have K:As st (.sl id sz off len cap)=st.setObj id (.arr true e s l):=by simp[As,u]
 rw[K]at i;have k:Le F ρ st.nx F1 ρ st.nx:=⟨G,(by simp),Zb _⟩;have V:off+len<=l.length:=by
  obtain⟨b,n,y,I,_,⟨_,_,_,_,_,h6⟩,-⟩:=d.sr.at u;grind [PR]
 have P:AY st (.sl id sz off len cap)=some (true,.dat (.list s)<|(l.drop off).take len):=by
  simp_all [AY]
 have O:=L _ P;have p:Rel B h0 F1 ρ (st.setObj id<|.arr true e s l) fr h:=⟨⟨d.fp.n,fun t=>(d.fp.slot t).mono k⟩,i⟩;exact⟨F1,ρ,p.note<|O ρ _,rfl,fun _ _=>rfl,G⟩
theorem JS{fr:Fr}(base:Nat):∀(l:List (Nat×Sh)) {st:Ae} {F:Fz} {ρ:BB},Rel B h0 F ρ st fr h->∃F1 a,Rel B h0 F1 a (OE base l st) fr h/\(OE base l st).nx=st.nx/\(∀id,id<base->a id=ρ id)/\∀b cs,F b=some cs->F1 b=some cs
 |[],st,F,ρ,c=>⟨F,ρ,c,rfl,fun _ _=>rfl,fun _ _ h=>h⟩
 |x::l,st,F,ρ,c=>by
  obtain⟨F1,a,e,i,d,g⟩:=Qa c base x;obtain⟨F2,ρ2,h4,h5,h0'',h6⟩:=JS base l e;grind [OE]
theorem HO{st:Ae}{fr:Fr}{base:Nat}(c:Rel B h0 F ρ st fr h)(f:FuncId)(r:Nat)(i:base<=st.nx):
  ∃F1 ρ',Rel B h0 F1 ρ' (FC X f r base st) fr h/\base<=(FC X f r base st).nx/\(∀id,id<base->ρ' id=ρ id)/\∀b cs,F b=some cs->F1 b=some cs:=by
 obtain⟨F1,e,d,j,a,g⟩:=JS base (X.fz f r) c;obtain⟨ρ',g1,g2,g3⟩:=NH d base (X.pl f r) a8;grind [FC]
def CL(B:Nat)(h0:H0)(X:AG)(base n:Nat)(Q:PV->Ob->Prop)(k:DX->Ae->Tr)(F:Fz)(ρ:BB)(h:H)(nd:Bool)(run:Nat->Nat->Option (List Det.X))(ds:List Nat):Prop:=
 ∃l M,(∀m,M<=m->∀q,M<=q->run m q=some l)/\(nd=false->∃x,l=[x])/\∀x∈l,∃ps,(x.ds=ps++ds/\ps.Nodup/\∀b∈ps,h.nx<=b)/\∃n',n'<=n/\∃a,Ev X Q n' (k x.e a)/\∃F' ρ',Rel B (h0.pins ps) F' ρ' a x.fr x.h/\base<=a.nx/\Le F ρ base F' ρ' base/\h.nx<=x.h.nx
theorem Le.low{F F':Fz}{ρ ρ':BB}{N N' base:Nat}(a:Le F ρ N F' ρ' N')(b:base<=N):Le F ρ base F' ρ' base:=
 ⟨a.fz,fun id h=>a.rho id a8,Zb _⟩
theorem GI{nd ro:Bool}{d:Nat}{f:FuncId}{base:Nat}{rv:Option Nat}{ct:Bool}(hrv:ro=false->rv=none/\ct=true)(hcall:∀h0,B8 B h0 X nd<|AP X nd d)(hcallD:∀h0,B8 B h0 X false<|AP X false d){Q:PV->Ob->Prop}:∀(n:Nat) (c:Code) {h0:H0} {st:Ae} {k:DX->Ae->Tr} {F:Fz} {ρ:BB} {fr:Fr} {h:H} (ds:List Nat),base<=st.nx->Rel B h0 F ρ st fr h->
  Ev X Q n (exec X (AP X nd d) (AP X false d) nd ro d f base c st k)->CL B h0 X base n Q k F ρ h nd (fun m q=>Ar X.C (Aj X.C m) rv ct q c fr h ds) ds:=by
 intro n;induction n using Nat.strongRecOn with
 |_ n IH=>
 have one:∀ {h0:H0} {e:DX} {st:Ae} {k:DX->Ae->Tr} {F:Fz} {ρ:BB} {fr:Fr} {h:H} {ds:List Nat} {c:Code},base<=st.nx->Rel B h0 F ρ st fr h->Ev X Q n (k e st)->(∀m q,1<=q->Ar X.C (Aj X.C m) rv ct q c fr h ds=some [⟨e,fr,h,ds⟩])->
   CL B h0 X base n Q k F ρ h nd (fun m q=>Ar X.C (Aj X.C m) rv ct q c fr h ds) ds:=by
  intro h0 e st k F ρ fr h ds c A D v hd;exact⟨[⟨e,fr,h,ds⟩],1,ae,(by simp),fun x L=>by
   cases Za.1 L;exact⟨[],(by simp),n,Zb _,st,v,F,ρ,D,A,Zi,Zb _⟩⟩
 have E:∀ {q:Nat},1<=q->∃q',q=q'+1:=fun h=>⟨_,(Nat.succ_pred_eq_of_pos h).symm⟩
 have chain:∀ {h0:H0} {F:Fz} {ρ:BB} {h:H} {ds:List Nat} {k k2:DX->Ae->Tr} {n1:Nat} {run:Nat->Nat->Option (List Det.X)} {run2:Nat->Nat->Det.X->Option (List Det.X)},n1<=n->CL B h0 X base n1 Q k2 F ρ h nd run ds->
   (∀(x:Det.X) (ps:List Nat),∀n1',n1'<=n1->∀u,Ev X Q n1' (k2 x.e u)->∀F' ρ',Rel B (h0.pins ps) F' ρ' u x.fr x.h->base<=u.nx->CL B (h0.pins ps) X base n Q k F' ρ' x.h nd (fun m q=>run2 m q x) x.ds)->
   CL B h0 X base n Q k F ρ h nd (fun m q=>match run m q with|some l=>bl l (run2 m q)|none=>none) ds:=by
  rintro h0 F ρ h ds k k2 n1 run run2 hn1 ⟨l,M,G,Y,h3⟩ hnext;obtain⟨r,M2,g1,g2,g3⟩:=D2 (f:=run2) (P:=fun x=>∃ps,(x.ds=ps++ds/\ps.Nodup/\∀b∈ps,h.nx<=b)/\∃n',n'<=n/\∃u,Ev X Q n' (k x.e u)/\∃F' ρ',Rel B (h0.pins ps) F' ρ' u x.fr x.h/\base<=u.nx/\Le F ρ base F' ρ' base/\h.nx<=x.h.nx) Y fun x L=>by
   obtain⟨Z,⟨k0,kn,kl⟩,n',k1,u,k2',F',ρ',k3,k4,k5,k6⟩:=h3 x L;obtain⟨r,M,j1,j2,j3⟩:=hnext x Z n' k1 u k2' F' ρ' k3 k4;refine⟨r,M,j1,j2,fun y hy=>?_⟩;obtain⟨ps2,⟨i0,i0n,i0l⟩,n2,i1,W,i2,F2,R,i3,i4,i5,i6⟩:=j3 y hy;refine⟨ps2++Z,⟨by grind,?_,fun b A=>?_⟩,n2,i1,W,i2,F2,R,by grind [N4],i4,k5.trans i5,a8⟩
   ·rw[List.nodup_append];refine⟨i0n,kn,fun a ha b A e=>?_⟩;have G:=i0l a ha;have Y:=k3.sr.lt b _ (k3.sr.pn b<|List.mem_append_left _ A).1;omega
   grind
  exact⟨r,max M M2,ae,g2,g3⟩
 have stepq:∀ {h0:H0} {F:Fz} {ρ:BB} {h:H} {ds:List Nat} {k:DX->Ae->Tr} {run run':Nat->Nat->Option (List Det.X)},CL B h0 X base n Q k F ρ h nd run ds->(∀m q,run' m (q+1)=run m q)->CL B h0 X base n Q k F ρ h nd run' ds:=by
  rintro h0 F ρ h ds k run run' ⟨l,M,G,Y,h3⟩ v;refine⟨l,M+1,fun m hm q V=>?_,Y,h3⟩;obtain⟨q',rfl⟩:=E (show 1<=q by omega);grind
 intro c;induction c with
 |skip=>
  intro h0 st k F ρ fr h ds A D v;exact one A D v (fun m q V=>by obtain⟨q',rfl⟩:=E V;rfl)
 |label l=>
  intro h0 st k F ρ fr h ds A D v;exact one A D v (fun m q V=>by obtain⟨q',rfl⟩:=E V;rfl)
 |exit i=>
  intro h0 st k F ρ fr h ds A D v;exact one A D v (fun m q V=>by obtain⟨q',rfl⟩:=E V;rfl)
 |ret=>
  intro h0 st k F ρ fr h ds A D v;exact one A D v (fun m q V=>by obtain⟨q',rfl⟩:=E V;rfl)
 |region id ops dr=>
  intro h0 st k F ρ fr h ds A D v;unfold exec at v;cases dr with
  |true=>
   simp only[wb]at v;cases hst:(!ro||Di ops (BS ops))with
   |false=>grind [Ev.Ad]
   |true=>
   rw[hst]at v;simp only[wb]at v;have hdd:∀call,(bif ct then DP X.C call ops fr h else KN X.C call ops fr h)=DP X.C call ops fr h:=by
    intro call;cases hro:ro with
    |false=>grind
    |true=>
     rw[hro]at hst;have hst:Di ops (BS ops)=true:=hst;simp_all [KN]
   obtain⟨n',hn,u,w,F',ρ',fr',h',K,M,hM⟩:=N9 (hcallD h0) D v;refine⟨[⟨.normal,fr',h',ds⟩],M+1,fun m hm q V=>?_,(by simp),fun x L=>?_⟩
   ·obtain⟨q',rfl⟩:=E (show 1<=q by omega);have:=hM m a8;simp only[Ar,wb];grind
   ·cases Za.1 L;exact⟨[],(by simp),n',hn,u,w,F',ρ',K.rel,Zn A K.le.n,K.le.low A,K.nx⟩
  |false=>
   simp only[wc]at v;obtain⟨r,M,hM,hone,hall⟩:=JU (hcall h0) D v;refine⟨r.map fun x=>⟨.normal,x.1,x.2,ds⟩,M+1,fun m hm q V=>?_,fun e=>?_,fun x L=>?_⟩
   ·obtain⟨q',rfl⟩:=E (show 1<=q by omega);simp only[Ar,wc,hM m a8]
   ·obtain⟨y,rfl⟩:=hone e;simp
   ·obtain⟨y,hy,rfl⟩:=ZE.1 L;obtain⟨n',hn,u,w,F',ρ',K⟩:=hall y hy;exact⟨[],(by simp),n',hn,u,w,F',ρ',K.rel,Zn A K.le.n,K.le.low A,K.nx⟩
 |seq a b iha ihb=>
  intro h0 st k F ρ fr h ds A D v;unfold exec at v;refine stepq (chain (run2:=fun m q x=>match x.e with| .normal=>Ar X.C (Aj X.C m) rv ct q b x.fr x.h x.ds|_=>some [x]) a8 (iha ds A D v) fun x Z n1 hn1 u w F' ρ' T hb1=>?_)<|fun m q=>rfl;obtain⟨e,U,G,J⟩:=x;cases e with
  |normal=>
   have rest:∀ {W:Ae} {F2:Fz} {R:BB} {n2:Nat},n2<=n->Rel B (h0.pins Z) F2 R W U G->base<=W.nx->(∀id,id<base->R id=ρ' id)->(∀b cs,F' b=some cs->F2 b=some cs)->Ev X Q n2 (exec X (AP X nd d) (AP X false d) nd ro d f base b W k)->
     CL B (h0.pins Z) X base n Q k F' ρ' G nd (fun m q=>Ar X.C (Aj X.C m) rv ct q b U G J) J:=by
    intro W F2 R n2 hn2 hr2 hb2 hρ2 hF2 I;have hl0:Le F' ρ' base F2 R base:=⟨hF2,ae,Zb _⟩;have hc:CL B (h0.pins Z) X base n Q k F2 R G nd (fun m q=>Ar X.C (Aj X.C m) rv ct q b U G J) J:=by
     by_cases hlt:n2<n
     ·obtain⟨l,M,G,Y,h3⟩:=IH n2 hlt b J hb2 hr2 I;exact⟨l,M,G,Y,ae⟩
     grind
    obtain⟨l,M,G,Y,h3⟩:=hc;exact⟨l,M,G,Y,fun x L=>by
     obtain⟨ps,k0,n3,k1,st3,k2,F3,ρ3,k3,k4,k5,k6⟩:=h3 x L;exact⟨ps,k0,n3,k1,st3,k2,F3,ρ3,k3,k4,hl0.trans k5,k6⟩⟩
   simp only at w;cases hct:X.ct f (Au b)with
   |false=>grind
   |true=>
    rw[hct]at w;simp only[wb]at w;cases w with
    |cut w=>
     obtain⟨F2,ρ0,hr0,hb0,hρ0,hF⟩:=HO T f (Au b) hb1;exact rest hn1 hr0 hb0 hρ0 hF w
  |exit i=>exact⟨[⟨.exit i,U,G,J⟩],0,(by simp),(by simp),fun x L=>by cases Za.1 L;exact⟨[],(by simp),n1,hn1,u,w,F',ρ',T,hb1,Zi,Zb _⟩⟩
  |ret=>exact⟨[⟨.ret,U,G,J⟩],0,(by simp),(by simp),fun x L=>by cases Za.1 L;exact⟨[],(by simp),n1,hn1,u,w,F',ρ',T,hb1,Zi,Zb _⟩⟩
 |cond x a b iha ihb=>
  intro h0 st k F ρ fr h ds A D v;unfold exec at v;have go:∀ {t:Bool} {u:Ae},ev X.C fr x=some (.bool t)->Rel B h0 F ρ u fr h->base<=u.nx->Ev X Q n (bif t then exec X (AP X nd d) (AP X false d) nd ro d f base a u k else exec X (AP X nd d) (AP X false d) nd ro d f base b u k)->CL B h0 X base n Q k F ρ h nd (fun m q=>Ar X.C (Aj X.C m) rv ct q (.cond x a b) fr h ds) ds:=by
   grind [Ar]
  split at v
  case h_4=>grind [Ev.Ad]
  case h_3=>
   rename_i ht;obtain⟨y,g1,g2⟩:=AH (C:=X.C) D.fp ht;simp only[PR]at g2;obtain⟨t,rfl⟩:=g2;split at v
   case h_2=>grind [Ev.Ad]
   rename_i s;have hs:fr.get s=.bool t:=by simpa [ev]using g1
   obtain⟨w,I⟩:=v.JP;cases t with
   |true=>exact go g1 (D.note<|by rw[hs];rfl) A w
   |false=>exact go g1 (D.note<|by rw[hs];rfl) A I
  case h_1=>
   rename_i t ht;obtain⟨y,g1,g2⟩:=AH (C:=X.C) D.fp ht;obtain rfl:=Hm g2;grind
  case h_2=>
   rename_i t ht;obtain⟨y,g1,g2⟩:=AH (C:=X.C) D.fp ht;obtain rfl:=EZ g2;split at v
   case h_1=>
    rename_i s;have hs:fr.get s=.bool t:=by simpa [ev]using g1
    rcases v.BV with⟨S,I⟩|⟨S,I⟩
    ·have S:t=true:=S;subst S;exact go g1 (D.note<|by rw[hs];rfl) A I
    ·have S:t=false:=S;subst S;exact go g1 (D.note<|by rw[hs];rfl) A I
   case h_2=>
    rcases v.BV with⟨S,I⟩|⟨S,I⟩
    ·grind
    grind
 |block id b ih=>
  intro h0 st k F ρ fr h ds A D v;unfold exec at v;obtain⟨l,M,G,Y,h3⟩:=ih ds A D v;refine⟨l.map fun x=>match x.e with
    | .exit i=>bif Zd i id then { x with e:=.normal }else x
    |_=>x,M+1,fun m hm q V=>?_,fun e=>?_,fun y hy=>?_⟩
  ·obtain⟨q',rfl⟩:=E (show 1<=q by omega);grind [Ar]
  ·grind
  grind
 |loop b ih=>
  intro h0 st k F ρ fr h ds A D v;unfold exec at v;cases v with
  |@loop n0 _ _ _ _ _ _ _ _ v=>
  obtain⟨F0,ρ0,hr0,hb0,hρ0,hF0⟩:=HO D f (Au b) A;have hl0:Le F ρ base F0 ρ0 base:=⟨hF0,ae,Zb _⟩;unfold body at v;have hbody:=IH n0 (Nat.lt_succ_self _) b ds hb0 hr0 v;have hch:CL B h0 X base (n0+1) Q k F0 ρ0 h nd (fun m q=>match Ar X.C (Aj X.C m) rv ct q b fr h ds with|some l=>bl l (fun x=>match x.e with| .normal=>Ar X.C (Aj X.C m) rv ct q (.loop b) x.fr x.h x.ds|_=>some [x])|none=>none) ds:=by
   refine chain (run2:=fun m q x=>match x.e with| .normal=>Ar X.C (Aj X.C m) rv ct q (.loop b) x.fr x.h x.ds|_=>some [x]) a8 hbody fun x Z n1 hn1 u w F' ρ' T hb1=>?_
   obtain⟨e,U,G,J⟩:=x;cases e with
   |normal=>
    have he1':Ev X Q n1 (exec X (AP X nd d) (AP X false d) nd ro d f base (.loop b) u k):=by unfold exec;exact w
    obtain⟨l,M,G,Y,h3⟩:=IH n1 a8 (.loop b) J hb1 T he1';exact⟨l,M,G,Y,ae⟩
   |exit i=>exact⟨[⟨.exit i,U,G,J⟩],0,(by simp),(by simp),fun x L=>by cases Za.1 L;exact⟨[],(by simp),n1,by omega,u,w,F',ρ',T,hb1,Zi,Zb _⟩⟩
   |ret=>exact⟨[⟨.ret,U,G,J⟩],0,(by simp),(by simp),fun x L=>by cases Za.1 L;exact⟨[],(by simp),n1,by omega,u,w,F',ρ',T,hb1,Zi,Zb _⟩⟩
  obtain⟨l,M,g1,g2,g3⟩:=stepq (run':=fun m q=>Ar X.C (Aj X.C m) rv ct q (.loop b) fr h ds) hch<|fun m q=>rfl;refine⟨l,M,g1,g2,fun x L=>?_⟩;obtain⟨ps,k0,n2,k1,W,k2,F2,R,k3,k4,k5,k6⟩:=g3 x L;exact⟨ps,k0,n2,k1,W,k2,F2,R,k3,k4,hl0.trans k5,k6⟩
 |scope b ih=>
  intro h0 st k F ρ fr h ds A D v;unfold exec at v;exact stepq (ih ds A D v)<|fun m q=>rfl
 |rangeFunc g ps a b _ _=>
  intro h0 st k F ρ fr h ds A D v;unfold exec at v;cases hro:ro with
  |true=>grind [Ev.Ad]
  |false=>
  rw[hro]at v;obtain⟨rfl,rfl⟩:=hrv hro;simp only[wc]at v;split at v
  case h_2=>grind [Ev.Ad]
  rename_i gf first cap hg
  obtain⟨pq,hprim⟩:∃pq,X.C.prim gf=pq:=⟨_,rfl⟩;cases pq with
  |some q0=>grind [Ev.Ad]
  |none=>
  rw[hprim]at v;simp only[Option.isSome_none,wc]at v;obtain⟨gv,g1,g2⟩:=AH (C:=X.C) D.fp hg;simp only[PR]at g2;obtain⟨fa,fb,rfl,f1,f2⟩:=g2;have T:=D.sr.mark;have hr2:=T.push (o:=.lp f (Au b) ps a b .ready st.n<|EP X f (Au b) st) (x:=.loop ⟨.ready,none,fr,ps,a,b,h.nx⟩) (n:=0) rfl
   ⟨_,rfl,rfl,rfl,rfl,⟨rfl,rfl⟩,D.fp.n.symm,fun t=>by
    have hl:=Le.new (F:=F) (ρ:=ρ) (N:=st.nx) ((h.push<|.defd true).nx,0);unfold HL EP;cases hp:(BW<|(X.pl f<|Au b).map fun t=>(t,st.get t)).get t with
    |none=>simp[PR]
    |some p=>
     rcases Cy _ .leaf t p hp with G|G
     ·simp only[ZE]at G;obtain⟨s,_,Y⟩:=G;cases Y;exact(D.fp.slot _).mono hl
     ·simp at G⟩
  have hle2:Le F ρ st.nx F (An ρ st.nx<|some (h.nx+1,0)) (st.nx+1):=Le.new _;have hrel2:Rel B (h0.pins [h.nx]) F (An ρ st.nx<|some (h.nx+1,0)) (st.push<|.lp f (Au b) ps a b .ready st.n<|EP X f (Au b) st) fr ((h.push<|.defd true).push<|.loop ⟨.ready,none,fr,ps,a,b,h.nx⟩):=
   ⟨⟨D.fp.n,fun t=>(D.fp.slot t).mono hle2⟩,hr2⟩
  have hargs:Ay F (An ρ st.nx<|some (h.nx+1,0)) (st.push<|.lp f (Au b) ps a b .ready st.n<|EP X f (Au b) st).nx (first++[.yl st.nx]++cap) (fa++[.yld<|h.nx+1]++fb):=by
   refine((f1.mono hle2).append ?_).append<|f2.mono hle2;simp only[Ax,Bs,wh,PR];exact⟨a8,(by grind [An])⟩
  obtain⟨l,hcd,hone,hall⟩:=hcall _ v hrel2 hargs;obtain⟨i,M,hfn,hM⟩:∃i M,X.C.fn gf=some i/\∀m,M<=m->Aj X.C m (.fn gf<|fa++[.yld<|h.nx+1]++fb) ((h.push<|.defd true).push<|.loop ⟨.ready,none,fr,ps,a,b,h.nx⟩)=some l:=by
   cases hcd with
   |Aj hc hM=>obtain⟨rfl,_,i,hfn⟩:=hc;exact⟨i,_,hfn,hM⟩
   |prim V _=>grind
  have hdc:Dk X.C ((h.push<|.defd true).push<|.loop ⟨.ready,none,fr,ps,a,b,h.nx⟩) (.fn (.func gf) fa fb) [.yld<|h.nx+1]=some (.enter gf<|fa++[.yld<|h.nx+1]++fb):=by
   grind [Dk]
  have fin:∀x∈l,∃(r:List Det.X) (M:Nat),(∀m:Nat,M<=m->∀q:Nat,M<=q->(match x.2.get (h.nx+1)with
      |some (.loop ls)=>match ls.st,ls.pend with
       | .busy,_=>none
       |_,none=>some [⟨.normal,fr,x.2.put (h.nx+1)<|.loop { ls with st:=.exhausted },h.nx::ds⟩]
       |_,some c=>Ar X.C (Aj X.C m) none false q c fr (x.2.put (h.nx+1)<|.loop { ls with st:=.exhausted }) (h.nx::ds)
      |_=>none)=some r)/\(nd=false->∃x,r=[x])/\∀y∈r,∃ps,(y.ds=ps++ds/\ps.Nodup/\∀b∈ps,h.nx<=b)/\∃n',n'<=n/\∃u,Ev X Q n' (k y.e u)/\∃F' ρ',Rel B (h0.pins ps) F' ρ' u y.fr y.h/\base<=u.nx/\Le F ρ base F' ρ' base/\h.nx<=y.h.nx:=by
   intro x L;obtain⟨n1,hn1,r,st',w,F',ρ',_,K,_⟩:=hall x L;split at w
   case h_2=>grind [Ev.Ad]
   rename_i f' r' ps' asg' body' s n' sl hob;obtain⟨bb,nn,y,k1,k2,⟨ls,rfl,-,-,-,hlp,-⟩,-⟩:=K.rel.sr.at hob;have hN:st.nx<st.nx+1:=a8;have kk:An ρ st.nx (some (h.nx+1,0)) st.nx=some (bb,nn):=K.le.at hN k1;simp only[An,wg,Zf,Zl]at kk;obtain⟨rfl,rfl⟩:=kk;have hpin:∀p∈(h0.pins [h.nx]).pin,h.nx+1≠p:=fun p hp e=>(K.rel.sr.pn p hp).2.2 _ _<|e▸k1
   have hdel:=K.rel.sr.del st.nx;have hput:∀z:O,Rel B (h0.pins [h.nx]) F' (An ρ' st.nx none) (st'.Cm st.nx) fr (x.2.put (h.nx+1) z):=by
    intro z;have hl:Le F' ρ' st'.nx F' (An ρ' st.nx none) st'.nx:=Le.Ei _;refine⟨⟨K.rel.fp.n,fun t=>(K.rel.fp.slot t).mono hl⟩,?_⟩;refine hdel.MS (fun id o m ho e=>?_) ?_ (K.rel.sr.own _ _ _ k1).2 (fun hp=>hpin _ hp rfl) k2
    ·rw[Bh]at ho;split at ho
     ·cases ho
     ·rename_i hne;simp only[An,hne,wi]at e;exact hne<|K.rel.sr.inj id st.nx o _ _ m 0 ho hob e k1
    ·cases hF:F' (h.nx+1)with
     |none=>rfl
     |some cs=>obtain⟨t,fz,g⟩:=K.rel.sr.frz _ cs hF;rw[k2]at g;cases g
   have hbase:base<=(st'.Cm st.nx).nx:=Zn A<|Zn (Nat.le_succ _) K.le.n;have hLe:Le F ρ base F' (An ρ' st.nx none) base:=by
    refine(hle2.low A).trans<|(K.le.low<|Zn A<|Nat.le_succ _).trans ?_;exact(Le.Ei (F:=F') (ρ:=ρ') (N:=base) st.nx)
   have hnx:h.nx<=x.2.nx:=Zn (by show h.nx<=h.nx+1+1;omega) K.nx;have done:∀ {e:DX} {z:O},Ev X Q n1 (k e<|st'.Cm st.nx)->∃ps,((⟨e,fr,x.2.put (h.nx+1) z,h.nx::ds⟩:Det.X).ds=ps++ds/\ps.Nodup/\∀b∈ps,h.nx<=b)/\∃n',n'<=n/\∃u,Ev X Q n' (k e u)/\∃F' ρ',Rel B (h0.pins ps) F' ρ' u fr (x.2.put (h.nx+1) z)/\base<=u.nx/\Le F ρ base F' ρ' base/\h.nx<=(x.2.put (h.nx+1) z).nx:=by
    intro e z I;exact⟨[h.nx],⟨rfl,(by simp),fun b A=>by cases Za.1 A;exact Zb _⟩,n1,hn1,_,I,F',_,hput z,hbase,hLe,hnx⟩
   obtain⟨lst,lpend,lfr,lps,lasg,lbody,ldb⟩:=ls;simp only at hlp;split at w
   case h_1=>
    obtain⟨rfl,rfl⟩:=hlp;exact⟨[⟨.normal,fr,x.2.put (h.nx+1)<|.loop ⟨.exhausted,none,lfr,lps,lasg,lbody,ldb⟩,h.nx::ds⟩],0,fun m _ q _=>(by simp only[k2]),fun _=>⟨_,rfl⟩,fun y hy=>by cases Za.1 hy;exact done w⟩
   case h_2=>
    obtain⟨rfl,rfl⟩:=hlp;exact⟨[⟨.ret,fr,x.2.put (h.nx+1)<|.loop ⟨.exhausted,some .ret,lfr,lps,lasg,lbody,ldb⟩,h.nx::ds⟩],1,fun m _ q V=>(by obtain⟨q',rfl⟩:=E V;simp only[k2,Ar]),fun _=>⟨_,rfl⟩,fun y hy=>by cases Za.1 hy;exact done w⟩
   case h_3=>
    rename_i j;obtain⟨rfl,rfl⟩:=hlp;exact⟨[⟨.exit j,fr,x.2.put (h.nx+1)<|.loop ⟨.exhausted,some<|.exit j,lfr,lps,lasg,lbody,ldb⟩,h.nx::ds⟩],1,fun m _ q V=>(by obtain⟨q',rfl⟩:=E V;simp only[k2,Ar]),fun _=>⟨_,rfl⟩,fun y hy=>by cases Za.1 hy;exact done w⟩
   case h_4=>exact wd w Ev.Ad
  obtain⟨r,M2,j1,j2,j3⟩:=D2 hone fin;refine⟨r,max M M2+1,fun m hm q V=>?_,j2,j3⟩;obtain⟨q',rfl⟩:=E (show 1<=q by omega);have G:=hM m a8;have Y:=j1 m a8 q' a8;simp only[Ar,Jl,g1];show(match Dk X.C ((h.push<|.defd true).push<|.loop ⟨.ready,none,fr,ps,a,b,h.nx⟩) (.fn (.func gf) fa fb) [.yld<|h.nx+1]with|some (.enter f args)=>_|_=>none)=_;rw[hdc];simp only[G];exact Y
 |goto l=>intro h0 st k F ρ fr h ds A D v;exact wd v Ev.Ad
 |refuse s=>intro h0 st k F ρ fr h ds A D v;exact wd v Ev.Ad
end
end Go.Pe
