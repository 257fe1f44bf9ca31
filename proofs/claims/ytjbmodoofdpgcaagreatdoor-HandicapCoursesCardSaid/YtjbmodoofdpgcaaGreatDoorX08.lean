import Derived.Test.YtjbmodoofdpgcaaGreatDoorX07
/- A part of a proof; no law is stated here. -/
noncomputable section
open List renaming mem_singleton -> zc, take_of_length_le -> zr, replicate -> zt, drop_eq_getElem_cons -> zw, getElem?_eq_some_iff -> zx, length_eq_zero_iff -> z6, drop_zero -> yb, all_cons -> ye, mem_map -> yg
open Nat renaming le_refl -> zd, beq -> zf, eq_of_beq_eq_true -> zg, ble -> zi, blt -> zl, mul_le_mul_right -> zm, le_trans -> zp, le_of_ble_eq_true -> zu, zero_mul -> z7, add_mul -> yc
open Bool renaming and_eq_true -> ze, and_true -> zy
open Option.some renaming injEq -> zh
open Option renaming map_eq_some_iff -> zj, getD_some -> zz, map_some -> z8
open Go.Pe.Le renaming refl -> zk
open Prod.mk renaming injEq -> zn
open Go.Pe.OK renaming pure -> zo
open List.cons renaming injEq -> zq
open Go.Pe renaming apart -> yd, BN -> yh
open Go.Det.V renaming beq -> yf
namespace Go.Pe
open Go.Det
section
variable {B:Nat}{h0:H0}{F:Fz}{ρ:DH}{N:Nat}{C:Ctx}{st st':AF}{fr:Fr}{h h':H}
theorem SR.Ze{ob:Ob}(d:SR B h0 F ρ N ob h){o:Obj}{x:O}{b n:Nat}(hg:h.get b=some x)(q:∀id o m,AK ob id=some o->ρ id≠some (b,m))(Y:F b=none)(S:h0.Xd B b)(Z:b∉h0.pin)(R:o.frozen=false)
  (M:Vb F (Bl ρ N<|some (b,n)) (N+1) n o x):SR B h0 F (Bl ρ N<|some (b,n)) (N+1) ((N,o)::ob) h:=by
 have z:Le F ρ N F (Bl ρ N<|some (b,n)) (N+1):=Le.new _;have a:∀j,AK ((N,o)::ob) j=if j=N then some o else AK ob j:=by
  simp only[AK,Bj];grind
 refine⟨fun j oj g=>?_,fun i j oi oj c m v w g s p=>?_,d.frz,fun id c m r=>?_,fun j g=>?_,d.old,d.lt,d.le,d.fo,d.gl,fun c J=>?_⟩
 ·rw[a]at g;by_cases e:j=N
  ·grind [Bl]
  ·rw[wc e]at g;obtain⟨c,m,y,s,p,E,K⟩:=d.obj j oj g;exact⟨c,m,y,by simp[Bl,e,s],p,E.mono z,K⟩
 ·rw[a]at w g;have key:∀k ok m,(if k=N then some o else AK ob k)=some ok->Bl ρ N (some (b,n)) k=some (c,m)->(k=N/\c=b)\/(k≠N/\AK ob k=some ok/\ρ k=some (c,m)/\c≠b):=by
   intro k ok m P l;by_cases e:k=N
   ·simp_all [Bl]
   ·simp only[Bl,e,vf]at l;grind
  rcases key i oi m w s with⟨D,t⟩|⟨D,t,I,U⟩<;>rcases key j oj v g p with⟨A,u⟩|⟨A,u,G,W⟩
  ·omega
  ·omega
  ·omega
  ·exact d.inj i j oi oj c m v t u I G
 ·unfold Bl at r;split at r
  ·grind
  ·have:=d.own id c m r;grind
 ·rw[a]at g;by_cases e:j=N
  ·grind
  ·rw[wc e]at g;simp[Bl,e,d.dead j g]
 ·obtain⟨T,L,V⟩:=d.pn c J;grind [Bl]
theorem NZ{off:Nat}{cs:List V}(h:off<=cs.length):Ce off [] cs=cs:=by
 apply List.ext_getElem?;simp_all [GA,wc]
theorem R2{off:Nat}{vs cs:List V}(h:off+vs.length<=cs.length):Ce off vs cs=cs.take off++(vs++cs.drop (off+vs.length)):=by
 apply List.ext_getElem?;intro j;rw[GA h];grind
theorem Dc.bH{s:Sh}{l new:List s.T}{cs c:List V}{a:Nat}(h:Dc F s l cs)(e:Dc F s new c)(i:a+new.length<=l.length):
  Dc F s (l.take a++(new++l.drop (a+new.length))) (Ce (a*s.sz) c cs):=by
 have k:=h.1;have g:=e.1;have j:(a+new.length)*s.sz<=l.length*s.sz:=zm _ i;rw[R2 ah];have b:=h.part (off:=0) (len:=a) ae;have d:=h.part (off:=a+new.length) (len:=l.length-(a+new.length)) ae;rw[z7,yb,yb]at b;rw[zr (by simp),zr<|by simp_all [Nat.sub_mul]]at d;rw[g, <-yc];exact b.append<|e.append d
def EX:List PV->List Nat
 | .sl id _ _ _ _::_=>[id]
 |_=>[]
theorem Yo{s b:Sh}{x:b.T}{c:Bool}{l:List s.T}(d:Nx st s (.dat b x)=some (c,l)):c=true:=by
 unfold Nx at d;cases b with
 |list a=>
  grind [zj,G4,lz]
 |nlist a=>
  grind [zj,G4,lz]
 |str=>
  grind [zj,G4,lz]
 |_=>cases d
theorem dL(M:SR B h0 F ρ st.nx st.ob h){ts:Array TypeId}{ps:List PV}{xs:List V}(O:BB F ρ st.nx ps xs){v:PV}(d:(Qa C.T ts ps st).To v st'):OK B h0 F ρ st h (EX ps) (EG<|FJ C.T h ts xs) v st':=by
 unfold Qa at d;split at d
 case h_2=>simp at d
 rename_i t tx p q hts htx;simp only[BB]at O;obtain⟨x,_,rfl,O,y,_,rfl,hy,rfl⟩:=O;split at d
 case h_2=>simp at d
 rename_i e ex hu hux;have hss:Rp ex=true:=by
  cases hq:Rp ex with
  |true=>rfl
  |false=>simp_all
 rw[hss]at d;simp only[we]at d;split at d
 case h_2=>simp at d
 rename_i i s hi hs;cases hc:(zl 0 i.bytes&&zl 0 i.size&&zf i.zero.length i.size&&zf i.size s.sz)with
 |false=>simp_all
 |true=>
  rw[hc]at d;simp only[ze]at hc;obtain⟨⟨⟨c1,c2⟩,c3⟩,c4⟩:=hc;have e4:=zg c4;simp only[we]at d;split at d
  case h_2=>simp at d
  rename_i c new hel;have head:c=true->∃cs,src h i.size y new.length=some cs/\Dc F s new cs/\FJ C.T h ts [x,y]=(match x with
      | .nils=>bif zf new.length 0 then some (.nils,h)
       else bif zi ((3*new.length+2000)*i.bytes) 562949953421312 then some (.sl h.nx 0 new.length new.length i.size,HV h e cs)else none
      | .es0=>bif zf new.length 0 then some (.es0,h)
       else bif zi ((3*new.length+2000)*i.bytes) 562949953421312 then some (.sl h.nx 0 new.length new.length i.size,HV h e cs)else none
      | .esl=>bif zf new.length 0 then some (.esl,h)else none
      | .sl b off len cap o=>
       bif zi (len+new.length) cap then(wr h b (off+len*i.size) cs).map fun h'=>(.sl b off (len+new.length) cap o,h')
       else bif zi ((3*(len+new.length)+2000)*i.bytes) 562949953421312 then
        match src h i.size x len with
        |some old=>
         bif zf o 0 then some (.sl h.nx 0 (len+new.length) (len+new.length) i.size,HV h e<|old++cs)
         else
          match h.get b with
          |some (.cells _ te fz)=>
           bif zf off 0&&zf o i.size&&zf te e&&zi fz.2 fz.1&&cs.all V.one then some (.sl h.nx 0 (len+new.length) (len+new.length) i.size,(h.kill b).push<|.cells (old++cs) e (0,0))
           else none
          |_=>none
        |none=>none
       else none
      |_=>none):=by
   intro hc;obtain⟨g1,E,cs,L,g4⟩:=Xw M hy hel hc;rw[<-e4]at L;refine⟨cs,L,g4,?_⟩;have hcond:(zl 0 i.bytes&&zl 0 i.size&&zf i.zero.length i.size&&(zf i.size 1||Nb y))=true:=by
    grind
   have hint:isInt ex=false:=by cases ex<;>first|rfl|cases hss
   simp only[FJ,hts,htx,hu,hux,g1,hi,hint,hcond,we,L];cases x<;>rfl
  split at d
  case h_3=>simp at d
  case h_1=>
   simp only[PR]at O;subst O;have grow:c=true->0<new.length->(3*new.length+2000)*i.bytes<=cS->OK B h0 F ρ st h (EX [PV.nil,q]) (EG<|FJ C.T h ts [.nils,y]) (.sl st.nx s.sz 0 new.length none) (st.push<|.arr false e s new):=by
    intro Z k2 k3;obtain⟨cs,g1,E,L⟩:=head Z;have P:zf new.length 0=false:=by grind [Bj]
    have b2:zi ((3*new.length+2000)*i.bytes) 562949953421312=true:=Nat.ble_eq_true_of_le k3;rw[L];simp only[P,b2,wg,we];exact OK.new M (o:=.arr false e s new) (n:=new.length) rfl ⟨_,_,rfl,E,zd _,rfl⟩ (Oy<|.inr e4)
   have same:c=true->new.length=0->OK B h0 F ρ st h (EX [PV.nil,q]) (EG<|FJ C.T h ts [.nils,y]) .nil st:=by
    intro Z k2;obtain⟨cs,g1,E,L⟩:=head Z;have P:zf new.length 0=true:=by rw[k2];rfl
    rw[L];simp only[P,we];exact⟨.nils,h,F,ρ,.inl rfl,by simp[PR],M,zk,rfl,rfl,zd _,(by simp)⟩
   split at d
   case h_1=>
    simp_all [Nx,G4,lz]
   case h_2=>
    have hc':c=true:=by
     exact Yo hel
    by_cases Y:0<new.length
    ·rw[w4 Y]at d;cases d with
     |tt d=>
      simp_all
    ·rw[w8 Y]at d;cases d with
     |ff d=>
      simp_all
   case h_3=>
    by_cases Y:0<new.length
    ·rw[w4 Y]at d;cases d with
     |tt d=>
      simp_all
    ·rw[w8 Y]at d;cases d with
     |ff d=>
      simp_all
   simp_all
  case h_2=>
   rename_i id sz off len cap;split at d
   case h_2=>simp at d
   rename_i e' r l ho;split at d
   case h_2=>simp at d
   rename_i l' hl';obtain⟨ecast,hcast⟩:=Cm hl';have es:r=s:=ah
   subst es;have:l'=l:=ah
   subst this;cases R:(zf e e'&&zf sz r.sz)with
   |false=>simp_all
   |true=>
    rw[R]at d;simp only[ze]at R;have ee:=zg R.1;have esz:=zg R.2;subst ee;subst esz;simp only[we]at d;split at d
    case h_2=>
     rename_i k;simp only[BV,ze,w5]at d;obtain⟨⟨⟨Z,k2⟩,k3⟩,rfl,rfl⟩:=d;obtain⟨cs,g1,E,L⟩:=head Z;obtain⟨b,n,z,h1,h2,⟨bs,fz,rfl,h3,h4,h5⟩,h6,_⟩:=M.at ho;simp only[PR]at O;rw[L];have hone:cs.all V.one=true:=E.Tt;have hcl:cs.length=new.length*r.sz:=E.1;have hbl:=h3.1;have hle:(off+len+new.length)*r.sz<=l'.length*r.sz:=zm _ ae;have hexp:(off+len+new.length)*r.sz=off*r.sz+len*r.sz+new.length*r.sz:=ah
     have hsp:=Dc.bH h3 E (a:=off+len) ae;have D:(l'.take (off+len)++(new++l'.drop (off+len+new.length))).length=l'.length:=by simp;omega
     rcases O.2 b n h1 with⟨_,g6,o,g5,rfl⟩|⟨e0,ek,g6,g7⟩
     ·simp only[zz]at g6;have hw:wr h b (off*r.sz+len*i.size) cs=some (h.put b<|.cells (Ce ((off+len)*r.sz) cs bs) e fz):=by
       grind [LM,yc]
      have P:zi (len+new.length) k=true:=(by simp_all);refine⟨.sl b (off*r.sz) (len+new.length) k o,h.put b<|.cells (Ce ((off+len)*r.sz) cs bs) e fz,F,ρ,.inl ?_,?_,M.set ho h1 h2 rfl rfl (o':=.arr false e r _) ⟨_,fz,rfl,hsp,h4,D.trans h5⟩,zk,rfl,rfl,zd _,fun c _=>?_⟩
      ·simp only[zz,P,we,hw,z8,EG]
      ·simp only[PR];refine⟨O.1,fun b' n' hb'=>.inl ?_⟩;grind
      ·rw[H.Cn];by_cases e:c=b
       ·grind [EX]
       grind
     ·cases ek;subst e0;have hn0:new.length=0:=ae
      have U:new=[]:=ah;subst U;have hcs:cs=[]:=(by grind [z6]);subst hcs;have hlp:Ce ((off+0)*r.sz) [] bs=bs:=(by grind [NZ]);have S:∀c,(h.put b<|.cells (Ce ((off+0)*r.sz) [] bs) e fz).get c=h.get c:=by
       intro c;rw[hlp,H.Cn];grind
      have hset:=M.set ho h1 h2 rfl rfl (o':=.arr false e r _) (x':=.cells (Ce ((off+0)*r.sz) [] bs) e fz) ⟨_,fz,rfl,hsp,h4,D.trans h5⟩;have G:SR B h0 F ρ st.nx (DE st.ob id<|.arr false e r<|l'.take (off+0)++([]++l'.drop (off+0+0))) h:=
       SR.congr (st:=⟨st.n,st.fr,DE st.ob id _,st.nx⟩) hset ah rfl
      have hpr:∀w,(w=.esl\/∃A,w=.sl b A 0 0 0/\A<=off*r.sz)->PR F ρ st.nx (.sl id r.sz off (Nat.add 0 0)<|some 0) w:=by
       grind [PR]
      rcases g7 with rfl|⟨A,rfl,hoff'⟩
      ·exact⟨.esl,h,F,ρ,.inl rfl,hpr _<|.inl rfl,G,zk,rfl,rfl,zd _,(by simp)⟩
      ·have hob:A<=bs.length:=by
        omega
       have hw:wr h b (A+0*i.size) []=some (h.put b<|.cells (Ce (A+0*i.size) [] bs) e fz):=LM h2 ae h4 rfl;have hput2:∀c,(h.put b<|.cells (Ce (A+0*i.size) [] bs) e fz).get c=h.get c:=by
        simp_all [NZ]
       refine⟨.sl b A 0 0 0,h.put b<|.cells (Ce (A+0*i.size) [] bs) e fz,F,ρ,.inl ?_,hpr _<|.inr ⟨A,rfl,hoff'⟩,SR.congr (st:=⟨st.n,st.fr,DE st.ob id _,st.nx⟩) G hput2 rfl,zk,rfl,rfl,zd _,ah⟩;simp_all [zi,EG]
    simp only[BV,ze,w5]at d;obtain⟨⟨⟨⟨Z,k2⟩,k3⟩,k4⟩,rfl,rfl⟩:=d;subst k2;obtain⟨cs,g1,E,L⟩:=head Z;obtain⟨b,n,z,h1,h2,⟨bs,fz,rfl,h3,h4,h5⟩,h6,_⟩:=M.at ho;have hFb:=h6 rfl;simp only[PR]at O;have hB:=(M.own id b n h1).2;have hPb:b∉h0.pin:=fun hp=>(M.pn b hp).2.2 id n h1
    have hidN:=ae;obtain⟨_,_,o,g5,rfl⟩:len<=len/\0+len<=n/\∃o,(o=0\/o=r.sz)/\x=.sl b (0*r.sz) len len o:=by
     rcases O.2 b n h1 with g|⟨_,e,_⟩
     ·exact g
     grind
    have hbl:bs.length=len*i.size:=by rw[h3.1,k3,e4]
    have J:∀j oj m,AK (Fq st.ob id) j=some oj->Bl ρ id none j≠some (b,m):=by
     intro j oj m hj hjr;rw[C3]at hj;split at hj
     ·cases hj
     ·rename_i hne;simp only[Bl,hne,vf]at hjr;exact hne<|M.inj j id oj _ b m n hj ho hjr h1
    have I:=M.del id;have W:Le F ρ st.nx F (Bl ρ id none) st.nx:=Le.Ix id;have hnew:Dc F r (l'++new) (bs++cs):=h3.append E;have D:(l'++new).length=len+new.length:=ah
    have hone:cs.all V.one=true:=E.Tt;rw[L];simp only;by_cases Y:new.length=0
    ·
     have U:new=[]:=ah;have hcs:cs=[]:=z6.1 (by rw[E.1,Y,z7]);subst hcs;have P:zi (len+new.length) len=true:=(by simp_all);have hw:wr h b (0*r.sz+len*i.size) []=some (h.put b<|.cells (Ce (0*r.sz+len*i.size) [] bs) e fz):=LM h2 ah h4 rfl;have S:∀c,(h.put b<|.cells (Ce (0*r.sz+len*i.size) [] bs) e fz).get c=h.get c:=by
      simp_all [NZ]
     refine⟨.sl b (0*r.sz) (len+new.length) len o,h.put b<|.cells (Ce (0*r.sz+len*i.size) [] bs) e fz,F,Bl (Bl ρ id none) st.nx<|some (b,n),.inl ?_,?_,?_,W.trans<|Le.new _,rfl,rfl,zd _,ah⟩
     ·simp only[P,we,hw,z8,EG]
     ·unfold PR;refine⟨Nat.lt_succ_self _,fun b' n' hb=>.inl ?_⟩;simp_all [Bl]
     ·refine SR.Ze (ob:=Fq st.ob id) ?_ (x:=.cells bs e fz) ah J hFb hB hPb rfl ⟨bs,fz,rfl,?_,h4,?_⟩
      ·exact SR.congr (st:=⟨st.n,st.fr,Fq st.ob id,st.nx⟩) I S rfl
      ·grind
      omega
    ·
     have P:zi (len+new.length) len=false:=by
      cases hb:zi (len+new.length) len with
      |false=>rfl
      |true=>have:=zu hb;omega
     have b2:zi ((3*(len+new.length)+2000)*i.bytes) 562949953421312=true:=Nat.ble_eq_true_of_le k4;have hsrc:src h i.size (.sl b (0*r.sz) len len o) len=some bs:=by
      show rd h b (0*r.sz) (len*i.size)=_;rw[rd_some h2 ae<|fun u hu=>h3.ok u ah];grind
     simp only[P,b2,wg,we,hsrc];have fin:∀ {K:H},SR B h0 F (Bl ρ id none) st.nx (Fq st.ob id) K->K.nx=h.nx->(∀c,c≠b->K.get c=h.get c)->
       OK B h0 F ρ st h [id] (EG<|some (.sl h.nx 0 (len+new.length) (len+new.length) i.size,K.push<|.cells (bs++cs) e (0,0))) (.sl st.nx r.sz 0 (Nat.add len new.length) none) ((st.E7 id).push<|.arr false e r<|l'++new):=by
      intro K hr1 hnx hg;have hp:=hr1.push (o:=.arr false e r<|l'++new) (x:=.cells (bs++cs) e (0,0)) (n:=len+new.length) rfl ⟨_,_,rfl,hnew,zd _,D⟩;refine⟨_,_,F,_,.inl rfl,?_,hp,W.trans<|Le.new _,rfl,rfl,by simp_all,fun c hc=>?_⟩
      ·rw[<-hnx];exact Oy<|.inr e4
      ·rw[H.Ci,wc ae];grind
     rcases g5 with rfl|rfl
     ·exact fin I rfl (fun _ _=>rfl)
     ·have b3:zf r.sz 0=false:=by
       rw[<-e4];cases hb:zf i.size 0 with
       |false=>rfl
       |true=>simp_all
      have b4:(zf (0*r.sz) 0&&zf r.sz i.size&&zf e e&&zi fz.2 fz.1&&cs.all V.one)=true:=by
       simp_all
      simp only[b3,wg,h2,b4,we];exact fin (I.kill J hFb hB hPb) rfl (by simp_all)
theorem Ep:∀ {s:Sh} {x:s.T} {v:V},DV F s x v->PR F ρ N (BN s x) v
 | .pair a b,x,v,h=>by obtain⟨cs,rfl,c⟩:=h.1 rfl;simp_all [BN,PR,Cu]
 | .unit,x,v,h=>by obtain⟨cs,rfl,c⟩:=h.1 rfl;simp_all [DC,BN,PR]
 | .int _,x,v,h=>by have:=h.2 rfl;unfold BN PR;omega
 | .bool,x,v,h=>by have:=h.2 rfl;unfold BN PR;omega
 | .str,x,v,h=>by have:=h.2 rfl;unfold BN PR;omega
 | .list _,x,v,h=>by have:=h.2 rfl;unfold BN PR;omega
 | .nlist _,x,v,h=>by have:=h.2 rfl;unfold BN PR;omega
 | .fnv,x,v,h=>by
  have:=h.2 rfl;simp only[DC,zq,ve]at this;subst this;unfold BN;cases (x:Option Fn)<;>simp[PR]
 | .ptr s,x,v,h=>by
  have:=h.2 rfl;grind [DC,BN,PR]
theorem jL{s:Sh}{p:PV}{x:s.T}{v:V}(c:PR F ρ N p v)(b:zT s p=some x):DV F s x v:=by
 unfold zT at b;cases a:(Oh p==s.MF)with
 |false=>grind
 |true=>
  rw[a]at b;refine⟨fun e=>?_,fun e=>?_⟩
  ·rw[e]at a;cases p<;>simp only[Oh]at a<;>try (cases a;done)
   obtain⟨cs,rfl,d⟩:=c;exact⟨cs,rfl,CA d b⟩
  ·rw[e]at a;have:p.cells=[p]:=by cases p<;>first|rfl|(simp[Oh]at a)
   rw[this]at b;exact CA (by simpa using c) b
theorem Z9{T:BP}{t:TypeId}{s:Sh}(h:jM T t=some s):(∃k,s=.int k/\T.und t=some (.int k))\/(s=.str/\T.und t=some .string)\/(s=.bool/\T.und t=some .bool):=by
 unfold jM at h;grind
theorem Uq{T:BP}{t:TypeId}{s:Sh}(b:jM T t=some s){p:PV}{x:s.T}{v:V}(c:PR F ρ N p v)(a:oJ s p=some x):DV F s x v:=by
 have:=Ft c a;rcases Z9 b with⟨k,rfl,_⟩|⟨rfl,_⟩|⟨rfl,_⟩<;>exact⟨fun e=>(by cases e),fun _=>this⟩
theorem QC{T:BP}{t:TypeId}{s:Sh}(c:jM T t=some s){x:s.T}{v:V}(e:DV F s x v):∃d,T.und t=some d/\Ij T t d v=true/\(∀es,Jz T t v es=JH T t v es 0)/\∀y u,DV F s y u->ZG T t v u=some (nK s x y):=by
 rcases Z9 c with⟨k,rfl,a⟩|⟨rfl,a⟩|⟨rfl,a⟩<;>
 ·have b:=e.2 rfl;simp only[DC,zq,ve]at b;subst b;refine⟨_,a,rfl,fun _=>rfl,fun y u g=>?_⟩;have i:=g.2 rfl;simp_all [DC,ZG,nK]
theorem Od{T:BP}{t:TypeId}{ks vs:Sh}(K:jM T t=some ks){k:ks.T}{o:V}(s:DV F ks k o):∀ {l:List (ks.T×vs.T)} {es:List (V×V×Nat)},MR F ks vs l es->∀i,∃r,JH T t o es i=some r/\
  (match r with
   |none=>Mc ks vs k l=none/\RD ks vs k l=l/\∀x g c,DV F vs x g->MR F ks vs (Qw ks vs k x l) (es++[(o,g,c)])
   |some (j,u)=>(∃v,Mc ks vs k l=some v/\DV F vs v u)/\i<=j/\MR F ks vs (RD ks vs k l) (es.eraseIdx<|j-i)/\∀x g,DV F vs x g->MR F ks vs (Qw ks vs k x l) (UX es (j-i) o g)):=by
 intro l es L;induction L with
 |nil=>intro i;exact⟨none,rfl,rfl,rfl,fun x g c m=>.cons s m .nil⟩
 |@cons a b l D O n es q w J M=>
  intro i;obtain⟨d,_,_,_,y⟩:=QC K s;have y:=y a D q;unfold JH;rw[y];cases p:nK ks k a with
  |true=>
   refine⟨some (i,O),rfl,(by grind [Mc]),zd _,?_,fun x g m=>?_⟩
   ·simp_all [RD]
   ·simp only[Nat.sub_self,Qw,p,we,UX,List.modify_zero_cons];exact .cons s m J
  |false=>
   obtain⟨r,P,z⟩:=M<|i+1;refine⟨r,P,?_⟩;cases r with
   |none=>
    obtain⟨I,E,A⟩:=z;refine⟨by simp_all [Mc],by simp_all [RD],fun x g c m=>?_⟩;simp only[Qw,p,wg,List.cons_append];exact .cons q w<|A x g c m
   |some G=>
    obtain⟨j,u⟩:=G;obtain⟨⟨v,I,E⟩,A,k4,k5⟩:=z;have e:j-i=(j-(i+1))+1:=ae
    refine⟨(by simp_all [Mc]),by omega,?_,fun x g m=>?_⟩
    ·rw[e];simp only[List.eraseIdx_cons_succ,RD,p,wg];exact .cons q w k4
    ·rw[e];simp only[Qw,p,wg,UX,List.modify_succ_cons];exact .cons q w<|k5 x g m
theorem lD(b:SR B h0 F ρ st.nx st.ob h){t:TypeId}{v:PV}(a:(UJ C.T t st).To v st'):OK B h0 F ρ st h [] (EG<|Ig h none) v st':=by
 unfold UJ at a;split at a
 case h_2=>simp at a
 split at a
 case h_2=>simp at a
 rename_i ks vs c d;obtain⟨rfl,rfl⟩:=a;refine OK.new b (o:=.map ks vs []) (x:=.map [] 0) (n:=0) rfl ⟨[],0,rfl,.nil⟩ ?_;simp_all [PR,Bl]
theorem XE(c:SR B h0 F ρ st.nx st.ob h){ks vs:Sh}{m:PV}{l:List (ks.T×vs.T)}{x:V}(i:PR F ρ st.nx m x)(a:bZ st ks vs m=some l):∃es,entries h x=some es/\MR F ks vs l es:=by
 unfold bZ at a;split at a
 ·cases a;subst i;exact⟨[],rfl,.nil⟩
 ·split at a
  case h_2=>cases a
  rename_i g d l' j;obtain⟨e,k⟩:=Cm a;obtain⟨rfl,rfl⟩:=e;obtain⟨b,n,o,h1,h2,⟨es,clk,rfl,h4⟩,_⟩:=c.at j;simp_all [PR,entries]
 grind
theorem Zi{ks vs:Sh}{ok:Bool}{z:vs.T}{x:ks.T}:∀ {l:List (ks.T×vs.T)} {v:PV},(wQ ks vs ok z x st l).To v st'->st=st'/\((Mc ks vs x l=none/\v=bif ok then .tup [BN vs z,.bl false]else BN vs z)\/∃w,Mc ks vs x l=some w/\v=bif ok then .tup [BN vs w,.bl true]else BN vs w)
 |[],v,d=>by
  unfold wQ at d;simp only[BU]at d;exact⟨d.2,.inl ⟨rfl,d.1.symm⟩⟩
 |(a,b)::l,v,d=>by
  unfold wQ at d;generalize i:nK ks x a=c at d;cases d with
  |tt d=>
   grind [BU,Mc]
  |ff d=>
   obtain⟨e,g⟩:=Zi d;grind [Mc]
theorem dE(b:SR B h0 F ρ st.nx st.ob h){t:TypeId}{p q:PV}{x y:V}(M:PR F ρ st.nx p x)(O:PR F ρ st.nx q y){ok:Bool}{v:PV}(a:(Rm C.T t p q ok st).To v st'):OK B h0 F ρ st h [] (Bs h<|Ei C.T h t x y ok) v st':=by
 unfold Rm at a;split at a
 case h_2=>simp at a
 rename_i Z e R;split at a
 case h_2=>simp at a
 rename_i ks vs i g J I;split at a
 case h_2=>simp at a
 rename_i k l z L K U;cases c:(zC i.zv==vs.MF)with
 |false=>simp_all
 |true=>
  rw[c]at a;have m:=Uq g O L;obtain⟨es,Y,P⟩:=XE b M K;obtain⟨kd,g1,g2,g3,_⟩:=QC g m;obtain⟨r,r1,r2⟩:=Od g m P 0;have u:DV F vs z i.zv:=by
   have D:DC F vs z i.zv.cells:=CA (DS (F:=F) (ρ:=ρ) (N:=st.nx) i.zero) U;refine⟨fun e=>?_,fun e=>?_⟩
   ·rw[e]at c;cases d:i.zv<;>rw[d]at c<;>simp only[zC]at c<;>try (cases c;done)
    rw[d]at D;exact⟨_,rfl,D⟩
   ·rw[e]at c;have:i.zv.cells=[i.zv]:=by cases d:i.zv<;>rw[d]at c<;>first|rfl|(simp[zC]at c)
    grind
  unfold Ei;simp only[R,g1,Y,g2,we,g3,r1];cases E:vs.iN with
  |true=>
   rw[E]at a;have A:=Zi a;obtain⟨W,s⟩:=A;subst W;rcases s with⟨hn,d⟩|⟨w,S,d⟩
   ·cases r with
    |none=>
     simp only[I];cases ok with
     |true=>exact zo b rfl (by simp_all [PR,Ep])
     |false=>exact zo b rfl (by grind [Ep])
    |some G=>
     grind
   ·cases r with
    |none=>grind
    |some G=>
     obtain⟨⟨v',j,o⟩,_⟩:=r2;rw[S]at j;cases j;cases ok with
     |true=>exact zo b rfl (by simp_all [PR,Ep])
     |false=>exact zo b rfl (by rw[d];exact Ep o)
  |false=>
  rw[E]at a;obtain⟨rfl,rfl⟩:=a;cases r with
  |none=>
   obtain⟨j,_⟩:=r2;simp only[I,j,Option.getD_none,Option.isSome_none];cases ok with
   |true=>exact zo b rfl (by simp only[we,PR];simp_all [Ep,Dn])
   |false=>exact zo b rfl (Ep u)
  |some G=>
   obtain⟨⟨v,j,o⟩,_⟩:=r2;simp only[j,zz,Option.isSome_some];cases ok with
   |true=>exact zo b rfl (by simp only[we,PR];simp_all [Ep,Dn])
   |false=>exact zo b rfl (Ep o)
theorem ZW(A:SR B h0 F ρ st.nx st.ob h){t:TypeId}{p q r:PV}{x y z:V}(L:PR F ρ st.nx p x)(G:PR F ρ st.nx q y)(K:PR F ρ st.nx r z){v:PV}(i:(Qj C.T t p q r st).To v st'):
  ∃id,p=.mp id/\OK B h0 F ρ st h [id] (YQ<|Hd C.T h t x y z) v st':=by
 unfold Qj at i;split at i
 case h_2=>simp at i
 rename_i P e id S;split at i
 case h_2=>simp at i
 rename_i ks d vs l j D;split at i
 case h_2=>simp at i
 rename_i k R w M E O;obtain⟨u,W⟩:=Cm E;simp only[Sh.list.injEq,Sh.pair.injEq,ve]at u;subst u;simp only[BU]at i;have m:=Uq j G M;have I:=jL K O;obtain⟨b,n,o,h1,h2,⟨es,clk,rfl,h4⟩,_⟩:=A.at D;have s:=L;simp only[PR]at s;obtain⟨kd,g1,g2,g3,_⟩:=QC j m;obtain⟨r',r1,r2⟩:=Od j m h4 0;have fin:∀g a,MR F d vs (Qw d vs k w l) g->OK B h0 F ρ st h [id] (YQ<|some<|h.put b<|.map g a) (.tup []) (st.setObj id<|.map d vs<|Qw d vs k w l):=by
  intro g a J;refine⟨.tup [],_,F,ρ,.inr ⟨rfl,rfl⟩,by simp[PR],A.set D h1 h2 rfl rfl ⟨g,a,rfl,J⟩,zk,rfl,rfl,zd _,fun c _=>?_⟩;by_cases U:c=b
  ·grind
  simp_all
 unfold Hd;grind
theorem Zq(m:SR B h0 F ρ st.nx st.ob h){ts:Array TypeId}{ps:List PV}{j:List V}(z:BB F ρ st.nx ps j){v:PV}(a:(Rt C.T ts ps st).To v st'):
  ∃id D,ps=.mp id::D/\OK B h0 F ρ st h [id] (EG<|Kk C.T h ts j) v st':=by
 unfold Rt at a;split at a
 case h_2=>simp at a
 rename_i t id q A;split at a
 case h_2=>simp at a
 split at a
 case h_2=>simp at a
 rename_i ks e vs l g r;split at a
 case h_2=>simp at a
 rename_i k E w s;obtain⟨p,G⟩:=Cm s;simp only[Sh.list.injEq,Sh.pair.injEq,ve]at p;subst p;simp only[BU]at a;obtain⟨x,xs',rfl,hx1,y,xs'',rfl,hy,rfl⟩:=z;have i:=Uq g hy w;obtain⟨b,n,o,h1,h2,⟨es,clk,rfl,h4⟩,_⟩:=m.at r;obtain rfl:=hx1.2 b n h1;obtain⟨kd,g1,g2,g3,_⟩:=QC g i;obtain⟨r',r1,r2⟩:=Od g i h4 0;have fin:∀d,MR F e vs (RD e vs k l) d->OK B h0 F ρ st h [id] (EG<|some (.tup [],h.put b<|.map d clk)) (.tup []) (st.setObj id<|.map e vs<|RD e vs k l):=by
  intro d u;refine⟨.tup [],_,F,ρ,.inl rfl,by simp[PR],m.set r h1 h2 rfl rfl ⟨d,clk,rfl,u⟩,zk,rfl,rfl,zd _,fun c _=>?_⟩;by_cases I:c=b
  ·grind
  simp_all
 unfold Kk;grind
theorem SR.same(e:SR B h0 F ρ st.nx st.ob h){id b n:Nat}{o o':Obj}{x:O}(j:st.obj id=some o)(k:ρ id=some (b,n))(i:h.get b=some x)(l:o.frozen=false)(d:o'.frozen=false)
  (g:Vb F ρ st.nx n o' x):SR B h0 F ρ st.nx (DE st.ob id o') h:=by
 have a:∀c,h.get c=(h.put b x).get c:=by
  simp_all
 exact SR.congr (st:=⟨st.n,st.fr,DE st.ob id o',st.nx⟩) (e.set j k i l d g) a rfl
theorem mC(r:SR B h0 F ρ st.nx st.ob h){ts:Array TypeId}{ps:List PV}{G:List V}(q:BB F ρ st.nx ps G){v:PV}(d:(UW C.T ts ps st).To v st'):OK B h0 F ρ st h (EX ps) (EG<|E4 C.T h ts G) v st':=by
 unfold UW at d;split at d
 case h_2=>simp at d
 rename_i t p u;obtain⟨x,_,rfl,q,rfl⟩:=q;split at d
 case h_2=>simp at d
 rename_i e M;split at d
 case h_3=>simp at d
 case h_1=>
  obtain⟨rfl,rfl⟩:=d;simp only[PR]at q;exact⟨.tup [],h,F,ρ,(by simp_all [E4,EG]),by simp[PR],r,zk,rfl,rfl,zd _,(by simp)⟩
 rename_i id sz off len cap;split at d
 case h_2=>simp at d
 rename_i i k s l S E;cases D:(zf sz s.sz&&zl 0 i.zero.length&&zf i.zero.length s.sz&&Det.Kb V.one i.zero)with
 |false=>simp_all
 |true=>
  rw[D]at d;simp only[ze,EU]at D;obtain⟨⟨⟨w,L⟩,Y⟩,c4⟩:=D;have w:=zg w;subst w;simp only[we]at d;split at d
  case h_2=>simp at d
  rename_i z U;simp only[BV,w5]at d;obtain⟨K,rfl,rfl⟩:=d;obtain⟨b,n,y,h1,h2,⟨bs,fz,rfl,h3,h4,h5⟩,h6,_⟩:=r.at E;have A:DC F s z i.zero:=CA (DS (F:=F) (ρ:=ρ) (N:=st.nx) i.zero) U;have g:=Dc.replicate A len;have j:=Dc.bH h3 g (a:=off) ah;rw[List.length_replicate]at j;have m:(l.take off++(zt len z++l.drop (off+len))).length=l.length:=ah
  have skip:E4 C.T h ts [x]=some (.tup [],h)->len=0->OK B h0 F ρ st h (EX [.sl id s.sz off len cap]) (EG<|E4 C.T h ts [x]) (.tup []) (st.setObj id<|.arr false k s<|l.take off++(zt len z++l.drop (off+len))):=by
   intro R h0;subst h0;have el:l.take off++(zt 0 z++l.drop (off+0))=l:=by simp
   refine⟨.tup [],h,F,ρ,.inl (by rw[R];rfl),by simp[PR],r.same E h1 h2 rfl rfl (o':=.arr false k s _) ⟨bs,fz,rfl,?_,h4,?_⟩,zk,rfl,rfl,zd _,(by simp)⟩
   ·grind
   omega
  rcases q.2 b n h1 with⟨_,O,o,W,rfl⟩|⟨e0,Z,O,rfl|⟨I,rfl,_⟩⟩
  ·by_cases h0:len=0
   ·simp_all [E4]
   ·have P:wr h b (off*s.sz) (EL i.zero<|len*i.zero.length)=some (h.put b<|.cells (Ce (off*s.sz) ((zt len i.zero).flatten) bs) k fz):=by
     rw[G5];refine LM h2 ?_ h4 ?_
     ·rw[g.1,List.length_replicate, <-yc,h3.1];exact zm _ K
     grind
    have J:zf len 0=false:=by rw[Bj];simp[h0]
    refine⟨.tup [],h.put b<|.cells (Ce (off*s.sz) ((zt len i.zero).flatten) bs) k fz,F,ρ,.inl ?_,by simp[PR],r.set E h1 h2 rfl rfl (o':=.arr false k s _) ⟨_,fz,rfl,j,h4,m.trans h5⟩,zk,rfl,rfl,zd _,fun c _=>?_⟩
    ·simp only[E4,u,M,J,wg,S,L,we,P,z8,EG]
    ·rw[H.Cn];by_cases e:c=b
     ·grind [EX]
     grind
  ·simp_all [E4]
  simp_all [E4]
theorem iX(b:SR B h0 F ρ st.nx st.ob h){t:TypeId}{p:PV}{x:V}(d:PR F ρ st.nx p x){v:PV}(a:(Ut C.T t p st).To v st'):OK B h0 F ρ st h [] (EG<|GY C.T h t x) v st':=by
 unfold Ut at a;split at a
 case h_2=>simp at a
 rename_i s e;obtain⟨rfl,rfl⟩:=a;obtain rfl:=Fb d;have c:GY C.T h t (.str s)=some (.ptr h.nx 0,h.push<|.siter s 0):=by simp[GY,QX,e]
 rw[c];exact OK.new b (o:=.siter s 0) (n:=0) rfl rfl J8
theorem qB(e:SR B h0 F ρ st.nx st.ob h){p:PV}{x:V}(l:PR F ρ st.nx p x){i:Bool}{v:PV}(a:(ZE p i st).To v st'):i=true/\∃id off,p=.ptr id off/\OK B h0 F ρ st h [id] (EG<|LF h x i) v st':=by
 unfold ZE at a;split at a
 case h_2=>simp at a
 rename_i id;split at a
 case h_2=>simp at a
 rename_i s pos k;obtain⟨b,n,y,j,g,o,q,_⟩:=e.at k;subst o;obtain rfl:=l.2 b n j;refine⟨rfl,id,0,rfl,?_⟩;by_cases d:pos<s.length
 ·rw[w4 d]at a;cases a with
  |tt a=>
   obtain⟨rfl,rfl⟩:=a;have m:LF h (.ptr b 0) true=some (.tup [.bool true,i64 pos,.int .i32<|rune s pos],h.put b<|.siter s<|pos+oK s pos):=by
    simp only[LF,g,FL,w4 d,we];rfl
   refine⟨_,_,F,ρ,.inl (by rw[m];rfl),?_,e.set k j g rfl rfl (o':=.siter s _) rfl,zk,rfl,rfl,zd _,fun c _=>?_⟩
   ·simp[PR,DC,i64]
   ·rw[H.Cn];grind
 ·rw[w8 d]at a;cases a with
  |ff a=>
   obtain⟨rfl,rfl⟩:=a;refine⟨.tup [.bool false],h,F,ρ,.inl ?_,by simp[PR],e,zk,rfl,rfl,zd _,(by simp)⟩;simp_all [LF,FL,w8,EG]
end
section
variable {B:Nat}{h0:H0}{F:Fz}{ρ:DH}{N:Nat}{C:Ctx}{st st':AF}{h:H}
def sG:List PV->List Nat
 | .eptr id _ _ _::_=>[id]
 |_=>[]
theorem gX(d:SR B h0 F ρ st.nx st.ob h){ps:List PV}{e:List V}(c:BB F ρ st.nx ps e){v:PV}(a:(UK ps st).To v st'):OK B h0 F ρ st h [] (Bs h<|NN e) v st':=by
 unfold UK at a;split at a
 case h_2=>simp at a
 rename_i id sz off len;cases g:Hy (st.obj id)with
 |false=>simp_all
 |true=>
  rw[g]at a;simp only[we,BV,w5]at a;obtain⟨i,rfl,rfl⟩:=a;obtain⟨o,ho⟩:=U7 g;obtain⟨b,n,z,g1,_⟩:=d.at ho;obtain⟨x,_,rfl,c,rfl⟩:=c;simp only[PR]at c;obtain⟨_,_,o',_,rfl⟩:len<=len/\off+len<=n/\∃o,(o=0\/o=sz)/\x=.sl b (off*sz) len len o:=by
   grind
  refine zo d (v':=.ptr b<|off*sz) ?_ ?_
  ·have:zl 0 len=true:=by simp_all
   simp only[NN,this,we];rfl
  grind [PR]
theorem Zx{k:IntKind}:∀ {l:List Int} {cs:List V},Dc F (.int k) l cs->cs=l.map (V.int k):=by
 intro l cs a;have g:cs.length=l.length:=by rw[a.1];simp[Sh.sz]
 apply List.ext_getElem
 ·grind
 ·intro i c d;have b:i<l.length:=ae
  have:=a.2 i b;have e:(cs.drop<|i*Sh.sz (.int k)).take (Sh.sz<|.int k)=[cs[i]]:=by
   rw[show Sh.sz (.int k)=1 from rfl,Nat.mul_one,zw c];rfl
  grind [DC]
theorem OJ:∀ {l:List Int},PJ l=true->GL (l.map<|V.int .u8)=some (Rb l)
 |[],_=>rfl
 |x::l,h=>by
  unfold PJ at h;rw[ye,ze,ze,w5,w5]at h;have a:=OJ (l:=l) h.2;grind [Nat.blt_eq,Qv,GL,Rb]
theorem UD{l:List Int}(h:PJ l=true)(n:Nat):PJ (l.take n)=true:=by
 grind [PJ]
theorem tN(p:SR B h0 F ρ st.nx st.ob h){ts:Array TypeId}{ps:List PV}{G:List V}(r:BB F ρ st.nx ps G){v:PV}(a:(cB C.T ts.toList ps st).To v st'):OK B h0 F ρ st h (sG ps) (EG<|S3 C.T h ts.toList G) v st':=by
 unfold cB at a;split at a
 case h_2=>simp at a
 rename_i Z it id sz i n u;split at a
 case h_2=>simp at a
 rename_i e D s l hu I;split at a
 case h_2=>simp at a
 rename_i S E hi A;cases hc:(zf S.size 1&&zf e D)with
 |false=>simp_all
 |true=>
  rw[hc]at a;simp only[we,BV,ze,w5]at a;obtain⟨⟨⟨⟨⟨P,M⟩,k3⟩,k4⟩,J⟩,rfl,rfl⟩:=a;subst P;obtain⟨es,he⟩:=Cm A;have L:s=.int .u8:=ah
  subst L;have:E=l:=ah
  subst this;obtain⟨m,rfl⟩:=Int.eq_ofNat_of_zero_le<|Int.le_of_lt M;obtain⟨b,n',z,h1,h2,⟨cs,fz,rfl,h3,h4,h5⟩,h6,_⟩:=p.at I;have w:=h6 rfl;obtain⟨x,_,rfl,r,y,_,rfl,hy,rfl⟩:=r;obtain rfl:=CQ hy;obtain rfl:=r.2 b n' h1;have O:=(p.own id b n' h1).2;have t:b∉h0.pin:=fun U=>(p.pn b U).2.2 id n' h1
  have d:∀j oj m,AK (Fq st.ob id) j=some oj->Bl ρ id none j≠some (b,m):=by
   intro j oj m q k;rw[C3]at q;split at q
   ·cases q
   ·rename_i g;simp only[Bl,g,vf]at k;exact g<|p.inj j id oj _ b m n' q I k h1
  have o:=p.del id;have R:=Zx h3;have K:cs.take m=(E.take m).map (V.int .u8):=by simp_all
  have hb:=OJ<|UD J m;have Y:S3 C.T h ts.toList [.ptr b<|0*sz+0,.int .i64 (m:Int)]=some (.str<|Rb<|E.take m,h.kill b):=by
   rw[z7];rw[u];show(match C.T.und Z,h.get b with
    |some (.pointer e),some (.cells cs D fz)=>(match C.T.inf e,GL (cs.take m)with
     |some i,some l=>bif zf i.size 1&&zf e D&&zl 0 m&&zi m cs.length&&zi m 9223372036854775807&&zi fz.2 fz.1 then some (V.str l,h.kill b)else none
     |_,_=>none)
    |_,_=>none)=_
   have c1:zl 0 m=true:=by simp_all
   have c2:zi m cs.length=true:=(by simp_all);have c3:zi m 9223372036854775807=true:=(by simp_all);have c4:zi fz.2 fz.1=true:=(by simp_all);grind
  rw[Y];refine⟨_,_,F,Bl ρ id none,.inl rfl,Ve _,o.kill d w O t,Le.Ix id,rfl,rfl,zd _,fun c _=>?_⟩;rw[H.De];by_cases W:c=b
  ·exact .inr ⟨id,zc.2 rfl,n',W▸h1⟩
  grind
end
section
variable {B:Nat}{h0:H0}{C:Ctx}{F F1 F':Fz}{ρ:DH}{N:Nat}{st st':AF}{fr:Fr}{h h':H}
def PC(F:Fz)(p:PV)(v:V):Prop:=∀ρ N,PR F ρ N p v
def JF(F:Fz)(ps:List PV)(vs:List V):Prop:=∀ρ N,BB F ρ N ps vs
theorem Le.Ye(a:∀b cs,F b=some cs->F1 b=some cs):Le F ρ N F1 ρ N:=⟨a,(by simp),zd _⟩
theorem PC.mono(c:∀b cs,F b=some cs->F1 b=some cs){p:PV}{v:V}(a:PC F p v):PC F1 p v:=fun ρ N=>(a ρ N).mono<|Le.Ye c
theorem JF.cons{p:PV}{ps:List PV}{v:V}{vs:List V}(b:PC F p v)(a:JF F ps vs):JF F (p::ps) (v::vs):=fun ρ N=>(By ..).2 ⟨b ρ N,a ρ N⟩
theorem JF.dc{s:Sh}{ps:List PV}{vs:List V}{x:s.T}(b:JF F ps vs)(a:DJ s ps=some x):DC F s x vs:=CA (b (fun _=>none) 0) a
theorem PC.BN:∀ {s:Sh} {x:s.T} {cs:List V},DC F s x cs->(s.MF=true->PC F (BN s x) (.agg cs))/\(s.MF=false->∀v,cs=[v]->PC F (BN s x) v)
 | .pair a b,x,cs,h=>⟨fun _ ρ N=>by simp_all [yh,PR,Cu],fun e=>by cases e⟩
 | .unit,x,cs,h=>⟨fun _ ρ N=>by simp_all [DC,yh,PR],fun e=>by cases e⟩
 | .int _,x,cs,h=>(by grind [yh,PR,Sh.MF,PC])
 | .bool,x,cs,h=>(by grind [yh,PR,Sh.MF,PC])
 | .str,x,cs,h=>(by grind [yh,PR,Sh.MF,PC])
 | .list _,x,cs,h=>(by grind [yh,PR,Sh.MF,PC])
 | .nlist _,x,cs,h=>(by grind [yh,PR,Sh.MF,PC])
 | .fnv,x,cs,h=>⟨fun e=>(by cases e),fun _ v c ρ N=>by
   subst c;simp only[DC,zq,ve]at h;subst h;unfold yh;cases (x:Option Fn)<;>simp[PR]⟩
 | .ptr s,x,cs,h=>(by grind [DC,yh,PR,Sh.MF,PC])
theorem SR.yD{ob c:Ob}(a:SR B h0 F ρ N ob h)(d:∀j,AK c j=AK ob j):SR B h0 F ρ N c h:=
 ⟨fun id o g=>a.obj id o<|d id▸g,fun id id' o o' b n n' i k=>a.inj id id' o o' b n n' (d id▸i) ah,a.frz,a.own,fun id e=>a.dead id ah,a.old,a.lt,a.le,a.fo,a.gl,a.pn⟩
theorem qC{s:Sh}{l:List s.T}{cs:List V}{b:Nat}(e:F b=some cs)(d:Dc F s l cs){off len:Nat}(j:off+len<=l.length){cap o:Nat}(c:len<=cap)(g:o=0\/o=s.sz):
  DC F (.list s) ((l.drop off).take len) [.sl b (off*s.sz) len cap o]:=by
 have a:((l.drop off).take len).length=len:=ah
 refine⟨_,rfl,.inr ⟨b,off*s.sz,cap,o,cs,by rw[a],by omega,e,?_,g,fun i k=>?_⟩⟩
 ·rw[a,d.1, <-yc];simp_all [zm]
 grind [Dc]
theorem JJ(st:AF)(p:PV):(Bq st p).nx=st.nx/\(Bq st p).fr=st.fr/\(Bq st p).n=st.n:=by
 unfold Bq;split
 ·split<;>exact⟨rfl,rfl,rfl⟩
 simp
theorem C2:∀(ps:List PV) (st:AF),(Bf ps st).nx=st.nx/\(Bf ps st).fr=st.fr/\(Bf ps st).n=st.n
 |[],_=>⟨rfl,rfl,rfl⟩
 |p::ps,st=>by
  obtain⟨c,a,b⟩:=C2 ps<|Bq st p;grind [JJ,Bf]
theorem HH:∀(ps a:List PV) (st:AF),Bf (ps++a) st=Bf a (Bf ps st)
 |[],_,_=>rfl
 |p::ps,a,st=>HH ps a<|Bq st p
def DA:Option Obj->Option Obj->Prop
 |some (.arr _ e s l),o=>∃fz,o=some (.arr fz e s l)
 |a,b=>b=a
theorem DA.refl(o:Option Obj):DA o o:=by
 cases o with
 |none=>rfl
 |some o=>cases o<;>first|rfl|exact⟨_,rfl⟩
theorem LI(st:AF)(p:PV)(j:Nat):DA (st.obj j) ((Bq st p).obj j):=by
 unfold Bq;split
 case h_2=>exact DA.refl _
 split
 case h_2=>exact DA.refl _
 rename_i id _ _ _ _ _ fz e s l b;show DA (AK st.ob j)<|AK (DE st.ob id<|.arr true e s l) j;rw[Gk _ _ _ _<|by show(st.obj id).isSome=true;grind];split
 ·rename_i a;subst a;show DA (st.obj j) _;rw[b];exact⟨_,rfl⟩
 ·exact DA.refl _
theorem YS{st st':AF}(h:∀id,DA (st.obj id)<|st'.obj id)(p:PV):Cq st' p=Cq st p:=by
 cases p<;>try rfl
 case fn f a c=>cases a<;>cases c<;>rfl
 unfold Cq;rename_i id sz off len cap;have:=h id;cases b:st.obj id with
 |none=>rw[b]at this;simp only[b,show st'.obj id=none from this]
 |some o=>
  rw[b]at this;cases o with
  |arr fz e s l=>
   obtain⟨fz',d⟩:=this;grind
  |box _=>simp only[b,show st'.obj id=_ from this]
  |tbox _ _=>simp only[b,show st'.obj id=_ from this]
  |map _ _ _=>simp only[b,show st'.obj id=_ from this]
  |siter _ _=>simp only[b,show st'.obj id=_ from this]
  |lp _ _ _ _ _ _ _ _=>simp only[b,show st'.obj id=_ from this]
theorem Lz{st st':AF}(h:∀id,DA (st.obj id)<|st'.obj id):∀ps:List PV,DT st' ps=DT st ps
 |[]=>rfl
 |p::ps=>by unfold DT;rw[YS h p,Lz h ps]
theorem DA.trans{a b c:Option Obj}(d:DA a b)(g:DA b c):DA a c:=by
 cases a with
 |none=>have:b=none:=d;grind
 |some o=>
  cases o with
  |arr fz e s l=>obtain⟨fz',rfl⟩:=d;exact g
  |box _=>have:b=_:=d;grind
  |tbox _ _=>have:b=_:=d;grind
  |map _ _ _=>have:b=_:=d;grind
  |siter _ _=>have:b=_:=d;grind
  |lp _ _ _ _ _ _ _ _=>have:b=_:=d;grind
theorem LU:∀(ps:List PV) (st:AF) (id:Nat),DA (st.obj id)<|(Bf ps st).obj id
 |[],_,_=>DA.refl _
 |p::ps,st,id=>(LI st p id).trans<|LU ps (Bq st p) id
theorem Ss{st st':AF}(h:∀id,DA (st.obj id)<|st'.obj id)(s:Sh)(p:PV):HF st' s p=HF st s p:=by
 grind [HF,Lz]
theorem K8{st st':AF}(h:∀id,DA (st.obj id)<|st'.obj id):∀(l:List Sh) (ps:List PV),CT st' l ps=CT st l ps
 |[],[]=>rfl
 |[],_::_=>rfl
 |[a],[p]=>Ss h a p
 |[a],[]=>rfl
 |[a],_::_::_=>rfl
 |a::b::l,[]=>rfl
 |a::b::l,p::ps=>by unfold CT;rw[Ss h a p,K8 h (b::l) ps]
theorem LR(r:SR B h0 F ρ st.nx st.ob h){p:PV}{v:V}(hp:PR F ρ st.nx p v):
  ∃F1,SR B h0 F1 ρ (Bq st p).nx (Bq st p).ob h/\(∀b cs,F b=some cs->F1 b=some cs)/\∀x,Cq st p=some (true,x)->PC F1 x v:=by
 have same:∀ {q:PV},(∀x,Cq st q=some (true,x)->PC F x v)->Bq st q=st->∃F1,SR B h0 F1 ρ (Bq st q).nx (Bq st q).ob h/\(∀b cs,F b=some cs->F1 b=some cs)/\∀x,Cq st q=some (true,x)->PC F1 x v:=
  fun E Z=>⟨F,by grind,fun _ _ h=>h,E⟩
 cases p with
 |sl id sz off len cap=>
  cases K:st.obj id with
  |none=>grind [Cq,Bq]
  |some o=>
   cases o with
   |box _=>grind [Cq,Bq]
   |tbox _ _=>grind [Cq,Bq]
   |map _ _ _=>grind [Cq,Bq]
   |siter _ _=>grind [Cq,Bq]
   |lp _ _ _ _ _ _ _ _=>grind [Cq,Bq]
   |arr fz e s l=>
    obtain⟨b,n,x,E,Z,⟨cs,fz',rfl,S,h5,h6⟩,h7,h8⟩:=r.at K;have R:Bq st (.sl id sz off len cap)=st.setObj id (.arr true e s l):=by simp[Bq,K]
    have A:∀j,AK (DE st.ob id<|.arr true e s l) j=if j=id then some (.arr true e s l)else AK st.ob j:=(by grind [Gk,AF.obj])
    have fin:∀ {G:Fz},G b=some cs->(∀b cs,F b=some cs->G b=some cs)->∀x,Cq st (.sl id sz off len cap)=some (true,x)->PC G x v:=by
     intro G hG W x t ρ' N';simp only[Cq,K]at t;cases w:zf sz s.sz with
     |false=>grind
     |true=>
      rw[w]at t;simp only[we,zh,zn,w5]at t;obtain⟨D,rfl⟩:=t;have w:=zg w;subst w;unfold PR;rcases hp.2 b n E with⟨L,U,o,k3,rfl⟩|⟨rfl,rfl,k3,rfl|⟨I,rfl,k4⟩⟩
      ·exact qC hG (S.mono W) D L k3
      ·simp[DC]
      ·simp only[List.take_zero,DC];refine⟨_,rfl,.inr ⟨b,I,0,0,cs,rfl,zd _,hG,?_,.inl rfl,(by simp)⟩⟩;simp only[List.length_nil,z7,Nat.add_zero];rw[S.1];exact zp k4 (by simp_all [zm])
    cases P:fz with
    |true=>
     subst P;obtain⟨cs',t',fz2,L,U⟩:=h8 rfl;refine⟨F,?_,fun _ _ h=>h,ah⟩;grind [SR.yD,AF.setObj,AF.obj]
    |false=>
     have g:∀c cs',F c=some cs'->(fun c=>if c=b then some cs else F c) c=some cs':=by
      grind
     refine⟨fun c=>if c=b then some cs else F c,?_,g,ah⟩;rw[R];have D:Le F ρ st.nx (fun c=>if c=b then some cs else F c) ρ st.nx:=Le.Ye g;have z:∀k ok,AK (DE st.ob id<|.arr true e s l) k=some ok->∃o2,AK st.ob k=some o2:=by
      intro k ok hk;by_cases ek:k=id
      ·exact⟨_,ek▸K⟩
      grind
     refine⟨fun j oj d=>?_,fun i j oi oj c m m' hi d M O=>?_,fun c cs' J=>?_,r.own,fun j d=>?_,r.old,r.lt,r.le,fun c cs' J=>?_,r.gl,r.pn⟩
     ·have d:AK (DE st.ob id<|.arr true e s l) j=some oj:=d;rw[A]at d;by_cases T:j=id
      ·subst T;simp only[wm,zh]at d;subst d;refine⟨b,n,_,E,Z,⟨cs,fz',rfl,S.mono g,h5,h6⟩,fun e=>(by cases e),(by simp)⟩
      ·rw[wc T]at d;obtain⟨c,m,y,M,O,g3,g4,g5⟩:=r.obj j oj d;have hne:c≠b:=fun Y=>T<|r.inj j id oj _ c m n d K M<|Y▸E
       exact⟨c,m,y,M,O,g3.mono D,ah,ah⟩
     ·obtain⟨_,L⟩:=z i oi hi;obtain⟨_,U⟩:=z j oj d;exact r.inj i j _ _ c m m' L U M O
     ·split at J
      ·grind
      ·exact r.frz c cs' J
     ·have d:AK (DE st.ob id<|.arr true e s l) j=none:=d;rw[A]at d;split at d
      ·cases d
      ·exact r.dead j d
     ·split at J
      ·rename_i Y;subst Y;exact .inr (r.own id c n E).2
      ·exact r.fo c cs' J
 |dat s x=>exact same (fun y u ρ' N'=>by simp only[Cq,zh,zn,true_and]at u;grind [PR]) rfl
 |bl b=>exact same (fun y u ρ' N'=>by simp only[Cq,zh,zn,true_and]at u;grind [PR]) rfl
 |nil=>exact same (fun y u ρ' N'=>by simp only[Cq,zh,zn,true_and]at u;grind [PR]) rfl
 |D0 s x off=>exact same (fun y u ρ' N'=>by simp only[Cq,zh,zn,true_and]at u;grind [PR]) rfl
 |any|ub|yl _|nilp|nilm|nilf|nili|agg _|tup _|ptr _ _|eptr _ _ _ _|mp _=>exact same (fun x t=>by simp[Cq]at t) rfl
 |fn f a c=>cases a with
  |cons _ _=>exact same (fun x t=>by simp[Cq]at t) rfl
  |nil=>cases c with
   |cons _ _=>exact same (fun x t=>by simp[Cq]at t) rfl
   |nil=>exact same (fun y u ρ' N'=>by simp only[Cq,zh,zn,true_and]at u;grind [PR,BB]) rfl
theorem HL:∀ {ps:List PV} {vs:List V} {st:AF} {F:Fz},SR B h0 F ρ st.nx st.ob h->BB F ρ st.nx ps vs->
  ∃F1,SR B h0 F1 ρ (Bf ps st).nx (Bf ps st).ob h/\(∀b cs,F b=some cs->F1 b=some cs)/\∀e,DT st ps=some (true,e)->JF F1 e vs
 |[],vs,st,F,g,j=>⟨F,g,fun _ _ h=>h,(by grind [DT,JF,BB])⟩
 |p::ps,vs,st,F,g,j=>by
  obtain⟨v,vs,rfl,m,k⟩:=j;obtain⟨F1,g1,g2,g3⟩:=LR g m;have i:BB F1 ρ (Bq st p).nx ps vs:=by rw[(JJ st p).1];exact k.mono<|Le.Ye g2
  obtain⟨s,r,o,u⟩:=HL g1 i;refine⟨s,r,ah,fun e a=>?_⟩;unfold DT at a;split at a
  case h_2=>cases a
  rename_i c x d l q t;simp only[zh,zn,ze]at a;obtain⟨⟨rfl,rfl⟩,rfl⟩:=a;exact JF.cons ((g3 x q).mono o) (by grind [Lz,LI])
theorem dR(q:SR B h0 F ρ st.nx st.ob h){t:TypeId}{n:Nat}{l:List (Nat×PV)}{l':List (Nat×V)}(E:qJ F ρ st.nx l l'){v:PV}(a:(Rv C.T t n l st).To v st'):OK B h0 F ρ st h [] (EG<|Ef C.T h t n l') v st':=by
 unfold Rv at a;split at a
 case h_2=>simp at a
 rename_i e K;split at a
 case h_2=>simp at a
 rename_i i s M hs;cases r:(zi (Nat.mul n i.size) 16777216&&zl 0 i.zero.length&&zf i.zero.length i.size&&zf i.size s.sz)with
 |false=>rw[r]at a;simp at a
 |true=>
  rw[r]at a;simp only[ze]at r;obtain⟨⟨⟨I,J⟩,p⟩,L⟩:=r;simp only[we]at a;split at a
  case h_2=>simp at a
  rename_i cs k;split at a
  case h_2=>
   split at a
   case h_2=>simp at a
   rename_i c cs' Z;split at a
   case h_2=>simp at a
   rename_i el g;simp only[BV]at a;obtain⟨rfl,rfl,rfl⟩:=a;have S:=zg p;have z:=zg L;have D:BB F ρ st.nx (Om (i.zero.map Ub) n) (EL i.zero<|n*i.size):=by
    grind [G5,Jq]
   obtain⟨j,m,u⟩:=IY q E D k;have b:j.length=n*s.sz:=by
    rw[<-z];rw[KP m];simp[EL]
   obtain⟨F1,Y,U,O⟩:=HL q u;obtain⟨w,P⟩:=IK (O cs' Z ρ st.nx) g b;have A:Ef C.T h t n l'=some (.sl h.nx 0 n n 0,h.push<|.cells j e (0,0)):=by
    have d:zi (n*i.size) 16777216=true:=I;simp only[Ef,K,M,d,J,p,Bool.and_self,we,m,HV]
   rw[A];obtain⟨G,W,R⟩:=C2 cs st;have y:=OK.new (F:=F1) (ρ:=ρ) (st:=Bf cs st) Y (o:=.arr false e s el) (x:=.cells j e (0,0)) (n:=n) (v:=.sl (Bf cs st).nx s.sz 0 n none) (v':=.sl h.nx 0 n n 0) rfl ⟨_,_,rfl,ae,zd _,w⟩ (Oy<|.inl rfl);obtain⟨v',h',F',ρ',q1,q2,q3,q4,q5,q6,q7,q8⟩:=y;rw[G]at q2;exact⟨v',h',F',ρ',q1,q2,q3,(by rw[G]at q4;exact(Le.Ye U).trans q4),q5.trans W,q6.trans R,q7,q8⟩
  rename_i el g;obtain⟨rfl,rfl⟩:=a;have S:=zg p;have z:=zg L;have D:BB F ρ st.nx (Om (i.zero.map Ub) n) (EL i.zero<|n*i.size):=by
   grind [G5,Jq]
  obtain⟨j,m,u⟩:=IY q E D k;have b:j.length=n*s.sz:=by
   rw[<-z];rw[KP m];simp[EL]
  obtain⟨w,P⟩:=IK u g b;have A:Ef C.T h t n l'=some (.sl h.nx 0 n n 0,h.push<|.cells j e (0,0)):=by
   have d:zi (n*i.size) 16777216=true:=I;simp only[Ef,K,M,d,J,p,Bool.and_self,we,m,HV]
  rw[A];exact OK.new q (o:=.arr false e s el) (n:=n) rfl ⟨_,_,rfl,ae,zd _,w⟩ (Oy<|.inl rfl)
end
section
variable {B:Nat}{h0:H0}{F:Fz}{ρ:DH}{N:Nat}{C:Ctx}{st st':AF}{fr:Fr}{h h':H}
theorem DB{x:Operand}{k:PV->PO}{v:PV}:(v1 st x k).To v st'↔∃p,OV st x=some p/\(k p).To v st':=by
 unfold v1;cases OV st x with
 |none=>simp
 |some p=>simp
theorem bK(d:FP F ρ N st fr){x:Option Operand}{k:Option PV->PO}{v:PV}(a:(o1 st x k).To v st'):∃p y,Tz C fr x=some y/\Tw F ρ N p y/\(k p).To v st':=by
 cases x with
 |none=>exact⟨none,none,rfl,rfl,a⟩
 |some x=>
  obtain⟨p,c,b⟩:=DB.1 a;obtain⟨y,g1,g2⟩:=BQ (C:=C) d c;exact⟨some p,some y,by simp[Tz,g1],⟨y,rfl,g2⟩,b⟩
theorem XI(d:SR B h0 F ρ st.nx st.ob h){b:Builtin}{ts:Array TypeId}{ps:List PV}{e:List V}(c:BB F ρ st.nx ps e){v:PV}(a:(H3 C.T b ts ps st).To v st'):
  OK B h0 F ρ st h (match b with| .append| .clear=>EX ps| .unsafeString=>sG ps|_=>[]) (EA C h b ts e) v st':=by
 unfold H3 at a;split at a
 case h_8=>simp at a
 case h_7=>exact tN d c a
 case h_6=>exact gX d c a
 case h_5=>exact mC d c a
 case h_1=>exact xX d c a
 case h_2=>exact dL d c a
 case h_3=>exact wT (g:=ZU) d (by grind [ZU,imax]) c a
 case h_4=>exact wT (g:=gQ) d (fun k x y=>by rfl) c a
theorem lM(E:Rel B h0 F ρ st fr h){o:Oper}{v:PV}(e:(pop o.op C.T st).To v st'):
  ∃L,OK B h0 F ρ st h L (FN C fr h o) v st'/\∀sp J,Gf sp st o.op=some J->∀i∈L,i∈J:=by
 have nil:∀ {d:Option OR} {op:Op},OK B h0 F ρ st h [] d v st'->∃L,OK B h0 F ρ st h L d v st'/\∀sp J,Gf sp st op=some J->∀i∈L,i∈J:=ah;have g:∀ {x p},OV st x=some p->∃y,ev C fr x=some y/\PR F ρ st.nx p y:=fun hp=>BQ E.fp hp
 unfold pop at e;rw[CF];unfold F5;cases W:o.op<;>rw[W]at e<;>simp only[I4,KV]at e<;>simp only
 case move x|assign x=>
  simp only[TE,PL]at e;obtain⟨G,rfl⟩:=e;obtain⟨y,D,A⟩:=g G;refine nil ?_;rw[D];exact zo E.sr rfl A
 case pick c a b=>
  simp only[bM,DB]at e;obtain⟨p,G,q,K,r,U,e⟩:=e;obtain⟨x,D,A⟩:=g G;obtain⟨y,g3,g4⟩:=g K;obtain⟨z,g5,g6⟩:=g U;obtain⟨t,rfl,S⟩:=pL E.sr A g4 g6 e;grind
 case alloc t=>exact nil<|gT E.sr e
 case box t x=>
  simp only[oS,DB]at e;obtain⟨p,G,e⟩:=e;obtain⟨y,D,A⟩:=g G;split at e
  case h_2=>simp at e
  rename_i cs V;cases Y:Det.Kb (Kc st) cs with
  |false=>simp_all
  |true=>
  rw[Y]at e;simp only[we,BU]at e;obtain⟨rfl,rfl⟩:=e;refine nil ?_;rw[D];exact yA E.sr A V (by rw[<-EU];exact Y)
 case build t ps=>
  simp only[Vv]at e;split at e
  case h_2=>simp at e
  rename_i l M;obtain⟨l',D,A⟩:=Oq (C:=C) E.fp M;refine nil ?_;rw[D];exact gG E.sr A e
 case buildSlice t n ps=>
  simp only[Sv]at e;split at e
  case h_2=>simp at e
  rename_i l M;obtain⟨l',D,A⟩:=Oq (C:=C) E.fp M;refine nil ?_;rw[D];exact dR E.sr A e
 case load t x=>
  simp only[cD,DB]at e;obtain⟨p,G,e⟩:=e;obtain⟨y,D,A⟩:=g G;refine nil ?_;rw[D];exact Z3 E.sr A e
 case store t x y=>
  simp only[Vw,DB]at e;obtain⟨p,G,q,K,e⟩:=e;obtain⟨a,D,A⟩:=g G;obtain⟨b,g3,g4⟩:=g K;obtain⟨id,hid,S⟩:=iT E.sr A g4 e;refine⟨[id],by grind,fun sp J O=>?_⟩;simp only[Gf,G]at O;grind
 case nilCheck x=>
  simp only[On,DB]at e;obtain⟨p,G,e⟩:=e;obtain⟨y,D,A⟩:=g G;rw[D];split at e
  case h_4=>simp at e
  case h_1=>
   rename_i id off;cases M:Hy (st.obj id)with
   |false=>simp_all
   |true=>
    rw[M]at e;simp only[we,BU]at e;obtain⟨rfl,rfl⟩:=e;obtain⟨b,n,k1⟩:=E.sr.live M;have I:=A;simp only[PR]at I;obtain rfl:=I.2 b n k1;exact nil<|zo E.sr rfl A
  case h_2=>
   rename_i id sz j off;cases M:Hy (st.obj id)with
   |false=>simp_all
   |true=>
    rw[M]at e;simp only[we,BU]at e;obtain⟨rfl,rfl⟩:=e;obtain⟨b,n,k1⟩:=E.sr.live M;have I:=A;simp only[PR]at I;obtain rfl:=I.2 b n k1;exact nil<|zo E.sr rfl A
  case h_3=>
   simp only[BU]at e;obtain⟨rfl,rfl⟩:=e;have I:=A;simp only[PR]at I;obtain⟨b,o',cs,rfl,_⟩:=I;exact nil<|zo E.sr rfl A
 case binOp op t x y t2=>
  simp only[oL,DB]at e;obtain⟨p,G,q,K,e⟩:=e;obtain⟨a,D,A⟩:=g G;obtain⟨b,g3,g4⟩:=g K;refine nil ?_;rw[D,g3];split at e
  case h_2=>exact vO E.sr A g4 e
  rename_i r R;simp only[BU]at e;obtain⟨rfl,rfl⟩:=e;unfold oB at R;split at R
  case h_3=>cases R
  all_goals
   rename_i m hu;cases Z:(WO x||WO y)with
   |false=>grind
   |true=>
    rw[Z]at R;cases R;simp only[PR]at A g4;subst A g4;exact zo E.sr (by simp only[Jd,mJ,hu,Z,we,Bs])<|aN _
 case unOp op t x=>
  simp only[vY,DB]at e;obtain⟨p,G,e⟩:=e;obtain⟨y,D,A⟩:=g G;refine nil ?_;rw[D];exact zL E.sr A e
 case convert s d x=>
  simp only[Z5,DB]at e;obtain⟨p,G,e⟩:=e;obtain⟨y,D,A⟩:=g G;refine nil ?_;rw[D];exact tU E.sr A e
 case makeFunc f a b=>
  simp only[bY]at e;split at e
  case h_2=>simp at e
  rename_i x y hx hy;simp only[BU]at e;obtain⟨rfl,rfl⟩:=e;obtain⟨u,D,A⟩:=Ek (C:=C) E.fp hx;obtain⟨w,g3,g4⟩:=Ek (C:=C) E.fp hy;refine nil ?_;rw[D,g3];exact zo E.sr rfl (by unfold PR;grind)
 case makeMap t r=>
  simp only[VM]at e;split at e
  case h_2=>simp at e
  refine nil ?_;exact lD E.sr e
 case lookup t x i ok=>
  simp only[SE,DB]at e;obtain⟨p,G,q,K,e⟩:=e;obtain⟨a,D,A⟩:=g G;obtain⟨b,g3,g4⟩:=g K;refine nil ?_;rw[D,g3];exact dE E.sr A g4 e
 case mapUpdate t m k x|insert t m k x=>
  simp only[M6,DB]at e;obtain⟨p,G,q,K,r,U,e⟩:=e;obtain⟨a,D,A⟩:=g G;obtain⟨b,g3,g4⟩:=g K;obtain⟨c,g5,g6⟩:=g U;obtain⟨id,rfl,S⟩:=ZW E.sr A g4 g6 e;grind [Gf]
 case makeSlice t l c=>
  simp only[ZS,DB]at e;obtain⟨p,G,q,K,e⟩:=e;obtain⟨a,D,A⟩:=g G;obtain⟨b,g3,g4⟩:=g K;refine nil ?_;rw[D,g3];exact sF E.sr A g4 e
 case slice t x lo hi mx=>
  simp only[WB,DB]at e;obtain⟨p,G,e⟩:=e;obtain⟨a,D,A⟩:=g G;obtain⟨l,l',k1,k2,e⟩:=bK (C:=C) E.fp e;obtain⟨m,m',k3,k4,e⟩:=bK (C:=C) E.fp e;obtain⟨n,n',k5,k6,e⟩:=bK (C:=C) E.fp e;refine nil ?_;rw[D,k1,k3,k5];exact jP E.sr A k2 k4 k6 e
 case fieldAddr t x f=>
  simp only[VA,DB]at e;obtain⟨p,G,e⟩:=e;obtain⟨y,D,A⟩:=g G;refine nil ?_;rw[D];exact iC E.sr A e
 case field t x f=>
  simp only[Wd,DB]at e;obtain⟨p,G,e⟩:=e;obtain⟨y,D,A⟩:=g G;refine nil ?_;rw[D];exact iV E.sr A e
 case indexAddr t x i=>
  simp only[Ws,DB]at e;obtain⟨p,G,q,K,e⟩:=e;obtain⟨a,D,A⟩:=g G;obtain⟨b,g3,g4⟩:=g K;refine nil ?_;rw[D,g3];exact mK E.sr A g4 e
 case index t x i=>
  simp only[Wg,DB]at e;obtain⟨p,G,q,K,e⟩:=e;obtain⟨a,D,A⟩:=g G;obtain⟨b,g3,g4⟩:=g K;refine nil ?_;rw[D,g3];exact mM E.sr A g4 e
 case extract x i=>
  simp only[Pc,DB]at e;obtain⟨p,G,e⟩:=e;obtain⟨y,D,A⟩:=g G;refine nil ?_;rw[D];exact X5 E.sr A e
 case range t x=>
  simp only[V8,DB]at e;obtain⟨p,G,e⟩:=e;obtain⟨y,D,A⟩:=g G;refine nil ?_;rw[D];exact iX E.sr A e
 case next x i=>
  simp only[bC,DB]at e;obtain⟨p,G,e⟩:=e;obtain⟨y,D,A⟩:=g G;obtain⟨rfl,id,off,rfl,S⟩:=qB E.sr A e;grind [Gf]
 case call c=>
  simp only[Ro]at e;split at e
  case h_1=>simp at e
  rename_i args P;obtain⟨args',D,A⟩:=Ek (C:=C) E.fp P;split at e
  case h_2=>simp at e
  case h_1=>
   rename_i b hb;split at e
   case h_1=>
    obtain⟨id,qs,rfl,S⟩:=Zq E.sr A e;refine⟨[id],by rw[hb,D];exact S,fun sp J O=>?_⟩;grind [Gf]
   case h_2=>
   have:=XI E.sr A e;grind [Gf,EX,sG]
end
section
variable {B:Nat}{h0:H0}{F:Fz}{ρ:DH}{N:Nat}{X:A0}{st st':AF}{fr:Fr}{h h':H}{Q:PV->Ob->Prop}{n:Nat}
@[simp] theorem Cs(st:AF)(t:Nat)(p:PV)(s:Nat):(st.set t p).get s=if s=t then p else st.get s:=by
 unfold AF.get AF.set;grind [PM.Cs]
theorem Rel.set(a:Rel B h0 F ρ st fr h){t:Nat}{p:PV}{x:V}(b:PR F ρ st.nx p x):Rel B h0 F ρ (st.set t p) ⟨fr.n,fr.m.set t<|some x⟩ h:=by
 refine⟨⟨a.fp.n,fun s=>?_⟩,a.sr⟩;rw[Cs];unfold Fr.get;simp only[PM.Cs];split
 ·exact b
 ·exact a.fp.slot s
theorem Rel.note(a:Rel B h0 F ρ st fr h){t:Nat}{p:PV}(b:PR F ρ st.nx p (fr.get t)):Rel B h0 F ρ (st.set t p) fr h:=by
 refine⟨⟨a.fp.n,fun s=>?_⟩,a.sr⟩;rw[Cs];split
 ·rename_i e;subst e;exact b
 ·exact a.fp.slot s
theorem Rel.put(b:Rel B h0 F ρ st fr h){d:Option Nat}{p:PV}{x:V}(c:PR F ρ st.nx p x)(a:st.put d p=some st'):∃fr',fr.put d x=some fr'/\Rel B h0 F ρ st' fr' h/\st'.nx=st.nx/\st'.ob=st.ob:=by
 unfold AF.put at a;unfold Fr.put;cases d with
 |none=>grind
 |some t=>
  simp only at a ⊢;have g:st.n=fr.n:=b.fp.n;rw[g]at a;cases e:zl t fr.n with
  |false=>grind
  |true=>
   rw[e]at a;simp only[we,zh]at a;subst a;exact⟨_,rfl,b.set c,rfl,rfl⟩
structure CR(B:Nat)(h0:H0)(F:Fz)(ρ:DH)(N:Nat)(h:H)(st':AF)(fr':Fr)(h':H)(F':Fz)(ρ':DH):Prop where
 rel:Rel B h0 F' ρ' st' fr' h'
 le:Le F ρ N F' ρ' st'.nx
 nx:h.nx<=h'.nx
theorem CR.refl(a:Rel B h0 F ρ st fr h):CR B h0 F ρ st.nx h st fr h F ρ:=⟨a,zk,zd _⟩
theorem CR.trans{F' g:Fz}{ρ' e:DH}{d:AF}{fr' c:Fr}{i:H}(a:CR B h0 F ρ N h st' fr' h' F' ρ')(b:CR B h0 F' ρ' st'.nx h' d c i g e):CR B h0 F ρ N h d c i g e:=
 ⟨b.rel,a.le.trans b.le,zp a.nx b.nx⟩
def wA(X:A0)(ρ:DH)(h:H)(args':List V):pJ->Cl->Prop
 | .fn g,c=>c=.fn g args'/\X.C.prim g=none/\∃i,X.C.fn g=some i
 | .rnd id,c=>∃b n ls,ρ id=some (b,n)/\h.get b=some (.loop ls)/\args'.length=ls.ps.size/\c=.rnd b ls (Gg ls.ps.toList args' ls.fr)
inductive LX (X:A0) (ρ:DH) (h:H) (args':List V):pJ->List (V×H)->Prop where
 |A1 {g:pJ} {c:Cl} {l:List (V×H)} {M:Nat}:wA X ρ h args' g c->(∀m,M<=m->Det.A1 X.C m c h=some l)->LX X ρ h args' g l
 |prim {g:FuncId} {q:List V->H->Option (V×H)} {x:V×H}:X.C.prim g=some q->q args' h=some x->LX X ρ h args' (.fn g) [x]
def EF(B:Nat)(h0:H0)(X:A0)(nd:Bool)(call:Fh):Prop:=
 ∀ {Q:PV->Ob->Prop} {n:Nat} {g:pJ} {args:List PV} {st:AF} {k:PV->AF->Tr},Ev X Q n (call g args st k)->∀ {F:Fz} {ρ:DH} {fr:Fr} {h:H} {args':List V},Rel B h0 F ρ st fr h->BB F ρ st.nx args args'->
  ∃l,LX X ρ h args' g l/\(nd=false->∃x,l=[x])/\
   ∀x∈l,∃n',n'<=n/\∃r st',Ev X Q n' (k r st')/\∃F' ρ',PR F' ρ' st'.nx r x.1/\CR B h0 F ρ st.nx h st' fr x.2 F' ρ'/\(∀a,g=.fn a->∀sp,X.sp a=some sp->∀b,b<h.nx->x.2.get b=h.get b)
theorem Ev.Ee{c:Bool}{a b:Tr}(d:Ev X Q n (.ite c a b)):(c=true/\Ev X Q n a)\/(c=false/\Ev X Q n b):=by
 cases d with
 |ite g e=>
  grind
theorem Ev.R3{a b:Tr}(c:Ev X Q n (.both a b)):Ev X Q n a/\Ev X Q n b:=by
 cases c with
 |both d e=>grind
theorem Ev.Ay:¬Ev X Q n .fail:=fun h=>by cases h
theorem Ev.Wr{v:PV}{ob:Ob}(a:Ev X Q n (.leaf v ob)):Q v ob:=by
 cases a with
 |leaf h=>exact h
theorem LB(m:Rel B h0 F ρ st fr h){ops:Array Oper}{o:Oper}{yes no:AF->Tr}(e:Ev X Q n (guarded ops o st yes no)):
  ∃i,Rel B h0 F ρ i fr h/\i.nx=st.nx/\i.ob=st.ob/\((A3 fr ops o=true/\Ev X Q n (yes i))\/(A3 fr ops o=false/\Ev X Q n (no i))):=by
 unfold guarded at e;unfold A3;cases v:o.guard with
 |none=>grind
 |some s=>
  obtain⟨j,g⟩:=s;rw[v]at e;simp only at e ⊢;cases w:(ops[j]?).bind (·.dst)with
  |none=>grind [Ev.Ay]
  |some t=>
   rw[w]at e;simp only at e ⊢;rw[show st.n=fr.n from m.fp.n]at e;cases q:zl t fr.n with
   |false=>grind [Ev.Ay]
   |true=>
    rw[q]at e;have k:=m.fp.slot t;split at e
    case h_1=>
     rename_i b d;rw[d]at k;rw[Nr k];grind
    case h_2=>
     rename_i b d;rw[d]at k;have p:=J7 k;have note:∀c:Bool,b=c->Rel B h0 F ρ (st.set t<|.bl c) fr h:=by
      rintro c rfl;exact m.note (by rw[p];rfl)
     cases g with
     |true=>
      rcases e.Ee with⟨a,e⟩|⟨a,e⟩
      ·exact⟨_,note true a,rfl,rfl,ah⟩
      ·exact⟨_,note false a,rfl,rfl,ah⟩
     |false=>
      rcases e.Ee with⟨a,e⟩|⟨a,e⟩
      ·exact⟨_,note true a,rfl,rfl,ah⟩
      ·exact⟨_,note false a,rfl,rfl,ah⟩
    case h_5=>grind [Ev.Ay]
    case h_4=>
     rename_i d;rw[d]at k;obtain⟨b,p⟩:=k;have note:∀c:Bool,b=c->Rel B h0 F ρ (st.set t<|.bl c) fr h:=by
      rintro c rfl;exact m.note (by rw[p];rfl)
     obtain⟨r,u⟩:=e.R3;cases b with
     |true=>
      cases g with
      |true=>exact⟨_,note true rfl,rfl,rfl,ah⟩
      |false=>exact⟨_,note true rfl,rfl,rfl,ah⟩
     |false=>
      cases g with
      |true=>exact⟨_,note false rfl,rfl,rfl,ah⟩
      |false=>exact⟨_,note false rfl,rfl,rfl,ah⟩
    case h_3=>
     rename_i l d;rw[d]at k;simp only[PR]at k;grind
theorem ID{d:Option Nat}{k:AF->Tr}:∀ {m:PO},Ev X Q n (P7 d k m)->∃u s i,m.To u s/\s.put d u=some i/\Ev X Q n (k i)
 | .bad,g=>wh g Ev.Ay
 | .val u s,g=>by
  simp only[P7]at g;split at g
  ·rename_i s1 o;exact⟨u,s,s1,.val,o,g⟩
  grind [Ev.Ay]
 | .ite c a b,g=>by
  rcases g.Ee with⟨rfl,e⟩|⟨rfl,e⟩
  ·obtain⟨u,s,s1,l,j⟩:=ID e;exact⟨u,s,s1,.tt l,j⟩
  ·obtain⟨u,s,s1,l,j⟩:=ID e;exact⟨u,s,s1,.ff l,j⟩
inductive lN (X:A0) (fr:Fr) (h:H) (o:Oper):List (V×H)->Prop where
 |val {x:V} {h':H}:FN X.C fr h o=some (.val x h')->lN X fr h o [(x,h')]
 |skip {h':H}:FN X.C fr h o=some (.skip h')->lN X fr h o [(.tup [],h')]
 |alts {l:List (V×H)}:FN X.C fr h o=some (.alts l)->lN X fr h o l
 |call {g:FuncId} {args:List V} {l:List (V×H)} {M:Nat}:FN X.C fr h o=some (.enter g args)->(∀m,M<=m->A1 X.C m (.fn g args) h=some l)->lN X fr h o l
 |round {b:Nat} {ls:LS} {f:Fr} {l:List (V×H)} {M:Nat}:FN X.C fr h o=some (.round b ls f)->(∀m,M<=m->A1 X.C m (.rnd b ls f) h=some l)->lN X fr h o l
theorem Hf{nd:Bool}{call:Fh}(y:EF B h0 X nd call)(D:Rel B h0 F ρ st fr h){o:Oper}{k:AF->Tr}(P:Ev X Q n (Hg X.C.T call o st k)):
  ∃l,lN X fr h o l/\((nd=false->(∃x,l=[x])/\∀l',FN X.C fr h o≠some (.alts l'))/\((∀id a,KQ st o.op≠ .yes (.rnd id) a)->∀b ls f,FN X.C fr h o≠some (.round b ls f)))/\∀x∈l,∃n',n'<=n/\∃d,Ev X Q n' (k d)/\∃F' ρ' fr',fr.put o.dst x.1=some fr'/\CR B h0 F ρ st.nx h d fr' x.2 F' ρ'/\
   ∀w,Gf X.sp st o.op=some w->∀b,b<h.nx->x.2.get b=h.get b\/∃id∈w,∃m,ρ id=some (b,m):=by
 unfold Hg at P;split at P
 case h_2=>grind [Ev.Ay]
 case h_1=>
  rename_i g args z;unfold KQ at z;split at z
  case h_2=>cases z
  rename_i c hop;split at z
  case h_2=>cases z
  rename_i f M;split at z
  case h_3=>cases z
  case h_2=>
   rename_i id ps R E;cases z;obtain⟨fv,f1,S⟩:=BQ (C:=X.C) D.fp R;obtain⟨av,a1,a2⟩:=Ek (C:=X.C) D.fp E;simp only[PR]at S;obtain⟨l,hcd,hnd,hall⟩:=y P D a2;obtain⟨hcd1,Z⟩:=hcd;obtain⟨b,m,ls,c1,c2,c3,rfl⟩:=hcd1;have e:FN X.C fr h o=some (.round b ls<|Gg ls.ps.toList av ls.fr):=by
    simp_all [CF,F5,Hq]
   refine⟨l,.round e Z,⟨ah,fun hno=>?_⟩,fun x J=>?_⟩
   ·grind [KQ]
   obtain⟨n',U,r,st',j,F',ρ',hp,I,V⟩:=hall x J;split at j
   case h_2=>grind [Ev.Ay]
   rename_i d v;obtain⟨fr',A,K,O,g4⟩:=I.rel.put hp v;refine⟨n',U,d,j,F',ρ',fr',A,⟨K,by rw[O];exact I.le,I.nx⟩,fun w p b hb=>?_⟩;grind [Gf]
  rename_i g' first cap ps R E
  cases z;obtain⟨fv,f1,S⟩:=BQ (C:=X.C) D.fp R;obtain⟨av,a1,a2⟩:=Ek (C:=X.C) D.fp E;simp only[PR]at S;obtain⟨fa,fb,rfl,f3,f4⟩:=S;have G:BB F ρ st.nx (first++ps++cap) (fa++av++fb):=(f3.append a2).append f4;obtain⟨l,hcd,hnd,hall⟩:=y P D G;have L:lN X fr h o l/\(∀l',FN X.C fr h o≠some (.alts l'))/\∀b ls f,FN X.C fr h o≠some (.round b ls f):=by
   cases hcd with
   |A1 z Z=>
    obtain⟨rfl,Y,i,hfn⟩:=z;have e:FN X.C fr h o=some (.enter g'<|fa++av++fb):=by
     simp_all [CF,F5,Hq]
    exact⟨.call e Z,ah,ah⟩
   |prim hq J=>
    rename_i q x;have e:FN X.C fr h o=some (.val x.1 x.2):=by
     grind [CF,F5,Hq,EG]
    exact⟨.val e,ah,ah⟩
  refine⟨l,L.1,ah,fun x J=>?_⟩;obtain⟨n',U,r,st',j,F',ρ',hp,I,V⟩:=hall x J;split at j
  case h_2=>grind [Ev.Ay]
  rename_i d v;obtain⟨fr',A,K,O,g4⟩:=I.rel.put hp v;refine⟨n',U,d,j,F',ρ',fr',A,⟨K,by rw[O];exact I.le,I.nx⟩,fun w p b hb=>?_⟩;simp only[hop,Gf,M,R]at p;grind
 case h_3=>
  obtain⟨u,s,d,h1,h2,h3⟩:=ID P;obtain⟨tch,⟨v',h',F',ρ',A,K,O,g4,g5,g6,g7,g8⟩,htch⟩:=lM (C:=X.C) D h1;have W:Rel B h0 F' ρ' s fr h':=⟨⟨by rw[g6];exact D.fp.n,fun t=>by
   have:s.get t=st.get t:=by unfold AF.get;rw[g5]
   rw[this];exact(D.fp.slot t).mono g4⟩,O⟩
  obtain⟨fr',k1,k2,k3,k4⟩:=W.put K h2;refine⟨[(v',h')],?_,ah,fun x J=>?_⟩
  ·rcases A with A|⟨A,rfl⟩
   ·exact .val A
   ·exact .skip A
  ·cases zc.1 J;refine⟨n,zd _,d,h3,F',ρ',fr',k1,⟨k2,by grind,g7⟩,fun w p b hb=>?_⟩;grind
theorem tO{α a:Type}{f:α->Option (List a)}{x:α}:bl [x] f=f x:=by
 grind [bl]
theorem Iu{α d:Type}{f:Nat->Nat->α->Option (List d)}{P:d->Prop}{nd:Bool}{l:List α}(c:nd=false->∃x,l=[x])(h:∀a∈l,∃r M,(∀m,M<=m->∀q,M<=q->f m q a=some r)/\(nd=false->∃x,r=[x])/\∀y∈r,P y):
  ∃r M,(∀m,M<=m->∀q,M<=q->bl l (f m q)=some r)/\(nd=false->∃x,r=[x])/\∀y∈r,P y:=by
 cases nd with
 |false=>
  obtain⟨x,rfl⟩:=c rfl;simp_all [tO]
 |true=>
  clear c;suffices hs:∃r M,(∀m,M<=m->∀q,M<=q->bl l (f m q)=some r)/\∀y∈r,P y by
   simp_all
  induction l with
  |nil=>exact⟨[],0,fun _ _ _ _=>rfl,(by simp)⟩
  |cons a l g=>
   obtain⟨r,M,j,_,e⟩:=h a (by simp);obtain⟨r2,M2,h3,h4⟩:=g (by simp_all);cases l with
   |nil=>exact⟨r,M,(by grind [bl]),e⟩
   |cons b l=>
    refine⟨r++r2,max M M2,fun m i q k=>?_,fun y o=>?_⟩
    ·grind [bl]
    grind
theorem NW{d:Option Nat}{P:Fr×H->Prop}:∀ {l:List (V×H)},(∀x∈l,∃fr',fr.put d x.1=some fr'/\P (fr',x.2))->∃r,G6 fr d l=some r/\(∀y∈r,P y)/\((∃x,l=[x])->∃y,r=[y])
 |[],_=>⟨[],rfl,(by simp),(by simp)⟩
 |x::l,h=>by
  obtain⟨fr',c,e⟩:=h x (by simp);obtain⟨r,h3,h4,_⟩:=NW (l:=l) (fun y b=>h y ah);refine⟨(fr',x.2)::r,?_,fun y b=>?_,fun⟨z,a⟩=>?_⟩
  ·grind [G6]
  ·grind
  ·cases a;cases h3;simp
theorem lN.Aav{l:List (V×H)}{o:Oper}{ops:Array Oper}(a:lN X fr h o l)(p:A3 fr ops o=true){P:Fr×H->Prop}(d:∀x∈l,∃fr',fr.put o.dst x.1=some fr'/\P (fr',x.2)):
  ∃r M,(∀m,M<=m->step1 X.C (A1 X.C m) ops o fr h=some r)/\((∃x,l=[x])->∃y,r=[y])/\∀y∈r,P y:=by
 obtain⟨r,q,e,c⟩:=NW d;cases a with
 |@val x h' a=>
  obtain⟨fr',k,j⟩:=d _<|zc.2 rfl;exact⟨[(fr',h')],0,(by simp_all [step1,HC]),(by simp),ah⟩
 |@skip h' a=>
  obtain⟨fr',k,j⟩:=d _<|zc.2 rfl;exact⟨[(fr',h')],0,(by simp_all [step1,HC]),(by simp),ah⟩
 |alts a=>exact⟨r,0,(by simp_all [step1,HC]),c,e⟩
 |@call g args l M a i=>exact⟨r,M,(by simp_all [step1,HC]),c,e⟩
 |@round b ls f l M a i=>exact⟨r,M,(by simp_all [step1,HC]),c,e⟩
theorem W5{T:BP}{h:H}{s d:TypeId}{b off:Nat}:E1 T h s d (.ptr b off)=none:=by
 simp_all [E1]
theorem aV(k:Rel B h0 F ρ st fr h){o:Oper}{v:PV}(a:pK X.C.T st o.op=some v):OK B h0 F ρ st h [] (HC X.C fr h o) v st:=by
 have fin:∀ {s d:TypeId} {x:Operand} {b off:Nat} {u:V},o.op=.convert s d x->ev X.C fr x=some (.ptr b off)->D0 X.C.T h s d (.ptr b off)=some u->PR F ρ st.nx v u->OK B h0 F ρ st h [] (HC X.C fr h o) v st:=by
  intro s d x b off u c j g A;have r:FN X.C fr h o=none:=by
   rw[CF];unfold F5;rw[c];simp only[j,W5];rfl
  refine zo k.sr (v':=u) ?_ A;grind [HC]
 unfold pK at a;split at a
 case h_2=>cases a
 rename_i s d x c;split at a
 case h_3=>cases a
 case h_1=>
  rename_i t id off w D m;split at a
  case h_2=>cases a
  rename_i i tb cs E q;cases l:(zl 0 i.size&&zl off (Det.ET cs))with
  |false=>grind
  |true=>
   rw[l]at a;cases a;obtain⟨y,j,g⟩:=BQ (C:=X.C) k.fp m;obtain⟨b,n,z,k1,k2,⟨bs,fz,rfl,k4,_⟩,_⟩:=k.sr.at q;have p:=g;obtain rfl:=p.2 b n k1;refine fin c j ?_ g;unfold D0;rw[Dm,k4.len]at l;grind
 case h_2=>
  rename_i u id off w D m;split at a
  case h_2=>cases a
  rename_i i e cs E q;cases l:(zl 0 i.size&&zi i.size (Det.ET cs)&&zf e u&&zf off 0)with
  |false=>grind
  |true=>
   rw[l]at a;cases a;obtain⟨y,j,g⟩:=BQ (C:=X.C) k.fp m;obtain⟨b,n,z,k1,k2,⟨bs,fz,rfl,k4,_⟩,_⟩:=k.sr.at q;have p:=g;obtain rfl:=p.2 b n k1;have h0:off=0:=by
    simp_all
   subst h0;refine fin c j (u:=.ptr b 0) ?_ g;unfold D0;rw[Dm,k4.len]at l;grind
theorem SQ(k:Rel B h0 F ρ st fr h){o:Oper}{v:PV}{c:AF}(a:QW X.C.T st o.op=some (v,c)):OK B h0 F ρ st h [] (HC X.C fr h o) v c:=by
 unfold QW at a;split at a
 case h_2=>cases a
 rename_i s d x g;split at a
 case h_2=>cases a
 rename_i e l p u i;split at a
 case h_2=>cases a
 cases a;obtain⟨y,t,q⟩:=BQ (C:=X.C) k.fp i;obtain rfl:=Fb q;have m:FN X.C fr h o=none:=by
  rw[CF];unfold F5;rw[g];simp only[t,E1,p,u];rfl
 have i:HC X.C fr h o=EG (some (.sl h.nx 0 l.length l.length 1,h.push<|.cells (l.map fun b=>.int .u8<|.ofNat b.toNat) e (0,0))):=by
  simp_all [D0,HC,Q8]
 rw[i];refine OK.new k.sr (o:=.arr false e (.int .u8)<|l.map fun b=>(b.toNat:Int)) (n:=l.length) rfl ⟨l.map fun b=>V.int .u8<|.ofNat b.toNat,(0,0),rfl,⟨by simp[Sh.sz],fun j z=>?_⟩,zd _,by simp⟩ ?_
 ·have r:j<l.length:=ah
  have w:((l.map fun b=>V.int .u8<|.ofNat b.toNat).drop<|j*1).take 1=[V.int .u8<|.ofNat (l[j]).toNat]:=by
   simp_all [zw]
  grind [DC,Sh.sz]
 simp_all [PR,Bl]
theorem Ul(c:Rel B h0 F ρ st fr h){o:Oper}{v:PV}{a:AF}(b:Vk X.C.T st o.op=some (v,a)):OK B h0 F ρ st h [] (HC X.C fr h o) v a:=by
 grind [Vk,SQ,aV]
theorem Sq{nd:Bool}{call:Fh}(i:EF B h0 X nd call){ops:Array Oper}:∀ {l:List Oper} {n:Nat} {st:AF} {F:Fz} {ρ:DH} {fr:Fr} {h:H} {k:AF->Tr},Rel B h0 F ρ st fr h->Ev X Q n (prun X.C.T call ops l st k)->
  ∃r M,(∀m,M<=m->Rr X.C (A1 X.C m) ops l fr h=some r)/\(nd=false->∃x,r=[x])/\∀x∈r,∃n',n'<=n/\∃a,Ev X Q n' (k a)/\∃F' ρ',CR B h0 F ρ st.nx h a x.1 x.2 F' ρ'
 |[],n,st,F,ρ,fr,h,k,Y,c=>⟨[(fr,h)],0,fun _ _=>rfl,(by simp),fun x hx=>by cases zc.1 hx;exact⟨n,zd _,st,c,F,ρ,CR.refl Y⟩⟩
 |o::d,n,st,F,ρ,fr,h,k,Y,c=>by
  unfold prun at c;obtain⟨a,j,e1,e2,s⟩:=LB Y c;have fin:∀ {l:List (Fr×H)},(∃M,∀m,M<=m->step1 X.C (A1 X.C m) ops o fr h=some l)->(nd=false->∃x,l=[x])->
    (∀y∈l,∃n',n'<=n/\∃b,Ev X Q n' (prun X.C.T call ops d b k)/\∃F' ρ',CR B h0 F ρ st.nx h b y.1 y.2 F' ρ')->
    ∃r M,(∀m,M<=m->Rr X.C (A1 X.C m) ops (o::d) fr h=some r)/\(nd=false->∃x,r=[x])/\∀x∈r,∃n',n'<=n/\∃a,Ev X Q n' (k a)/\∃F' ρ',CR B h0 F ρ st.nx h a x.1 x.2 F' ρ':=by
   rintro l ⟨M1,R⟩ D hl;obtain⟨r,M,K,E,L⟩:=Iu (f:=fun m _ (x:Fr×H)=>Rr X.C (A1 X.C m) ops d x.1 x.2) (P:=fun x=>∃n',n'<=n/\∃a,Ev X Q n' (k a)/\∃F' ρ',CR B h0 F ρ st.nx h a x.1 x.2 F' ρ') D fun y A=>by
    obtain⟨n1,hn1,b,S,F1,ρ1,g⟩:=hl y A;obtain⟨r,M,K,L,E⟩:=Sq i g.rel S;refine⟨r,M,ah,L,fun z hz=>?_⟩;obtain⟨n2,hn2,st3,he3,F2,ρ2,hwent2⟩:=E z hz;exact⟨n2,ae,st3,he3,F2,ρ2,g.trans hwent2⟩
   refine⟨r,max M M1,fun m hm=>?_,E,L⟩;simp only[Rr,R m ae];exact K m ae m ae
  rcases s with⟨G,c⟩|⟨G,c⟩
  ·unfold nZ at c;split at c
   case h_1=>
    rename_i v p hb;split at c
    case h_2=>grind [Ev.Ay]
    rename_i b e;obtain⟨v',h',F',ρ',q,I,W,g4,g5,g6,g7,g8⟩:=Ul j hb;have U:Rel B h0 F' ρ' p fr h':=⟨⟨by rw[g6];exact j.fp.n,fun t=>by
     have:p.get t=a.get t:=by unfold AF.get;rw[g5]
     rw[this];exact(j.fp.slot t).mono g4⟩,W⟩
    have O:∃u,PR F' ρ' p.nx v u/\∀fr',fr.put o.dst u=some fr'->∀m,step1 X.C (A1 X.C m) ops o fr h=some [(fr',h')]:=by
     rcases q with q|⟨q,rfl⟩
     ·exact⟨v',I,fun fr' J m=>by simp only[step1,G,we,q,J]⟩
     ·exact⟨.tup [],I,fun fr' J m=>by simp only[step1,G,we,q,J]⟩
    obtain⟨u,hu,Dx⟩:=O;obtain⟨fr',J,k2,k3,k4⟩:=U.put hu e;refine fin (l:=[(fr',h')]) ⟨0,ah⟩ (by simp) fun y A=>?_
    cases zc.1 A;exact⟨n,zd _,b,c,F',ρ',k2,by grind,g7⟩
   obtain⟨l,w,hnd,Z⟩:=Hf i j c;obtain⟨r,M,K,L,E⟩:=w.Aav (ops:=ops) (P:=fun y=>∃n',n'<=n/\∃b,Ev X Q n' (prun X.C.T call ops d b k)/\∃F' ρ',CR B h0 F ρ st.nx h b y.1 y.2 F' ρ') G ah;exact fin ⟨M,K⟩ ah E
  ·unfold KR at c;split at c
   case h_2=>grind [Ev.Ay]
   rename_i b e;obtain⟨V,q,I,W,g4⟩:=j.put (x:=.tup []) (by simp[PR]) e;refine fin (l:=[(V,h)]) ⟨0,fun m _=>by simp only[step1,G,wg,q]⟩ (by simp) fun y A=>?_
   cases zc.1 A;exact⟨n,zd _,b,c,F,ρ,I,by rw[W,e1];exact zk,zd _⟩
mutual
theorem Lh:∀v:V,yf v v=true
 | .bool b=>by simp[yf]
 | .int k n=>by simp[yf]
 | .str s=>by simp[yf]
 | .nilp=>rfl
 | .ptr a i=>by simp[yf]
 | .nils=>rfl
 | .sl a b c d e=>by simp[yf]
 | .esl=>rfl
 | .es0=>rfl
 | .junk=>rfl
 | .nilm=>rfl
 | .map a=>by simp[yf]
 | .yld a=>by simp[yf]
 | .nilf=>rfl
 | .nili=>rfl
 | .fn f a b=>by simp only[yf,Fk a,Fk b,zy,wk]
 | .iface t x=>by simp only[yf,Lh x,zy];simp
 | .agg a=>by exact Fk a
 | .tup a=>by exact Fk a
theorem Fk:∀vs:List V,V.I5 vs vs=true
 |[]=>rfl
 |v::vs=>by simp only[V.I5,Lh v,Fk vs,zy]
end
theorem ZL{T:BP}{t:TypeId}{a x:V}(c:Eu T h t a=some x):∃b off o,a=.ptr b off/\h.get b=some o/\(∀g:H,g.get b=h.get b->Eu T g t a=some x)/\
  ∀(g:H) cs j e t2 k,h.get b=some (.cells cs j e)->g.get b=some (.cells cs t2 k)->Eu T g t a=some x:=by
 unfold Eu at c;split at c
 case h_2=>cases c
 rename_i b off d i s q;have p:∃o,h.get b=some o:=by
  cases l:h.get b with
  |some o=>simp
  |none=>
   grind [rd]
 obtain⟨o,m⟩:=p;refine⟨b,off,o,rfl,m,fun g l=>?_,fun g cs j e t2 k u r=>?_⟩
 ·simp_all [Eu,rd]
 ·unfold Eu;grind [rd]
def Qk(C:Ctx)(F:Fz)(bl:List Nat)(h:H)(fr:Fr)(o:Oper)(x:V):Prop:=
 ∀g:H,(∀b cs,F b=some cs->∃t fz,g.get b=some (.cells cs t fz))->(∀b∈bl,g.get b=h.get b)->∃z,FN C fr g o=some (.val x z)
theorem UU:∀ {s:Sh} {x:s.T} {cs:List V} {b:Nat},DC F s x cs->V.map b∉cs
 | .int _,_,_,_,h,hm=>by grind [DC]
 | .bool,_,_,_,h,hm=>by grind [DC]
 | .str,_,_,_,h,hm=>by grind [DC]
 | .list s,l,_,_,h,hm=>by
  simp only[DC]at h;grind
 | .pair a b,x,_,_,h,hm=>by
  obtain⟨c,d,rfl,g,e⟩:=h;rcases List.mem_append.1 hm with hm|hm
  ·exact UU g hm
  ·exact UU e hm
 | .unit,_,_,_,h,hm=>by grind [DC]
 | .fnv,x,_,_,h,hm=>by simp only[DC]at h;grind
 | .ptr _,x,_,_,h,hm=>by simp only[DC]at h;grind
 | .nlist s,l,_,_,h,hm=>by
  simp only[DC]at h;grind
theorem UH{s:Sh}{x:s.T}{b:Nat}(a:PR F ρ N (.dat s x) (.map b)):False:=by
 exact UU a<|zc.2 rfl
theorem TF{b:Nat}(a:PR F ρ N .nil (.map b)):False:=by
 grind [PR]
theorem fR(j:SR B h0 F ρ st.nx st.ob h){o:Oper}{c:Call}(e:o.op=.call c)(d:c.callee=.builtin .len){id sz off len:Nat}{cap:Option Nat}(g:Lw st c.args.toList=some [.sl id sz off len cap]){u:PV}{s:AF}
  (a:(pop o.op X.C.T st).To u s) {b:Nat} (k:PR F ρ st.nx (.sl id sz off len cap) (.map b)):False:=by
 rw[e]at a;simp only[pop,Ro,g,d,H3,mH,Sr,List.map_cons,List.map_nil,lz]at a;split at a;split at a
 case h_3=>
  cases i:Hy (st.obj id)with
  |false=>simp_all
  |true=>
   obtain⟨b',n,l⟩:=j.live i;grind [PR]
 all_goals first|(simp at a;done)|grind|(cases he)
theorem Nt{T:BP}{ts:Array TypeId}{a:V}{g:H}(c:∀b,a≠ .map b)(h:H):E6 T g ts [a]=E6 T h ts [a]:=by
 unfold E6;grind
theorem XB(I:Rel B h0 F ρ st fr h){o:Oper}{x:V}(D:FN X.C fr h o=some (.val x h)){l:List Nat}(J:jE st o.op=some l)(hto:∃u s,(pop o.op X.C.T st).To u s):
  ∃bl,Qk X.C F bl h fr o x/\∀b∈bl,b<h.nx/\∃id∈l,id<st.nx/\∀y,ρ id=some y->y.1=b:=by
 unfold jE at J;rw[CF]at D;unfold F5 at D;split at J
 case h_5=>cases J
 case h_4 t y i ok r=>
  simp only[r]at D;have m:∀g,FN X.C fr g o=(match ev X.C fr y,ev X.C fr i with|some v,some u=>Bs g (Ei X.C.T g t v u ok)|_,_=>none):=(by grind [CF,F5]);cases M:ev X.C fr y with
  |none=>grind
  |some a=>
   cases hi:ev X.C fr i with
   |none=>grind
   |some u=>
    rw[M,hi]at D;simp only at D;obtain⟨x',A,E⟩:=Fv D;cases E;have G:∀g:H,entries g a=entries h a->Ei X.C.T g t a u ok=some x:=by
     grind [Ei]
    split at J
    case h_3=>cases J
    case h_1=>
     rename_i id K;obtain⟨Y,w,p⟩:=BQ (C:=X.C) I.fp K;rw[M]at w;cases w;have Z:∃es,entries h a=some es:=by
      grind [Ei]
     obtain⟨es,E⟩:=Z;cases J;by_cases O:∃b,a=.map b
     ·obtain⟨b,rfl⟩:=O;have R:∃ob,h.get b=some ob:=by
       cases P:h.get b with
       |none=>simp[entries,P]at E
       |some ob=>simp
      obtain⟨ob,R⟩:=R;simp only[PR]at p;refine⟨[b],fun g _ P=>⟨g,?_⟩,fun b' U=>?_⟩
      ·rw[m,M,hi];simp only;rw[G g<|by simp_all [entries]];rfl
      ·cases zc.1 U;refine⟨I.sr.lt b ob R,id,(by simp),p.1,fun z hz=>?_⟩;grind
     ·refine⟨[],fun g _ P=>⟨g,?_⟩,(by simp)⟩;rw[m,M,hi];simp only;rw[G g ?_];rfl;cases a<;>first|rfl|grind
    case h_2=>
     rename_i K;obtain⟨Y,w,p⟩:=BQ (C:=X.C) I.fp K;rw[M]at w;cases w;simp only[PR]at p;subst p;cases J;refine⟨[],fun g _ P=>⟨g,?_⟩,(by simp)⟩;rw[m,M,hi];simp only;rw[G g rfl];rfl
 case h_1 t y r=>
  simp only[r]at D;have m:∀g,FN X.C fr g o=(match ev X.C fr y with|some v=>Bs g (Eu X.C.T g t v)|none=>none):=(by grind [CF,F5]);cases M:ev X.C fr y with
  |none=>grind
  |some a=>
   rw[M]at D;simp only at D;obtain⟨x',A,E⟩:=Fv D;cases E;obtain⟨b,off,ob,rfl,R,G,hfz⟩:=ZL A;have hblt:=I.sr.lt b ob R;have live:∀id,id<st.nx->(∀z,ρ id=some z->z.1=b)->l=[id]->∃bl,Qk X.C F bl h fr o x/\∀b∈bl,b<h.nx/\∃id∈l,id<st.nx/\∀y,ρ id=some y->y.1=b:=by
    rintro id hlt hid rfl;refine⟨[b],fun g _ P=>⟨g,?_⟩,fun b' U=>?_⟩
    ·rw[m,M];simp only;rw[G g ah];rfl
    simp_all
   split at J
   case h_4=>cases J
   case h_1=>
    rename_i id W K;obtain⟨Y,w,p⟩:=BQ (C:=X.C) I.fp K;grind [PR]
   case h_2=>
    rename_i id sz j W K;obtain⟨Y,w,p⟩:=BQ (C:=X.C) I.fp K;grind [PR]
   case h_3=>
    rename_i s y' W K;obtain⟨Y,w,p⟩:=BQ (C:=X.C) I.fp K;rw[M]at w;cases w;simp only[PR]at p;obtain⟨b',o',cs,E,hF,_⟩:=p;cases E;obtain⟨t1,f1,k1⟩:=I.sr.frz b cs hF;refine⟨[],fun g P _=>⟨g,?_⟩,(by simp)⟩;obtain⟨t2,f2,k2⟩:=P b cs hF;rw[m,M];simp only;rw[hfz g cs t1 f1 t2 f2 k1 k2];rfl
 case h_2 s d y r=>
  simp only[r]at D;have m:∀g,FN X.C fr g o=(match ev X.C fr y with|some v=>Bs g (E1 X.C.T g s d v)|none=>none):=(by grind [CF,F5]);have fin:∀a,ev X.C fr y=some a->(∀g,E1 X.C.T g s d a=E1 X.C.T h s d a)->∃bl,Qk X.C F bl h fr o x/\∀b∈bl,b<h.nx/\∃id∈l,id<st.nx/\∀y,ρ id=some y->y.1=b:=by
   intro a ha P;rw[ha]at D;simp only at D;obtain⟨x',A,E⟩:=Fv D;cases E;exact⟨[],fun g _ _=>⟨g,by rw[m,ha];simp only;rw[P,A];rfl⟩,(by simp)⟩
  split at J
  case h_3=>cases J
  case h_1=>
   rename_i k z K;obtain⟨Y,w,p⟩:=BQ (C:=X.C) I.fp K;simp only[PR,DC,zq,ve]at p;subst p;exact fin _ w fun g=>by
    unfold E1;grind
  case h_2=>
   rename_i z K;obtain⟨Y,w,p⟩:=BQ (C:=X.C) I.fp K;simp only[PR,DC,zq,ve]at p;subst p;exact fin _ w fun g=>by
    unfold E1;grind
 case h_3 c r=>
  simp only[r]at D;split at J
  case h_5=>cases J
  case h_4=>
   rename_i id q L;obtain⟨Aby,w,p⟩:=Ek (C:=X.C) I.fp L;simp only[BB]at p;obtain⟨a,as',rfl,p,rfl⟩:=p;have m:∀g,FN X.C fr g o=Bs g (E6 X.C.T g c.argTypes [a]):=fun g=>by rw[CF];unfold F5;simp only[r,q,w];rfl
   simp only[q,w,EA]at D;obtain⟨x',A,E⟩:=Fv D;cases E;cases J;by_cases O:∃b,a=.map b
   ·obtain⟨b,rfl⟩:=O;simp only[PR]at p;by_cases R:∃ob,h.get b=some ob
    ·obtain⟨ob,R⟩:=R;refine⟨[b],fun g _ P=>⟨g,?_⟩,fun b' U=>?_⟩
     ·rw[m];have:E6 X.C.T g c.argTypes [.map b]=E6 X.C.T h c.argTypes [.map b]:=by
       unfold E6;grind
      rw[this,A];rfl
     ·cases zc.1 U;refine⟨I.sr.lt b ob R,id,(by simp),p.1,fun z hz=>?_⟩;grind
    ·have hnone:h.get b=none:=by
      cases P:h.get b with
      |none=>rfl
      |some ob=>grind
     refine⟨[],fun g _ _=>⟨g,?_⟩,(by simp)⟩;obtain⟨uu,s,S⟩:=hto;exfalso;rw[r]at S;simp only[pop,Ro,L,q,H3,mH,Sr,List.map_cons,List.map_nil,lz]at S;split at S
     case h_2=>simp at S
     rename_i t x _ E;cases E;split at S
     case h_5=>
      rename_i E;cases E;split at S
      case h_2=>simp at S
      rename_i ks vs l ho;obtain⟨b1,n1,o1,q1,q2,_⟩:=I.sr.at ho;grind
     all_goals first|(simp at S;done)|grind|(cases E)
   ·refine⟨[],fun g _ _=>⟨g,?_⟩,(by simp)⟩;rw[m,Nt ah h,A];rfl
  all_goals
   rename_i q L;obtain⟨Aby,w,p⟩:=Ek (C:=X.C) I.fp L;obtain⟨a,as',rfl,p,rfl⟩:=p;have m:∀g,FN X.C fr g o=Bs g (E6 X.C.T g c.argTypes [a]):=fun g=>by rw[CF];unfold F5;simp only[r,q,w];rfl
   simp only[q,w,EA]at D;have hnm:∀b,a≠ .map b:=by
    intro b e;subst e;first
     |exact UH p
     |exact TF p
     |(obtain⟨u,s,S⟩:=hto
       exact fR I.sr r q L S p)
   obtain⟨x',A,E⟩:=Fv D;cases E;refine⟨[],fun g _ _=>⟨g,?_⟩,fun b R=>by cases R⟩;rw[m];rw[Nt hnm h,A];rfl
structure ZT(C:Ctx)(F:Fz)(ρ:DH)(N:Nat)(h:H)(r:Nat×Option (List Nat))(c:Rc):Prop where
 i:c.i=r.1
 k:∀l,r.2=some l->∃bl,Qk C F bl h c.f c.o c.v/\∀b∈bl,b<h.nx/\∃id∈l,id<N/\∀y,ρ id=some y->y.1=b
def UP(C:Ctx)(F:Fz)(ρ:DH)(N:Nat)(h:H):Rs->List Rc->Prop
 |[],l=>l=[]
 |r::a,l=>∃c cs,l=c::cs/\ZT C F ρ N h r c/\UP C F ρ N h a cs
theorem ZT.mono{F':Fz}{ρ':DH}{N':Nat}{r:Nat×Option (List Nat)}{c:Rc}(j:ZT X.C F ρ N h r c)(d:Le F ρ N F' ρ' N')(x:h.nx<=h'.nx)
  (w:∀l,r.2=some l->∀b,b<h.nx->(∃id∈l,id<N/\∀y,ρ id=some y->y.1=b)->h'.get b=h.get b):ZT X.C F' ρ' N' h' r c:=by
 refine⟨j.i,fun l e=>?_⟩;obtain⟨bl,p,o⟩:=j.k l e;refine⟨bl,fun g u A=>p g (fun b cs t=>u b cs<|d.fz b cs t)<|fun b a=>?_,fun b a=>?_⟩
 ·grind
 ·obtain⟨z,id,s,m,q⟩:=o b a;exact⟨ae,id,s,Nat.lt_of_lt_of_le m d.n,fun y v=>q y<|d.at m v⟩
theorem UP.mono{F':Fz}{ρ':DH}{N':Nat}(e:Le F ρ N F' ρ' N')(g:h.nx<=h'.nx)(j:∀b,b<h.nx->h'.get b=h.get b):∀ {d:Rs} {cs:List Rc},UP X.C F ρ N h d cs->UP X.C F' ρ' N' h' d cs
 |[],_,a=>a
 |r::d,_,a=>by
  obtain⟨c,cs,rfl,k,i⟩:=a;exact⟨c,cs,rfl,k.mono e g ah,UP.mono e g j i⟩
theorem UP.apart{F':Fz}{ρ':DH}{fr':Fr}{anc:Nat->Nat->Bool}{i:Nat}{t:Option (List Nat)}(p:Rel B h0 F ρ st fr h)(j:CR B h0 F ρ st.nx h st' fr' h' F' ρ')
  (I:∀d,t=some d->∀b,b<h.nx->h'.get b=h.get b\/∃id∈d,∃m,ρ id=some (b,m)):
  ∀ {s:Rs} {cs:List Rc},UP X.C F ρ st.nx h s cs->yd anc i st t s=true->cs.all (still X.C anc i h')=true/\UP X.C F' ρ' st'.nx h' (behind st t s) cs
 |[],_,x,_=>by
  cases x;exact⟨rfl,rfl⟩
 |r::s,_,x,E=>by
  obtain⟨c,cs,rfl,u,L⟩:=x;unfold yd at E;rw[ye,ze]at E;obtain⟨h3,h4⟩:=UP.apart p j I L (by exact E.2);have key:(Tc r.2 t&&J6 st r.2)=true->∀l,r.2=some l->∀b,b<h.nx->(∃id∈l,id<st.nx/\∀y,ρ id=some y->y.1=b)->h'.get b=h.get b:=by
   rintro q l g b T ⟨id,D,K,U⟩;simp only[ze,g]at q;have a:=List.all_eq_true.1 q.2 id D;obtain⟨v,J,G⟩:=p.sr.live a;obtain rfl:v=b:=U _ G;cases t with
   |none=>
    grind [Tc]
   |some d=>
    rcases I d rfl v T with e|⟨id',V,m,A⟩
    ·exact e
    ·obtain⟨o1,M⟩:=Ie a;have w:∃o,AK st.ob id'=some o:=by
      cases R:AK st.ob id' with
      |some o=>simp
      |none=>rw[p.sr.dead id' R]at A;cases A
     obtain⟨o,w⟩:=w;obtain rfl:=p.sr.inj id id' o1 o v J m M w G A;grind [Nat.beq_refl,Tc]
  refine⟨?_,c,cs,rfl,?_,h4⟩
  ·rw[ye,h3,zy];unfold still;rw[u.i];cases O:anc i r.1 with
   |true=>rfl
   |false=>
    have g:∃l,r.2=some l:=by
     cases S:r.2 with
     |some l=>simp
     |none=>grind [Tc]
    obtain⟨l,g⟩:=g;obtain⟨bl,D,K⟩:=u.k l g;obtain⟨z,hz⟩:=D h' (fun b cs P=>j.rel.sr.frz b cs<|j.le.fz b cs P) ah;grind [Lh]
  ·show ZT X.C F' ρ' st'.nx h' (bif Tc r.2 t&&J6 st r.2 then r else(r.1,none)) c;cases q:(Tc r.2 t&&J6 st r.2)with
   |true=>exact u.mono j.le j.nx<|key q
   |false=>
    exact⟨u.i,(by simp)⟩
theorem Q9{C:Ctx}{o:Oper}(g:Cr o=true){r:OR}(a:FN C fr h o=some r):∃ob f,fW C fr o=some (ob,f)/\r=.val (f h.nx) (h.push ob):=by
 rw[CF]at a;unfold F5 at a;unfold Cr at g;unfold fW;split at g
 case h_4=>cases g
 case h_1 t b=>
  simp only[b]at a ⊢;unfold FR at a;cases d:C.T.inf t with
  |none=>rw[d]at a;cases a
  |some i=>rw[d]at a;cases a;exact⟨_,_,rfl,rfl⟩
 case h_2 t x b=>
  simp only[b]at a ⊢;cases c:ev C fr x with
  |none=>rw[c]at a;cases a
  |some y=>rw[c]at a;cases a;exact⟨_,_,rfl,rfl⟩
 case h_3 t n ps b=>
  simp only[b]at a ⊢;cases c:UM C fr ps.toList with
  |none=>grind
  |some y=>
   rw[c]at a;simp only at a ⊢;unfold Ef at a;unfold T1;split at a
   case h_2=>cases a
   rename_i e l;simp only[l];split at a
   case h_2=>cases a
   rename_i i d;simp only[d];cases k:(zi (n*i.size) 16777216&&zl 0 (i.zero.length)&&zf i.zero.length i.size)with
   |false=>rw[k]at a;cases a
   |true=>
    rw[k]at a;split at a
    case h_2=>cases a
    rename_i cs j;cases a;simp only[j];exact⟨_,_,rfl,rfl⟩
theorem xE{T:BP}{call:Fh}{st:AF}{o:Oper}{k:AF->Tr}(a:DZ o=true):Hg T call o st k=P7 o.dst k (pop o.op T st):=by
 grind [KQ,DZ,Hg]
theorem pU{call:Fh}(b:EF B h0 X false call)(j:Rel B h0 F ρ st fr h){o:Oper}(i:DZ o=true){k:AF->Tr}(p:Ev X Q n (Hg X.C.T call o st k)):
  ∃n',n'<=n/\∃a,Ev X Q n' (k a)/\∃F' ρ' x fr',FN X.C fr h o=some (.val x h)/\fr.put o.dst x=some fr'/\CR B h0 F ρ st.nx h a fr' h F' ρ'/\∃u s,(pop o.op X.C.T st).To u s:=by
 obtain⟨l,d,g,c⟩:=Hf b j p;obtain⟨⟨⟨x,h'⟩,rfl⟩,_⟩:=g.1 rfl;obtain⟨n',hn,a,he1,F',ρ',fr',hput,hw,_⟩:=c _<|zc.2 rfl;have m:∃u s,(pop o.op X.C.T st).To u s:=by
  grind [xE,ID]
 cases d with
 |val e=>
  grind [rd_val]
 |skip e=>grind [rd_val]
 |call e _=>grind [rd_val]
 |round e _=>grind [rd_val]
 |alts e=>grind
theorem N9{call:Fh}(r:EF B h0 X false call){ops:Array Oper}{anc:Nat->Nat->Bool}:∀ {L:List Nat} {n:Nat} {st:AF} {F:Fz} {ρ:DH} {fr:Fr} {h:H} {k:AF->Tr} {K:Rs} {cs:List Rc},Rel B h0 F ρ st fr h->UP X.C F ρ st.nx h K cs->
  Ev X Q n (Jo X.C.T X.sp call ops anc L st K k)->
  ∃n',n'<=n/\∃e,Ev X Q n' (k e)/\∃F' ρ' fr' h',CR B h0 F ρ st.nx h e fr' h' F' ρ'/\∃M,∀m,M<=m->∃cs',R9 X.C (A1 X.C m) ops anc L ⟨fr,h,cs⟩=some ⟨fr',h',cs'⟩
 |[],n,st,F,ρ,fr,h,k,K,cs,hr,_,c=>⟨n,zd _,st,c,F,ρ,fr,h,CR.refl hr,0,fun _ _=>⟨cs,rfl⟩⟩
 |i::is,n,st,F,ρ,fr,h,k,K,cs,hr,E,c=>by
  unfold Jo at c;cases ho:ops[i]? with
  |none=>grind [Ev.Ay]
  |some o=>
   rw[ho]at c;simp only at c;obtain⟨e,v,J,e2,U⟩:=LB hr c;rw[<-J]at E;have fin:∀ {n1:Nat} {j:AF} {F1:Fz} {u:DH} {s:Fr} {O:H} {rs2:Rs} {cs2:List Rc},n1<=n->CR B h0 F ρ st.nx h j s O F1 u->UP X.C F1 u j.nx O rs2 cs2->Ev X Q n1 (Jo X.C.T X.sp call ops anc is j rs2 k)->
     (∃M,∀m,M<=m->∃x,Ho X.C (A1 X.C m) ops anc i ⟨fr,h,cs⟩=some (x,⟨s,O,cs2⟩))->
     ∃n',n'<=n/\∃e,Ev X Q n' (k e)/\∃F' ρ' fr' h',CR B h0 F ρ st.nx h e fr' h' F' ρ'/\∃M,∀m,M<=m->∃cs',R9 X.C (A1 X.C m) ops anc (i::is) ⟨fr,h,cs⟩=some ⟨fr',h',cs'⟩:=by
    rintro n1 j F1 u s O rs2 cs2 w hw q p ⟨M1,hM1⟩;obtain⟨n2,hn2,st3,he3,F2,ρ2,fr2,h2,hw2,M2,hM2⟩:=N9 r hw.rel q p;refine⟨n2,ae,st3,he3,F2,ρ2,fr2,h2,hw.trans hw2,max M1 M2,fun m hm=>?_⟩;obtain⟨x,hx⟩:=hM1 m ae;obtain⟨cs',hcs'⟩:=hM2 m ae;grind [R9]
   rcases U with⟨hw,c⟩|⟨hw,c⟩
   ·cases P:DZ o with
    |true=>
     rw[P]at c;simp only[we]at c;obtain⟨n1,w,j,p,F1,u,x,s,z,d,a,hto⟩:=pU r v P c;rw[J]at a;have q:UP X.C F1 u j.nx h K cs:=E.mono (by rw[J];exact a.le) ae (by simp);cases Z:OX o with
     |false=>
      rw[Z]at p;refine fin (cs2:=cs) w a q p ⟨0,fun m _=>⟨x,?_⟩⟩;unfold Ho;grind
     |true=>
      rw[Z]at p;refine fin (cs2:=⟨i,o,fr,x⟩::cs) (rs2:=(i,jE e o.op)::K) w a ⟨_,_,rfl,⟨rfl,fun l hl=>?_⟩,q⟩ p ⟨0,fun m _=>⟨x,?_⟩⟩
      ·obtain⟨bl,W,V⟩:=XB v z hl hto;refine⟨bl,fun g hg Y=>W g (fun b cs hF=>hg b cs<|a.le.fz b cs hF) Y,fun b Y=>?_⟩;obtain⟨j1,id,j2,j3,j4⟩:=V b Y;rw[J]at j3;exact⟨j1,id,j2,Nat.lt_of_lt_of_le j3 a.le.n,fun y hy=>j4 y<|a.le.at j3 hy⟩
      ·unfold Ho;grind
    |false=>
     rw[P]at c;simp only[wg]at c;cases R:Cr o with
     |true=>
      rw[R]at c;simp only[we]at c;obtain⟨l,D,S,A⟩:=Hf r v c;obtain⟨⟨⟨x,O⟩,rfl⟩,hna⟩:=S.1 rfl;obtain⟨n1,w,j,p,F1,u,s,d,a,_⟩:=A _<|zc.2 rfl;rw[J]at a;simp only at d a;have hv:∃ob f,fW X.C fr o=some (ob,f)/\x=f h.nx/\O=h.push ob:=by
       cases D with
       |val z=>obtain⟨ob,f,W,V⟩:=Q9 R z;grind
       |skip z=>grind [Q9]
       |call z _=>grind [Q9]
       |round z _=>grind [Q9]
       |alts z=>grind
      obtain⟨ob1,f,W,rfl,rfl⟩:=hv;have q:UP X.C F1 u j.nx (h.push ob1) K cs:=E.mono (by rw[J];exact a.le) (by simp) (fun b Y=>by simp[Nat.ne_of_lt Y]);refine fin (cs2:=cs) w a q p ⟨0,fun m _=>⟨f h.nx,?_⟩⟩;unfold Ho;grind
     |false=>
      rw[R]at c;simp only[wg]at c;cases G:(yd anc i e (Gf X.sp e o.op) K&&bE e o.op)with
      |false=>grind [Ev.Ay]
      |true=>
       rw[G]at c;simp only[we]at c;simp only[ze]at G;obtain⟨I,hnr⟩:=G;obtain⟨l,D,S,A⟩:=Hf r v c;obtain⟨⟨⟨x,O⟩,rfl⟩,hna⟩:=S.1 rfl;obtain⟨n1,w,j,p,F1,u,s,d,a,htch⟩:=A _<|zc.2 rfl;simp only at d a htch;obtain⟨W,V⟩:=UP.apart v a htch E I;rw[J]at a;refine fin w a V p ?_;have hh:∃M,∀m,M<=m->Dx X.C (A1 X.C m) fr h o=some (x,O):=by
        cases D with
        |val z=>exact⟨0,(by grind [Dx])⟩
        |skip z=>exact⟨0,(by grind [Dx])⟩
        |alts z=>grind
        |round z _=>grind [bE]
        |@call g args _ M z hM=>exact⟨M,(by grind [Dx])⟩
       obtain⟨M,hM⟩:=hh;refine⟨M,fun m hm=>⟨x,?_⟩⟩;unfold Ho;grind
   ·cases hv:Cx o with
    |false=>
     rw[hv]at c;unfold KR at c;split at c
     case h_2=>grind [Ev.Ay]
     rename_i j d;obtain⟨s,g1,g2,g3,g4⟩:=v.put (x:=.tup []) (by simp[PR]) d;refine fin (cs2:=cs) ae ⟨g2,by rw[g3,J];exact zk,zd _⟩ ah c ⟨0,fun m _=>⟨.tup [],?_⟩⟩;unfold Ho;grind
    |true=>
     rw[hv]at c;cases I:yd anc i e (some []) K with
     |false=>grind [Ev.Ay]
     |true=>
      rw[I]at c;unfold KR at c;split at c
      case h_2=>grind [Ev.Ay]
      rename_i j d;obtain⟨s,g1,g2,g3,g4⟩:=v.put (x:=.tup []) (by simp[PR]) d;have a:CR B h0 F ρ e.nx h j s h F ρ:=⟨g2,by rw[g3];exact zk,zd _⟩;obtain⟨W,V⟩:=UP.apart (t:=some []) v a (by simp) E I;rw[J]at a;refine fin ae a V c ⟨0,fun m _=>⟨.tup [],?_⟩⟩;unfold Ho;grind
theorem Xx{call:Fh}(c:EF B h0 X false call){ops:Array Oper}{k:AF->Tr}(g:Rel B h0 F ρ st fr h)(j:Ev X Q n (Jo X.C.T X.sp call ops (Ea ops).a (Ea ops).ord st [] k)):
  ∃n',n'<=n/\∃b,Ev X Q n' (k b)/\∃F' ρ' fr' h',CR B h0 F ρ st.nx h b fr' h' F' ρ'/\∃M,∀m,M<=m->Ip X.C (A1 X.C m) ops fr h=some (fr',h'):=by
 obtain⟨n',i,b,d,F',ρ',fr',h',e,M,o⟩:=N9 (cs:=[]) c g (by rfl) j;refine⟨n',i,b,d,F',ρ',fr',h',e,M,fun m l=>?_⟩;grind [Ip]
end
section
variable {B:Nat}{h0:H0}{F:Fz}{ρ ρ':DH}{N N':Nat}{f:Nat->Option Nat}
mutual
theorem Ou(d:∀i j,i<N->f i=some j->j<N'/\ρ' j=ρ i):∀ {p:PV} {v:V},PR F ρ N p v->PR F ρ' N' (Hw f p) v
 | .any,_,_=>by simp[Hw,PR]
 | .bl _,_,h=>by grind [Hw,PR]
 | .ub,_,h=>by grind [Hw,PR]
 | .dat _ _,_,h=>by grind [Hw,PR]
 | .nil,_,h| .nilp,_,h| .nilm,_,h| .nilf,_,h| .nili,_,h=>by simpa only[Hw,PR]using h
 | .D0 _ _ _,_,h=>by grind [Hw,PR]
 | .agg l,_,h=>by obtain⟨cs,rfl,c⟩:=h;exact⟨cs,rfl,D5 d c⟩
 | .tup l,_,h=>by obtain⟨cs,rfl,c⟩:=h;exact⟨cs,rfl,D5 d c⟩
 | .fn g a b,_,h=>by obtain⟨x,y,rfl,c,e⟩:=h;exact⟨x,y,rfl,D5 d c,D5 d e⟩
 | .ptr i o,_,h=>by
  grind [Hw,PR]
 | .eptr i _ _ _,_,h=>by
  grind [Hw,PR]
 | .sl i _ _ _ _,_,h=>by
  grind [Hw,PR]
 | .yl i,_,h=>by
  grind [Hw,PR]
 | .mp i,_,h=>by
  grind [Hw,PR]
theorem D5(a:∀i j,i<N->f i=some j->j<N'/\ρ' j=ρ i):∀ {ps:List PV} {vs:List V},BB F ρ N ps vs->BB F ρ' N' (Jn f ps) vs
 |[],_,h=>by simpa [Jn]using h
 |p::ps,_,h=>by
  obtain⟨v,vs,rfl,c,b⟩:=h;simp only[Jn,By];exact⟨Ou a c,D5 a b⟩
end
theorem PX(f:PV->PV):∀(sl:List (Nat×PV)) (m a:PM PV),(∀t,a.get t=(m.get t).map f)->∀t,((sl.map fun x=>(x.1,f x.2)).foldl (fun m x=>m.set x.1<|some x.2) a).get t=((sl.foldl (fun m x=>m.set x.1<|some x.2) m).get t).map f
 |[],_,_,h,t=>h t
 |x::sl,m,a,h,t=>by
  refine PX f sl _ _ (fun t=>?_) t;grind [PM.Cs]
theorem Uw(f:PV->PV)(a:f .any=.any)(sl:List (Nat×PV))(t:Nat):MV (sl.map fun x=>(x.1,f x.2)) t=f (MV sl t):=by
 unfold MV Ej;rw[PX f sl .leaf .leaf (by simp) t];cases (sl.foldl (fun m x=>m.set x.1<|some x.2) PM.leaf).get t with
 |none=>grind
 |some x=>rfl
theorem fH(d:∀i j,i<N->f i=some j->j<N'/\ρ' j=ρ i){n:Nat}{o:Obj}{x:O}(h:Vb F ρ N n o x):Vb F ρ' N' n (Nn f o) x:=by
 cases o with
 |arr fz e s l=>exact h
 |box ps=>grind [D5,Vb,Nn]
 |tbox t ps=>grind [D5,Vb,Nn]
 |lp g r ps asg body s n sl=>
  obtain⟨ls,u,a,q,m,c,k,b⟩:=h;refine⟨ls,u,a,q,m,c,k,fun t=>?_⟩;rw[Uw (Hw f)<|by rfl];exact Ou d<|b t
 |map ks vs l=>exact h
 |siter s p=>exact h
theorem RM(o:Obj):(Nn f o).frozen=o.frozen:=by cases o<;>rfl
theorem IS{st:AF}{base:Nat}:∀(n:Nat) (c acc:List Nat),(∀i∈acc,base<=i/\(st.obj i).isSome=true)->acc.Nodup->(∀i∈HW st base n c acc,base<=i/\(st.obj i).isSome=true)/\(HW st base n c acc).Nodup
 |0,_,acc,b,a=>⟨b,a⟩
 |n+1,[],acc,b,a=>⟨b,a⟩
 |n+1,i::c,acc,b,a=>by
  unfold HW;cases e:(zl i base||acc.any (zf i))with
  |true=>exact IS n c acc b a
  |false=>
   cases g:st.obj i with
   |none=>exact IS n c acc b a
   |some o=>
    have k:base<=i:=by
     grind [Dk]
    have d:i∉acc:=by
     grind [Nat.beq_refl]
    refine IS n _ _ (fun j l=>?_) ?_
    ·grind
    grind
theorem NP{base:Nat}:∀(b:List Nat) (n i j:Nat),b.Nodup->MW base b n i=some j->(∃k,b[k]?=some i/\j=n+k)\/(i∉b/\i<base/\j=i)
 |[],n,i,j,_,h=>by
  unfold MW at h;cases m:zl i base with
  |false=>grind
  |true=>simp_all
 |a::b,n,i,j,g,h=>by
  unfold MW at h;rw[Bj]at h;by_cases e:i=a
  ·simp_all
  ·simp only[e,decide_false,wg]at h;have c:=List.nodup_cons.1 g;rcases NP b (Nat.add n 1) i j c.2 h with⟨k,l,d⟩|⟨l,d,o⟩
   ·exact .inl ⟨k+1,by grind,by grind⟩
   grind
theorem WD(f:Nat->Option Nat)(base:Nat):∀(l:Ob) (j:Nat),AK (low f base l) j=if j<base then(AK l j).map (Nn f)else none
 |[],j=>by simp[low,AK]
 |(i,o)::l,j=>by
  simp only[low];have c:=WD f base l j;by_cases a:i<base
  ·rw[Dk a];simp only[we,AK,Bj];grind
  ·have:zl i base=false:=by
    cases b:zl i base with
    |false=>rfl
    |true=>exact wh (zu b) a
   rw[this];simp only[wg,AK,Bj];grind
theorem RY{st:AF}(f:Nat->Option Nat):∀(a:List Nat) (n:Nat) (b:Ob) (j:Nat),(∀i∈a,(st.obj i).isSome=true)->AK (kept st f a n b) j=(if n<=j/\j<n+a.length then(a[j-n]?).bind fun i=>(st.obj i).map (Nn f)else AK b j)
 |[],n,b,j,_=>by simp_all [kept,wc]
 |i::a,n,b,j,h=>by
  obtain⟨o,c⟩:=Option.isSome_iff_exists.1 (h i (by simp));unfold kept;rw[c];rw[RY f a (Nat.add n 1) _ j ah];by_cases d:n+1<=j/\j<n+1+a.length
  ·grind
  ·simp only[AK,Bj];grind
theorem FF:∀(vs:List (Nat×PV)) (m:PM PV) (t:Nat) (p:PV),(vs.foldl (fun m x=>m.set x.1<|some x.2) m).get t=some p->(t,p)∈vs\/m.get t=some p
 |[],m,t,p,h=>.inr h
 |x::vs,m,t,p,h=>by
  rcases FF vs _ t p h with h1|h1
  ·grind
  grind [PM.Cs]
theorem Yd{st:AF}{fr:Fr}{h:H}(e:Rel B h0 F ρ st fr h)(base:Nat)(L:List Nat)(_hb:base<=st.nx):
  ∃ρ',Rel B h0 F ρ' (canon base L st) fr h/\base<=(canon base L st).nx/\∀id,id<base->ρ' id=ρ id:=by
 generalize u:HW st base 100 (Jh ((L.map fun t=>(t,st.get t)).map (·.2))++NO base st.ob) []=ids;have D:=IS (st:=st) (base:=base) 100 (Jh ((L.map fun t=>(t,st.get t)).map (·.2))++NO base st.ob) [] (by simp) List.nodup_nil;rw[u]at D;obtain⟨V,I⟩:=D;let g:=MW base ids base
 let l:DH:=fun id=>if id<base then ρ id else(ids[id-base]?).bind ρ
 have z:∀id,id<base->l id=ρ id:=ah;have v:∀k i,ids[k]?=some i->l (base+k)=ρ i:=by
  grind
 have E:canon base L st=AI st.n ((L.map fun t=>(t,st.get t)).map fun x=>(x.1,Hw g x.2)) (kept st g ids base<|low g base st.ob) (base+ids.length):=by
  rw[show g=MW base ids base from rfl, <-u];rfl
 have P:∀i j,i<st.nx->g i=some j->j<base+ids.length/\l j=ρ i:=by
  intro i j _ J;rcases NP ids base i j I J with⟨k,h1,rfl⟩|⟨_,r,rfl⟩
  ·grind
  grind
 have A:∀j,AK (kept st g ids base<|low g base st.ob) j=if j<base then(AK st.ob j).map (Nn g)else(ids[j-base]?).bind fun i=>(st.obj i).map (Nn g):=by
  intro j;rw[RY g ids base _ j ah,WD];grind
 have src:∀j o',AK (kept st g ids base<|low g base st.ob) j=some o'->∃i o,AK st.ob i=some o/\o'=Nn g o/\l j=ρ i/\j<base+ids.length/\((j<base/\i=j)\/(base<=j/\ids[j-base]?=some i/\base<=i)):=by
  intro j o' q;rw[A]at q;by_cases h1:j<base
  ·rw[wd h1,zj]at q;grind
  ·rw[wc h1]at q;cases w:ids[j-base]? with
   |none=>grind
   |some i=>
    rw[w]at q;simp only[Option.bind_some,zj]at q;obtain⟨o,r,rfl⟩:=q;have hlt:=(zx.1 w).1;have:=v (j-base) i w;rw[show base+(j-base)=j from by omega]at this;exact⟨i,o,r,rfl,this,by omega,ah⟩
 refine⟨l,?_,by rw[E];show base<=base+ids.length;omega,z⟩;rw[E];refine⟨⟨e.fp.n,fun t=>?_⟩,⟨fun j o' q=>?_,fun i j oi oj c m Z hi q h1 r=>?_,e.sr.frz,fun id b m d=>?_,fun j q=>?_,e.sr.old,e.sr.lt,e.sr.le,e.sr.fo,e.sr.gl,fun c E=>?_⟩⟩
 ·generalize G:((L.map fun t=>(t,st.get t)).map fun x=>(x.1,Hw g x.2))=vs;show PR F l (base+ids.length) (((Ej vs).get t).getD .any)<|fr.get t;cases W:(Ej vs).get t with
  |none=>grind [PR]
  |some p=>
   rcases FF vs .leaf t p W with h1|h1
   ·rw[<-G]at h1;simp only[List.map_map,yg,Function.comp]at h1;obtain⟨s,_,r⟩:=h1;cases r;exact Ou P (e.fp.slot _)
   simp_all
 ·obtain⟨i,o,h1,rfl,r,h3,_⟩:=src j o' q;obtain⟨b,m,x,k1,k2,k3,k4⟩:=e.sr.obj i o h1;exact⟨b,m,x,r.trans k1,k2,fH P k3,by rw[RM];exact k4⟩
 ·obtain⟨a,o,M,_,K,_,O⟩:=src i oi hi;obtain⟨a',o',g4,_,g5,_,g6⟩:=src j oj q;rw[K]at h1;rw[g5]at r;have U:=e.sr.inj a a' o o' c m Z M g4 h1 r;rcases O with⟨T,S⟩|⟨T,S,e3⟩<;>rcases g6 with⟨R,Y⟩|⟨R,Y,f3⟩
  ·omega
  ·omega
  ·omega
  grind [List.getElem?_inj]
 ·have d:(if id<base then ρ id else(ids[id-base]?).bind ρ)=some (b,m):=d;by_cases h1:id<base
  ·rw[wd h1]at d;exact⟨by show id<base+ids.length;omega,(e.sr.own id b m d).2⟩
  ·rw[wc h1]at d;cases w:ids[id-base]? with
   |none=>grind
   |some i=>
    rw[w]at d;have:=(zx.1 w).1;exact⟨by show id<base+ids.length;omega,(e.sr.own i b m d).2⟩
 ·have y:AK (kept st g ids base<|low g base st.ob) j=none:=q;rw[A]at y;show(if j<base then ρ j else(ids[j-base]?).bind ρ)=none;by_cases h1:j<base
  ·rw[wd h1]at y ⊢;exact e.sr.dead j (by simp_all)
  ·rw[wc h1]at y ⊢;cases w:ids[j-base]? with
   |none=>rfl
   |some i=>
    grind [Option.map_eq_none_iff]
 ·obtain⟨M,K,O⟩:=e.sr.pn c E;grind
end
section
variable {B:Nat}{h0:H0}{X:A0}{F:Fz}{ρ:DH}{N:Nat}{h:H}
theorem Yb(h0:H0)(a b:List Nat):(h0.pins a).pins b=h0.pins (b++a):=by unfold H0.pins;simp
theorem SR.fN{ob:Ob}{ps:List Nat}(a:SR B (h0.pins ps) F ρ N ob h):SR B h0 F ρ N ob h:=
 ⟨a.obj,a.inj,a.frz,a.own,a.dead,a.old,a.lt,a.le,a.fo,a.gl,fun b c=>a.pn b<|List.mem_append_right _ c⟩
theorem SR.mark{ob:Ob}(a:SR B h0 F ρ N ob h):SR B (h0.pins [h.nx]) F ρ N ob (h.push<|.defd true):=by
 have i:∀b y,h.get b=some y->b≠h.nx:=fun b y s=>by have:=a.lt b y s;omega
 have k:∀b y,h.get b=some y->(h.push<|.defd true).get b=some y:=(by simp_all);refine⟨fun j oj v=>?_,a.inj,fun c cs d=>?_,a.own,a.dead,fun c d u=>?_,fun c p d=>?_,?_,a.fo,a.gl,fun c d=>?_⟩
 ·obtain⟨c,m,y,z,w,E⟩:=a.obj j oj v;grind
 ·obtain⟨t,fz,D⟩:=a.frz c cs d;grind
 ·have:=a.le;rw[H.Ci,wc ae];exact a.old c d u
 ·rw[H.Ci]at d;by_cases e:c=h.nx
  ·simp_all
  ·rw[wc e]at d;have:=a.lt c p d;show c<h.nx+1;omega
 ·have:=a.le;show B<=h.nx+1;omega
 ·rcases List.mem_append.1 d with d|d
  ·cases zc.1 d;refine⟨by simp,a.le,fun id n e=>?_⟩;by_cases g:∃o,AK ob id=some o
   ·obtain⟨o,r⟩:=g;obtain⟨c,m,y,q,l,_⟩:=a.obj id o r;grind
   ·have:AK ob id=none:=by
     cases x:AK ob id with
     |none=>rfl
     |some o=>grind
    rw[a.dead id this]at e;cases e
  ·obtain⟨q,l,A⟩:=a.pn c d;grind
theorem SR.Wy{ob:Ob}(a:SR B h0 F ρ N ob h){b:Nat}{x y:O}(v:∀id o n,AK ob id=some o->ρ id≠some (b,n))(u:F b=none)(s:h0.Xd B b)(w:b∉h0.pin)(r:h.get b=some x):SR B h0 F ρ N ob (h.put b y):=by
 refine⟨fun j oj t=>?_,a.inj,fun c cs d=>?_,a.own,a.dead,fun c d g=>?_,fun c p d=>?_,a.le,a.fo,a.gl,fun c d=>?_⟩
 ·obtain⟨c,m,y,i,l,k⟩:=a.obj j oj t;have:c≠b:=ah;exact⟨c,m,y,i,by simp_all,k⟩
 ·have:c≠b:=ah;rw[H.Cn,wc this];exact a.frz c cs d
 ·have:c≠b:=Mp s d g;rw[H.Cn,wc this];exact a.old c d g
 ·rw[H.Cn]at d;split at d
  ·rename_i e;subst e;exact a.lt _ _ r
  ·exact a.lt c p d
 ·obtain⟨i,l,k⟩:=a.pn c d;have q:c≠b:=ah;simp_all
theorem SR.leave{ob:Ob}:∀ {ps:List Nat} {h:H},ps.Nodup->(∀b∈ps,b∉h0.pin)->SR B (h0.pins ps) F ρ N ob h->∃a,Fe ps h=some a/\SR B h0 F ρ N ob a/\a.nx=h.nx/\∀b,b∉ps->a.get b=h.get b
 |[],h,_,_,c=>⟨h,rfl,c,rfl,fun _ _=>rfl⟩
 |p::ps,h,e,s,c=>by
  obtain⟨j,g,r⟩:=c.pn p (by simp[H0.pins]);rw[List.nodup_cons]at e;have d:SR B ((h0.pins ps).pins [p]) F ρ N ob h:=by exact c
  have i:SR B (h0.pins ps) F ρ N ob (h.put p<|.defd false):=by
   refine SR.Wy d.fN ah ?_ (.inl g) ?_ j
   ·cases l:F p with
    |none=>rfl
    |some cs=>obtain⟨t,fz,k⟩:=c.frz p cs l;grind
   grind [H0.pins]
  obtain⟨a,q,o,u,m⟩:=SR.leave e.2 ah i;simp_all [Fe]
theorem ZH{st:AF}{fr:Fr}(d:Rel B h0 F ρ st fr h)(base:Nat)(x:Nat×Sh):∃F1 w,Rel B h0 F1 w (kI base x st) fr h/\(kI base x st).nx=st.nx/\(∀id,id<base->w id=ρ id)/\∀b cs,F b=some cs->F1 b=some cs:=by
 have q:=d.fp.slot x.1;unfold kI;split
 case h_1=>
  rename_i A;rw[A]at q;exact⟨F,ρ,d.note (by rw[q];simp[PR,DC]),rfl,fun _ _=>rfl,fun _ _ h=>h⟩
 case h_4=>grind
 case h_3=>
  rename_i id A;cases S:zi base id with
  |false=>grind
  |true=>
  have S:=zu S;split
  case h_2=>grind
  rename_i ps E;split
  case h_2=>grind
  rename_i v W;rw[A]at q;obtain⟨b,n,y,I,h2,Y,Z,-⟩:=d.sr.at E;obtain⟨cs,t,fz,rfl,h4,h5⟩:=Y;have hFb:F b=none:=Z rfl;have a:∀c cs',F c=some cs'->(fun c=>if c=b then some cs else F c) c=some cs':=by
   grind
  have r:=(CA h4 W);have T:=r.len;have i:Le F ρ st.nx (fun c=>if c=b then some cs else F c) (Bl ρ id none) st.nx:=(Le.Ye a).trans<|Le.Ix id;have u:Le F (Bl ρ id none) st.nx (fun c=>if c=b then some cs else F c) (Bl ρ id none) st.nx:=Le.Ye a;have g:=d.sr.del id;have U:∀j m,Bl ρ id none j=some (b,m)->∀oj,AK (Fq st.ob id) j=some oj->False:=by
   intro j m o oj p;rw[C3]at p;split at p
   ·cases p
   ·rename_i V;simp only[Bl,V,vf]at o;exact V<|d.sr.inj j id oj _ b m n p E o I
  have P:SR B h0 (fun c=>if c=b then some cs else F c) (Bl ρ id none) st.nx (Fq st.ob id) h:=by
   refine⟨fun j oj p=>?_,g.inj,fun c cs' D=>?_,g.own,g.dead,g.old,g.lt,g.le,fun c cs' D=>?_,g.gl,g.pn⟩
   ·obtain⟨c,m,z,o,G,O,g4,g5⟩:=g.obj j oj p;exact⟨c,m,z,o,G,O.mono u,ah,ah⟩
   ·split at D
    ·grind
    ·exact g.frz c cs' D
   ·split at D
    ·rename_i ec;subst ec;exact .inr (d.sr.own id c n I).2
    ·exact g.fo c cs' D
  have k:Rel B h0 (fun c=>if c=b then some cs else F c) (Bl ρ id none) (st.E7 id) fr h:=⟨⟨d.fp.n,fun t=>(d.fp.slot t).mono i⟩,P⟩;refine⟨_,_,k.note ?_,rfl,fun j p=>by unfold Bl;grind,a⟩;have M:=q.2 b n I;exact⟨b,0,cs,by rw[M],by simp,by omega,by rw[yb,zr ae];exact r.mono a⟩
 rename_i id sz off len cap A;split
 case h_2=>grind
 rename_i fz e s l E;cases hz:zf sz s.sz with
 |false=>grind
 |true=>
 rw[A]at q;obtain⟨F1,o,G,O⟩:=LR d.sr q;have K:Bq st (.sl id sz off len cap)=st.setObj id (.arr true e s l):=by simp[Bq,E]
 rw[K]at o;have i:Le F ρ st.nx F1 ρ st.nx:=⟨G,(by simp),zd _⟩;have R:off+len<=l.length:=by
  obtain⟨b,n,y,I,_,⟨_,_,_,_,_,h6⟩,-⟩:=d.sr.at E;grind [PR]
 have J:Cq st (.sl id sz off len cap)=some (true,.dat (.list s)<|(l.drop off).take len):=by
  simp_all [Cq]
 have L:=O _ J;have k:Rel B h0 F1 ρ (st.setObj id<|.arr true e s l) fr h:=⟨⟨d.fp.n,fun t=>(d.fp.slot t).mono i⟩,o⟩;exact⟨F1,ρ,k.note<|L ρ _,rfl,fun _ _=>rfl,G⟩
theorem SL{fr:Fr}(base:Nat):∀(l:List (Nat×Sh)) {st:AF} {F:Fz} {ρ:DH},Rel B h0 F ρ st fr h->∃F1 a,Rel B h0 F1 a (Zy base l st) fr h/\(Zy base l st).nx=st.nx/\(∀id,id<base->a id=ρ id)/\∀b cs,F b=some cs->F1 b=some cs
 |[],st,F,ρ,c=>⟨F,ρ,c,rfl,fun _ _=>rfl,fun _ _ h=>h⟩
 |x::l,st,F,ρ,c=>by
  obtain⟨F1,a,e,g,d,i⟩:=ZH c base x;obtain⟨F2,ρ2,h4,h5,h0'',h6⟩:=SL base l e;grind [Zy]
theorem Oz{st:AF}{fr:Fr}{base:Nat}(a:Rel B h0 F ρ st fr h)(f:FuncId)(r:Nat)(i:base<=st.nx):
  ∃F1 ρ',Rel B h0 F1 ρ' (Lr X f r base st) fr h/\base<=(Lr X f r base st).nx/\(∀id,id<base->ρ' id=ρ id)/\∀b cs,F b=some cs->F1 b=some cs:=by
 obtain⟨F1,c,e,g,d,j⟩:=SL base (X.fz f r) a;obtain⟨ρ',g1,g2,g3⟩:=Yd e base (X.pl f r) ae;grind [Lr]
def FU(B:Nat)(h0:H0)(X:A0)(base n:Nat)(Q:PV->Ob->Prop)(k:DX->AF->Tr)(F:Fz)(ρ:DH)(h:H)(nd:Bool)(run:Nat->Nat->Option (List Det.X))(ds:List Nat):Prop:=
 ∃l M,(∀m,M<=m->∀q,M<=q->run m q=some l)/\(nd=false->∃x,l=[x])/\∀x∈l,∃ps,(x.ds=ps++ds/\ps.Nodup/\∀b∈ps,h.nx<=b)/\∃n',n'<=n/\∃a,Ev X Q n' (k x.e a)/\∃F' ρ',Rel B (h0.pins ps) F' ρ' a x.fr x.h/\base<=a.nx/\Le F ρ base F' ρ' base/\h.nx<=x.h.nx
theorem Le.low{F F':Fz}{ρ ρ':DH}{N N' base:Nat}(a:Le F ρ N F' ρ' N')(b:base<=N):Le F ρ base F' ρ' base:=
 ⟨a.fz,fun id h=>a.rho id ae,zd _⟩
theorem MX{nd ro:Bool}{d:Nat}{f:FuncId}{base:Nat}{rv:Option Nat}{ct:Bool}(hrv:ro=false->rv=none/\ct=true)(hcall:∀h0,EF B h0 X nd<|BZ X nd d)(hcallD:∀h0,EF B h0 X false<|BZ X false d){Q:PV->Ob->Prop}:∀(n:Nat) (c:Code) {h0:H0} {st:AF} {k:DX->AF->Tr} {F:Fz} {ρ:DH} {fr:Fr} {h:H} (ds:List Nat),base<=st.nx->Rel B h0 F ρ st fr h->
  Ev X Q n (exec X (BZ X nd d) (BZ X false d) nd ro d f base c st k)->FU B h0 X base n Q k F ρ h nd (fun m q=>Be X.C (A1 X.C m) rv ct q c fr h ds) ds:=by
 intro n;induction n using Nat.strongRecOn with
 |_ n IH=>
 have one:∀ {h0:H0} {e:DX} {st:AF} {k:DX->AF->Tr} {F:Fz} {ρ:DH} {fr:Fr} {h:H} {ds:List Nat} {c:Code},base<=st.nx->Rel B h0 F ρ st fr h->Ev X Q n (k e st)->(∀m q,1<=q->Be X.C (A1 X.C m) rv ct q c fr h ds=some [⟨e,fr,h,ds⟩])->
   FU B h0 X base n Q k F ρ h nd (fun m q=>Be X.C (A1 X.C m) rv ct q c fr h ds) ds:=by
  intro h0 e st k F ρ fr h ds c A D v hd;exact⟨[⟨e,fr,h,ds⟩],1,ah,(by simp),fun x K=>by
   cases zc.1 K;exact⟨[],(by simp),n,zd _,st,v,F,ρ,D,A,zk,zd _⟩⟩
 have E:∀ {q:Nat},1<=q->∃q',q=q'+1:=fun h=>⟨_,(Nat.succ_pred_eq_of_pos h).symm⟩
 have chain:∀ {h0:H0} {F:Fz} {ρ:DH} {h:H} {ds:List Nat} {k k2:DX->AF->Tr} {n1:Nat} {run:Nat->Nat->Option (List Det.X)} {run2:Nat->Nat->Det.X->Option (List Det.X)},n1<=n->FU B h0 X base n1 Q k2 F ρ h nd run ds->
   (∀(x:Det.X) (ps:List Nat),∀n1',n1'<=n1->∀u,Ev X Q n1' (k2 x.e u)->∀F' ρ',Rel B (h0.pins ps) F' ρ' u x.fr x.h->base<=u.nx->FU B (h0.pins ps) X base n Q k F' ρ' x.h nd (fun m q=>run2 m q x) x.ds)->
   FU B h0 X base n Q k F ρ h nd (fun m q=>match run m q with|some l=>bl l (run2 m q)|none=>none) ds:=by
  rintro h0 F ρ h ds k k2 n1 run run2 Z ⟨l,M,h1,h2,h3⟩ hnext;obtain⟨r,M2,g1,g2,g3⟩:=Iu (f:=run2) (P:=fun x=>∃ps,(x.ds=ps++ds/\ps.Nodup/\∀b∈ps,h.nx<=b)/\∃n',n'<=n/\∃u,Ev X Q n' (k x.e u)/\∃F' ρ',Rel B (h0.pins ps) F' ρ' u x.fr x.h/\base<=u.nx/\Le F ρ base F' ρ' base/\h.nx<=x.h.nx) h2 fun x K=>by
   obtain⟨ps1,⟨k0,kn,kl⟩,n',k1,u,k2',F',ρ',k3,k4,k5,k6⟩:=h3 x K;obtain⟨r,M,j1,j2,j3⟩:=hnext x ps1 n' k1 u k2' F' ρ' k3 k4;refine⟨r,M,j1,j2,fun y hy=>?_⟩;obtain⟨ps2,⟨i0,i0n,i0l⟩,n2,i1,V,i2,F2,R,i3,i4,i5,i6⟩:=j3 y hy;refine⟨ps2++ps1,⟨by grind,?_,fun b A=>?_⟩,n2,i1,V,i2,F2,R,by grind [Yb],i4,k5.trans i5,ae⟩
   ·rw[List.nodup_append];refine⟨i0n,kn,fun a ha b A e=>?_⟩;have h1:=i0l a ha;have h2:=k3.sr.lt b _ (k3.sr.pn b<|List.mem_append_left _ A).1;omega
   grind
  exact⟨r,max M M2,ah,g2,g3⟩
 have W:∀ {h0:H0} {F:Fz} {ρ:DH} {h:H} {ds:List Nat} {k:DX->AF->Tr} {run run':Nat->Nat->Option (List Det.X)},FU B h0 X base n Q k F ρ h nd run ds->(∀m q,run' m (q+1)=run m q)->FU B h0 X base n Q k F ρ h nd run' ds:=by
  rintro h0 F ρ h ds k run run' ⟨l,M,h1,h2,h3⟩ v;refine⟨l,M+1,fun m hm q U=>?_,h2,h3⟩;obtain⟨q',rfl⟩:=E (show 1<=q by omega);grind
 intro c;induction c with
 |skip=>
  intro h0 st k F ρ fr h ds A D v;exact one A D v (fun m q U=>by obtain⟨q',rfl⟩:=E U;rfl)
 |label l=>
  intro h0 st k F ρ fr h ds A D v;exact one A D v (fun m q U=>by obtain⟨q',rfl⟩:=E U;rfl)
 |exit i=>
  intro h0 st k F ρ fr h ds A D v;exact one A D v (fun m q U=>by obtain⟨q',rfl⟩:=E U;rfl)
 |ret=>
  intro h0 st k F ρ fr h ds A D v;exact one A D v (fun m q U=>by obtain⟨q',rfl⟩:=E U;rfl)
 |region id ops dr=>
  intro h0 st k F ρ fr h ds A D v;unfold exec at v;cases dr with
  |true=>
   simp only[we]at v;cases hst:(!ro||Hp ops (Ea ops))with
   |false=>grind [Ev.Ay]
   |true=>
   rw[hst]at v;simp only[we]at v;have hdd:∀call,(bif ct then Ip X.C call ops fr h else S7 X.C call ops fr h)=Ip X.C call ops fr h:=by
    intro call;cases hro:ro with
    |false=>grind
    |true=>
     rw[hro]at hst;have hst:Hp ops (Ea ops)=true:=hst;simp_all [S7]
   obtain⟨n',hn,u,w,F',ρ',fr',h',J,M,hM⟩:=Xx (hcallD h0) D v;refine⟨[⟨.normal,fr',h',ds⟩],M+1,fun m hm q U=>?_,(by simp),fun x K=>?_⟩
   ·obtain⟨q',rfl⟩:=E (show 1<=q by omega);have:=hM m ae;simp only[Be,we];grind
   ·cases zc.1 K;exact⟨[],(by simp),n',hn,u,w,F',ρ',J.rel,zp A J.le.n,J.le.low A,J.nx⟩
  |false=>
   simp only[wg]at v;obtain⟨r,M,hM,hone,hall⟩:=Sq (hcall h0) D v;refine⟨r.map fun x=>⟨.normal,x.1,x.2,ds⟩,M+1,fun m hm q U=>?_,fun e=>?_,fun x K=>?_⟩
   ·obtain⟨q',rfl⟩:=E (show 1<=q by omega);simp only[Be,wg,hM m ae]
   ·obtain⟨y,rfl⟩:=hone e;simp
   ·obtain⟨y,hy,rfl⟩:=yg.1 K;obtain⟨n',hn,u,w,F',ρ',J⟩:=hall y hy;exact⟨[],(by simp),n',hn,u,w,F',ρ',J.rel,zp A J.le.n,J.le.low A,J.nx⟩
 |seq a b iha ihb=>
  intro h0 st k F ρ fr h ds A D v;unfold exec at v;refine W (chain (run2:=fun m q x=>match x.e with| .normal=>Be X.C (A1 X.C m) rv ct q b x.fr x.h x.ds|_=>some [x]) ae (iha ds A D v) fun x ps1 n1 Z u w F' ρ' S Y=>?_)<|fun m q=>rfl;obtain⟨e,T,h1,I⟩:=x;cases e with
  |normal=>
   have rest:∀ {V:AF} {F2:Fz} {R:DH} {n2:Nat},n2<=n->Rel B (h0.pins ps1) F2 R V T h1->base<=V.nx->(∀id,id<base->R id=ρ' id)->(∀b cs,F' b=some cs->F2 b=some cs)->Ev X Q n2 (exec X (BZ X nd d) (BZ X false d) nd ro d f base b V k)->
     FU B (h0.pins ps1) X base n Q k F' ρ' h1 nd (fun m q=>Be X.C (A1 X.C m) rv ct q b T h1 I) I:=by
    intro V F2 R n2 hn2 hr2 hb2 hρ2 hF2 G;have hl0:Le F' ρ' base F2 R base:=⟨hF2,ah,zd _⟩;have hc:FU B (h0.pins ps1) X base n Q k F2 R h1 nd (fun m q=>Be X.C (A1 X.C m) rv ct q b T h1 I) I:=by
     by_cases hlt:n2<n
     ·obtain⟨l,M,h1,h2,h3⟩:=IH n2 hlt b I hb2 hr2 G;exact⟨l,M,h1,h2,ah⟩
     grind
    obtain⟨l,M,h1,h2,h3⟩:=hc;exact⟨l,M,h1,h2,fun x K=>by
     obtain⟨ps,k0,n3,k1,st3,k2,F3,ρ3,k3,k4,k5,k6⟩:=h3 x K;exact⟨ps,k0,n3,k1,st3,k2,F3,ρ3,k3,k4,hl0.trans k5,k6⟩⟩
   simp only at w;cases hct:X.ct f (Bz b)with
   |false=>grind
   |true=>
    rw[hct]at w;simp only[we]at w;cases w with
    |cut w=>
     obtain⟨F2,ρ0,hr0,hb0,hρ0,hF⟩:=Oz S f (Bz b) Y;exact rest Z hr0 hb0 hρ0 hF w
  |exit i=>exact⟨[⟨.exit i,T,h1,I⟩],0,(by simp),(by simp),fun x K=>by cases zc.1 K;exact⟨[],(by simp),n1,Z,u,w,F',ρ',S,Y,zk,zd _⟩⟩
  |ret=>exact⟨[⟨.ret,T,h1,I⟩],0,(by simp),(by simp),fun x K=>by cases zc.1 K;exact⟨[],(by simp),n1,Z,u,w,F',ρ',S,Y,zk,zd _⟩⟩
 |cond x a b iha ihb=>
  intro h0 st k F ρ fr h ds A D v;unfold exec at v;have go:∀ {t:Bool} {u:AF},ev X.C fr x=some (.bool t)->Rel B h0 F ρ u fr h->base<=u.nx->Ev X Q n (bif t then exec X (BZ X nd d) (BZ X false d) nd ro d f base a u k else exec X (BZ X nd d) (BZ X false d) nd ro d f base b u k)->FU B h0 X base n Q k F ρ h nd (fun m q=>Be X.C (A1 X.C m) rv ct q (.cond x a b) fr h ds) ds:=by
   grind [Be]
  split at v
  case h_4=>grind [Ev.Ay]
  case h_3=>
   rename_i ht;obtain⟨y,g1,g2⟩:=BQ (C:=X.C) D.fp ht;simp only[PR]at g2;obtain⟨t,rfl⟩:=g2;split at v
   case h_2=>grind [Ev.Ay]
   rename_i s;have hs:fr.get s=.bool t:=by simpa [ev]using g1
   obtain⟨w,G⟩:=v.R3;cases t with
   |true=>exact go g1 (D.note<|by rw[hs];rfl) A w
   |false=>exact go g1 (D.note<|by rw[hs];rfl) A G
  case h_1=>
   rename_i t ht;obtain⟨y,g1,g2⟩:=BQ (C:=X.C) D.fp ht;obtain rfl:=Nr g2;grind
  case h_2=>
   rename_i t ht;obtain⟨y,g1,g2⟩:=BQ (C:=X.C) D.fp ht;obtain rfl:=J7 g2;split at v
   case h_1=>
    rename_i s;have hs:fr.get s=.bool t:=by simpa [ev]using g1
    rcases v.Ee with⟨L,G⟩|⟨L,G⟩
    ·have L:t=true:=L;subst L;exact go g1 (D.note<|by rw[hs];rfl) A G
    ·have L:t=false:=L;subst L;exact go g1 (D.note<|by rw[hs];rfl) A G
   case h_2=>
    rcases v.Ee with⟨L,G⟩|⟨L,G⟩
    ·grind
    grind
 |block id b ih=>
  intro h0 st k F ρ fr h ds A D v;unfold exec at v;obtain⟨l,M,h1,h2,h3⟩:=ih ds A D v;refine⟨l.map fun x=>match x.e with
    | .exit i=>bif zf i id then { x with e:=.normal }else x
    |_=>x,M+1,fun m hm q U=>?_,fun e=>?_,fun y hy=>?_⟩
  ·obtain⟨q',rfl⟩:=E (show 1<=q by omega);grind [Be]
  ·grind
  grind
 |loop b ih=>
  intro h0 st k F ρ fr h ds A D v;unfold exec at v;cases v with
  |@loop n0 _ _ _ _ _ _ _ _ v=>
  obtain⟨F0,ρ0,hr0,hb0,hρ0,hF0⟩:=Oz D f (Bz b) A;have hl0:Le F ρ base F0 ρ0 base:=⟨hF0,ah,zd _⟩;unfold body at v;have hbody:=IH n0 (Nat.lt_succ_self _) b ds hb0 hr0 v;have hch:FU B h0 X base (n0+1) Q k F0 ρ0 h nd (fun m q=>match Be X.C (A1 X.C m) rv ct q b fr h ds with|some l=>bl l (fun x=>match x.e with| .normal=>Be X.C (A1 X.C m) rv ct q (.loop b) x.fr x.h x.ds|_=>some [x])|none=>none) ds:=by
   refine chain (run2:=fun m q x=>match x.e with| .normal=>Be X.C (A1 X.C m) rv ct q (.loop b) x.fr x.h x.ds|_=>some [x]) ae hbody fun x ps1 n1 Z u w F' ρ' S Y=>?_
   obtain⟨e,T,h1,I⟩:=x;cases e with
   |normal=>
    have he1':Ev X Q n1 (exec X (BZ X nd d) (BZ X false d) nd ro d f base (.loop b) u k):=by unfold exec;exact w
    obtain⟨l,M,h1,h2,h3⟩:=IH n1 ae (.loop b) I Y S he1';exact⟨l,M,h1,h2,ah⟩
   |exit i=>exact⟨[⟨.exit i,T,h1,I⟩],0,(by simp),(by simp),fun x K=>by cases zc.1 K;exact⟨[],(by simp),n1,by omega,u,w,F',ρ',S,Y,zk,zd _⟩⟩
   |ret=>exact⟨[⟨.ret,T,h1,I⟩],0,(by simp),(by simp),fun x K=>by cases zc.1 K;exact⟨[],(by simp),n1,by omega,u,w,F',ρ',S,Y,zk,zd _⟩⟩
  obtain⟨l,M,g1,g2,g3⟩:=W (run':=fun m q=>Be X.C (A1 X.C m) rv ct q (.loop b) fr h ds) hch<|fun m q=>rfl;refine⟨l,M,g1,g2,fun x K=>?_⟩;obtain⟨ps,k0,n2,k1,V,k2,F2,R,k3,k4,k5,k6⟩:=g3 x K;exact⟨ps,k0,n2,k1,V,k2,F2,R,k3,k4,hl0.trans k5,k6⟩
 |scope b ih=>
  intro h0 st k F ρ fr h ds A D v;unfold exec at v;exact W (ih ds A D v)<|fun m q=>rfl
 |rangeFunc g ps a b _ _=>
  intro h0 st k F ρ fr h ds A D v;unfold exec at v;cases hro:ro with
  |true=>grind [Ev.Ay]
  |false=>
  rw[hro]at v;obtain⟨rfl,rfl⟩:=hrv hro;simp only[wg]at v;split at v
  case h_2=>grind [Ev.Ay]
  rename_i gf first cap hg
  obtain⟨pq,hprim⟩:∃pq,X.C.prim gf=pq:=⟨_,rfl⟩;cases pq with
  |some q0=>grind [Ev.Ay]
  |none=>
  rw[hprim]at v;simp only[Option.isSome_none,wg]at v;obtain⟨gv,g1,g2⟩:=BQ (C:=X.C) D.fp hg;simp only[PR]at g2;obtain⟨fa,fb,rfl,f1,f2⟩:=g2;have S:=D.sr.mark;have hr2:=S.push (o:=.lp f (Bz b) ps a b .ready st.n<|Ks X f (Bz b) st) (x:=.loop ⟨.ready,none,fr,ps,a,b,h.nx⟩) (n:=0) rfl
   ⟨_,rfl,rfl,rfl,rfl,⟨rfl,rfl⟩,D.fp.n.symm,fun t=>by
    have hl:=Le.new (F:=F) (ρ:=ρ) (N:=st.nx) ((h.push<|.defd true).nx,0);unfold MV Ks;cases hp:(Ej<|(X.pl f<|Bz b).map fun t=>(t,st.get t)).get t with
    |none=>simp[PR]
    |some p=>
     rcases FF _ .leaf t p hp with h1|h1
     ·simp only[yg]at h1;obtain⟨s,_,h2⟩:=h1;cases h2;exact(D.fp.slot _).mono hl
     ·simp at h1⟩
  have hle2:Le F ρ st.nx F (Bl ρ st.nx<|some (h.nx+1,0)) (st.nx+1):=Le.new _;have hrel2:Rel B (h0.pins [h.nx]) F (Bl ρ st.nx<|some (h.nx+1,0)) (st.push<|.lp f (Bz b) ps a b .ready st.n<|Ks X f (Bz b) st) fr ((h.push<|.defd true).push<|.loop ⟨.ready,none,fr,ps,a,b,h.nx⟩):=
   ⟨⟨D.fp.n,fun t=>(D.fp.slot t).mono hle2⟩,hr2⟩
  have hargs:BB F (Bl ρ st.nx<|some (h.nx+1,0)) (st.push<|.lp f (Bz b) ps a b .ready st.n<|Ks X f (Bz b) st).nx (first++[.yl st.nx]++cap) (fa++[.yld<|h.nx+1]++fb):=by
   refine((f1.mono hle2).append ?_).append<|f2.mono hle2;simp only[By,Dp,ve,PR];exact⟨ae,(by grind [Bl])⟩
  obtain⟨l,hcd,hone,hall⟩:=hcall _ v hrel2 hargs;obtain⟨i,M,hfn,hM⟩:∃i M,X.C.fn gf=some i/\∀m,M<=m->A1 X.C m (.fn gf<|fa++[.yld<|h.nx+1]++fb) ((h.push<|.defd true).push<|.loop ⟨.ready,none,fr,ps,a,b,h.nx⟩)=some l:=by
   cases hcd with
   |A1 hc hM=>obtain⟨rfl,_,i,hfn⟩:=hc;exact⟨i,_,hfn,hM⟩
   |prim U _=>grind
  have hdc:Hq X.C ((h.push<|.defd true).push<|.loop ⟨.ready,none,fr,ps,a,b,h.nx⟩) (.fn (.func gf) fa fb) [.yld<|h.nx+1]=some (.enter gf<|fa++[.yld<|h.nx+1]++fb):=by
   grind [Hq]
  have fin:∀x∈l,∃(r:List Det.X) (M:Nat),(∀m:Nat,M<=m->∀q:Nat,M<=q->(match x.2.get (h.nx+1)with
      |some (.loop ls)=>match ls.st,ls.pend with
       | .busy,_=>none
       |_,none=>some [⟨.normal,fr,x.2.put (h.nx+1)<|.loop { ls with st:=.exhausted },h.nx::ds⟩]
       |_,some c=>Be X.C (A1 X.C m) none false q c fr (x.2.put (h.nx+1)<|.loop { ls with st:=.exhausted }) (h.nx::ds)
      |_=>none)=some r)/\(nd=false->∃x,r=[x])/\∀y∈r,∃ps,(y.ds=ps++ds/\ps.Nodup/\∀b∈ps,h.nx<=b)/\∃n',n'<=n/\∃u,Ev X Q n' (k y.e u)/\∃F' ρ',Rel B (h0.pins ps) F' ρ' u y.fr y.h/\base<=u.nx/\Le F ρ base F' ρ' base/\h.nx<=y.h.nx:=by
   intro x K;obtain⟨n1,Z,r,st',w,F',ρ',_,J,_⟩:=hall x K;split at w
   case h_2=>grind [Ev.Ay]
   rename_i f' r' ps' asg' body' s n' sl hob;obtain⟨bb,nn,y,k1,k2,⟨ls,rfl,-,-,-,hlp,-⟩,-⟩:=J.rel.sr.at hob;have hN:st.nx<st.nx+1:=ae;have kk:Bl ρ st.nx (some (h.nx+1,0)) st.nx=some (bb,nn):=J.le.at hN k1;simp only[Bl,wm,zh,zn]at kk;obtain⟨rfl,rfl⟩:=kk;have hpin:∀p∈(h0.pins [h.nx]).pin,h.nx+1≠p:=fun p hp e=>(J.rel.sr.pn p hp).2.2 _ _<|e▸k1
   have hdel:=J.rel.sr.del st.nx;have hput:∀z:O,Rel B (h0.pins [h.nx]) F' (Bl ρ' st.nx none) (st'.E7 st.nx) fr (x.2.put (h.nx+1) z):=by
    intro z;have hl:Le F' ρ' st'.nx F' (Bl ρ' st.nx none) st'.nx:=Le.Ix _;refine⟨⟨J.rel.fp.n,fun t=>(J.rel.fp.slot t).mono hl⟩,?_⟩;refine hdel.Wy (fun id o m ho e=>?_) ?_ (J.rel.sr.own _ _ _ k1).2 (fun hp=>hpin _ hp rfl) k2
    ·rw[C3]at ho;split at ho
     ·cases ho
     ·rename_i hne;simp only[Bl,hne,vf]at e;exact hne<|J.rel.sr.inj id st.nx o _ _ m 0 ho hob e k1
    ·cases hF:F' (h.nx+1)with
     |none=>rfl
     |some cs=>obtain⟨t,fz,g⟩:=J.rel.sr.frz _ cs hF;rw[k2]at g;cases g
   have hbase:base<=(st'.E7 st.nx).nx:=zp A<|zp (Nat.le_succ _) J.le.n;have hLe:Le F ρ base F' (Bl ρ' st.nx none) base:=by
    refine(hle2.low A).trans<|(J.le.low<|zp A<|Nat.le_succ _).trans ?_;exact(Le.Ix (F:=F') (ρ:=ρ') (N:=base) st.nx)
   have hnx:h.nx<=x.2.nx:=zp (by show h.nx<=h.nx+1+1;omega) J.nx;have done:∀ {e:DX} {z:O},Ev X Q n1 (k e<|st'.E7 st.nx)->∃ps,((⟨e,fr,x.2.put (h.nx+1) z,h.nx::ds⟩:Det.X).ds=ps++ds/\ps.Nodup/\∀b∈ps,h.nx<=b)/\∃n',n'<=n/\∃u,Ev X Q n' (k e u)/\∃F' ρ',Rel B (h0.pins ps) F' ρ' u fr (x.2.put (h.nx+1) z)/\base<=u.nx/\Le F ρ base F' ρ' base/\h.nx<=(x.2.put (h.nx+1) z).nx:=by
    intro e z G;exact⟨[h.nx],⟨rfl,(by simp),fun b A=>by cases zc.1 A;exact zd _⟩,n1,Z,_,G,F',_,hput z,hbase,hLe,hnx⟩
   obtain⟨lst,lpend,lfr,lps,lasg,lbody,ldb⟩:=ls;simp only at hlp;split at w
   case h_1=>
    obtain⟨rfl,rfl⟩:=hlp;exact⟨[⟨.normal,fr,x.2.put (h.nx+1)<|.loop ⟨.exhausted,none,lfr,lps,lasg,lbody,ldb⟩,h.nx::ds⟩],0,fun m _ q _=>(by simp only[k2]),fun _=>⟨_,rfl⟩,fun y hy=>by cases zc.1 hy;exact done w⟩
   case h_2=>
    obtain⟨rfl,rfl⟩:=hlp;exact⟨[⟨.ret,fr,x.2.put (h.nx+1)<|.loop ⟨.exhausted,some .ret,lfr,lps,lasg,lbody,ldb⟩,h.nx::ds⟩],1,fun m _ q U=>(by obtain⟨q',rfl⟩:=E U;simp only[k2,Be]),fun _=>⟨_,rfl⟩,fun y hy=>by cases zc.1 hy;exact done w⟩
   case h_3=>
    rename_i j;obtain⟨rfl,rfl⟩:=hlp;exact⟨[⟨.exit j,fr,x.2.put (h.nx+1)<|.loop ⟨.exhausted,some<|.exit j,lfr,lps,lasg,lbody,ldb⟩,h.nx::ds⟩],1,fun m _ q U=>(by obtain⟨q',rfl⟩:=E U;simp only[k2,Be]),fun _=>⟨_,rfl⟩,fun y hy=>by cases zc.1 hy;exact done w⟩
   case h_4=>exact wh w Ev.Ay
  obtain⟨r,M2,j1,j2,j3⟩:=Iu hone fin;refine⟨r,max M M2+1,fun m hm q U=>?_,j2,j3⟩;obtain⟨q',rfl⟩:=E (show 1<=q by omega);have h1:=hM m ae;have h2:=j1 m ae q' ae;simp only[Be,Q3,g1];show(match Hq X.C ((h.push<|.defd true).push<|.loop ⟨.ready,none,fr,ps,a,b,h.nx⟩) (.fn (.func gf) fa fb) [.yld<|h.nx+1]with|some (.enter f args)=>_|_=>none)=_;rw[hdc];simp only[h1];exact h2
 |goto l=>intro h0 st k F ρ fr h ds A D v;exact wh v Ev.Ay
 |refuse s=>intro h0 st k F ρ fr h ds A D v;exact wh v Ev.Ay
end
end Go.Pe
