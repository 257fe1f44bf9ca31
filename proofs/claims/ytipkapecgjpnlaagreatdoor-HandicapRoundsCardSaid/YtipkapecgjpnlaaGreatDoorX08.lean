import Derived.Test.YtipkapecgjpnlaaGreatDoorX07
/- A part of a proof; no law is stated here. -/
noncomputable section
open List renaming mem_singleton -> Za, take_of_length_le -> Zp, replicate -> Zq, drop_eq_getElem_cons -> Zs, getElem?_eq_some_iff -> Zt, length_eq_zero_iff -> Zw, drop_zero -> Zz, all_cons -> ZC, mem_map -> ZE
open Nat renaming le_refl -> Zb, beq -> Zd, eq_of_beq_eq_true -> Ze, ble -> Zg, blt -> Zj, mul_le_mul_right -> Zk, le_trans -> Zn, le_of_ble_eq_true -> Zr, zero_mul -> Zx, add_mul -> ZA
open Bool renaming and_eq_true -> Zc, and_true -> Zu
open Option.some renaming injEq -> Zf
open Option renaming map_eq_some_iff -> Zh, getD_some -> Zv, map_some -> Zy
open Go.Pe.Le renaming refl -> Zi
open Prod.mk renaming injEq -> Zl
open Go.Pe.OK renaming pure -> Zm
open List.cons renaming injEq -> Zo
open Go.Pe renaming apart -> ZB, AX -> ZF
open Go.Det.V renaming beq -> ZD
namespace Go.Pe
open Go.Det
section
variable {B:Nat}{h0:H0}{F:Fz}{ρ:BX}{N:Nat}{C:Ctx}{st st':Ag}{fr:Fr}{h h':H}
theorem SR.Qj{ob:Ob}(d:SR B h0 F ρ N ob h){o:Obj}{x:O}{b n:Nat}(K:h.get b=some x)(l:∀id o m,Aj ob id=some o->ρ id≠some (b,m))(W:F b=none)(S:h0.OZ B b)(R:b∉h0.pin)(V:o.frozen=false)
  (Y:Nf F (AA ρ N<|some (b,n)) (N+1) n o x):SR B h0 F (AA ρ N<|some (b,n)) (N+1) ((N,o)::ob) h:=by
 have E:Le F ρ N F (AA ρ N<|some (b,n)) (N+1):=Le.new _;have a:∀j,Aj ((N,o)::ob) j=if j=N then some o else Aj ob j:=by
  simp only[Aj,Aw];grind
 refine⟨fun j oj g=>?_,fun i j oi oj c m u v g q r=>?_,d.frz,fun id c m p=>?_,fun j g=>?_,d.old,d.lt,d.le,d.fo,d.gl,fun c G=>?_⟩
 ·rw[a]at g;by_cases e:j=N
  ·grind [AA]
  ·rw[wa e]at g;obtain⟨c,m,y,q,r,J,w⟩:=d.obj j oj g;exact⟨c,m,y,by simp[AA,e,q],r,J.mono E,w⟩
 ·rw[a]at v g;have key:∀k ok m,(if k=N then some o else Aj ob k)=some ok->AA ρ N (some (b,n)) k=some (c,m)->(k=N/\c=b)\/(k≠N/\Aj ob k=some ok/\ρ k=some (c,m)/\c≠b):=by
   intro k ok m U s;by_cases e:k=N
   ·simp_all [AA]
   ·simp only[AA,e,vb]at s;grind
  rcases key i oi m v q with⟨D,e2⟩|⟨D,e2,I,P⟩<;>rcases key j oj u g r with⟨A,t⟩|⟨A,t,z,T⟩
  ·omega
  ·omega
  ·omega
  ·exact d.inj i j oi oj c m u e2 t I z
 ·unfold AA at p;split at p
  ·grind
  ·have:=d.own id c m p;grind
 ·rw[a]at g;by_cases e:j=N
  ·grind
  ·rw[wa e]at g;simp[AA,e,d.dead j g]
 ·obtain⟨M,L,Z⟩:=d.pn c G;grind [AA]
theorem HO{off:Nat}{cs:List V}(h:off<=cs.length):A1 off [] cs=cs:=by
 apply List.ext_getElem?;simp_all [DJ,wa]
theorem LP{off:Nat}{vs cs:List V}(h:off+vs.length<=cs.length):A1 off vs cs=cs.take off++(vs++cs.drop (off+vs.length)):=by
 apply List.ext_getElem?;intro j;rw[DJ h];grind
theorem BG.Qw{s:Sh}{l new:List s.T}{cs d:List V}{a:Nat}(h:BG F s l cs)(e:BG F s new d)(g:a+new.length<=l.length):
  BG F s (l.take a++(new++l.drop (a+new.length))) (A1 (a*s.sz) d cs):=by
 have k:=h.1;have j:=e.1;have i:(a+new.length)*s.sz<=l.length*s.sz:=Zk _ g;rw[LP ae];have b:=h.part (off:=0) (len:=a) a8;have c:=h.part (off:=a+new.length) (len:=l.length-(a+new.length)) a8;rw[Zx,Zz,Zz]at b;rw[Zp (by simp),Zp<|by simp_all [Nat.sub_mul]]at c;rw[j, <-ZA];exact b.append<|e.append c
def CN:List PV->List Nat
 | .sl id _ _ _ _::_=>[id]
 |_=>[]
theorem Pm{s b:Sh}{x:b.T}{c:Bool}{l:List s.T}(d:Jd st s (.dat b x)=some (c,l)):c=true:=by
 unfold Jd at d;cases b with
 |list a=>
  grind [Zh,DN,lz]
 |nlist a=>
  grind [Zh,DN,lz]
 |str=>
  grind [Zh,DN,lz]
 |_=>cases d
theorem SU(G:SR B h0 F ρ st.nx st.ob h){ts:Array TypeId}{ps:List PV}{xs:List V}(O:AJ F ρ st.nx ps xs){v:PV}(d:(K0 C.T ts ps st).To v st'):OK B h0 F ρ st h (CN ps) (CF<|Dh C.T h ts xs) v st':=by
 unfold K0 at d;split at d
 case h_2=>simp at d
 rename_i t tx p q hts htx;simp only[AJ]at O;obtain⟨x,_,rfl,O,y,_,rfl,hy,rfl⟩:=O;split at d
 case h_2=>simp at d
 rename_i e ex hu hux;have hss:K4 ex=true:=by
  cases hq:K4 ex with
  |true=>rfl
  |false=>simp_all
 rw[hss]at d;simp only[wc]at d;split at d
 case h_2=>simp at d
 rename_i i s hi hs;cases hc:(Zj 0 i.bytes&&Zj 0 i.size&&Zd i.zero.length i.size&&Zd i.size s.sz)with
 |false=>simp_all
 |true=>
  rw[hc]at d;simp only[Zc]at hc;obtain⟨⟨⟨c1,c2⟩,c3⟩,c4⟩:=hc;have e4:=Ze c4;simp only[wc]at d;split at d
  case h_2=>simp at d
  rename_i c new hel;have head:c=true->∃cs,src h i.size y new.length=some cs/\BG F s new cs/\Dh C.T h ts [x,y]=(match x with
      | .nils=>bif Zd new.length 0 then some (.nils,h)
       else bif Zg ((3*new.length+2000)*i.bytes) 562949953421312 then some (.sl h.nx 0 new.length new.length i.size,EB h e cs)else none
      | .es0=>bif Zd new.length 0 then some (.es0,h)
       else bif Zg ((3*new.length+2000)*i.bytes) 562949953421312 then some (.sl h.nx 0 new.length new.length i.size,EB h e cs)else none
      | .esl=>bif Zd new.length 0 then some (.esl,h)else none
      | .sl b off len cap o=>
       bif Zg (len+new.length) cap then(wr h b (off+len*i.size) cs).map fun h'=>(.sl b off (len+new.length) cap o,h')
       else bif Zg ((3*(len+new.length)+2000)*i.bytes) 562949953421312 then
        match src h i.size x len with
        |some old=>
         bif Zd o 0 then some (.sl h.nx 0 (len+new.length) (len+new.length) i.size,EB h e<|old++cs)
         else
          match h.get b with
          |some (.cells _ te fz)=>
           bif Zd off 0&&Zd o i.size&&Zd te e&&Zg fz.2 fz.1&&cs.all V.one then some (.sl h.nx 0 (len+new.length) (len+new.length) i.size,(h.kill b).push<|.cells (old++cs) e (0,0))
           else none
          |_=>none
        |none=>none
       else none
      |_=>none):=by
   intro hc;obtain⟨g1,E,cs,I,g4⟩:=PI G hy hel hc;rw[<-e4]at I;refine⟨cs,I,g4,?_⟩;have Y:(Zj 0 i.bytes&&Zj 0 i.size&&Zd i.zero.length i.size&&(Zd i.size 1||H9 y))=true:=by
    grind
   have hint:isInt ex=false:=by cases ex<;>first|rfl|cases hss
   simp only[Dh,hts,htx,hu,hux,g1,hi,hint,Y,wc,I];cases x<;>rfl
  split at d
  case h_3=>simp at d
  case h_1=>
   simp only[PR]at O;subst O;have grow:c=true->0<new.length->(3*new.length+2000)*i.bytes<=Sk->OK B h0 F ρ st h (CN [PV.nil,q]) (CF<|Dh C.T h ts [.nils,y]) (.sl st.nx s.sz 0 new.length none) (st.push<|.arr false e s new):=by
    intro k1 k2 k3;obtain⟨cs,g1,E,I⟩:=head k1;have R:Zd new.length 0=false:=by grind [Aw]
    have b2:Zg ((3*new.length+2000)*i.bytes) 562949953421312=true:=Nat.ble_eq_true_of_le k3;rw[I];simp only[R,b2,wd,wc];exact OK.new G (o:=.arr false e s new) (n:=new.length) rfl ⟨_,_,rfl,E,Zb _,rfl⟩ (IV<|.inr e4)
   have same:c=true->new.length=0->OK B h0 F ρ st h (CN [PV.nil,q]) (CF<|Dh C.T h ts [.nils,y]) .nil st:=by
    intro k1 k2;obtain⟨cs,g1,E,I⟩:=head k1;have R:Zd new.length 0=true:=by rw[k2];rfl
    rw[I];simp only[R,wc];exact⟨.nils,h,F,ρ,.inl rfl,by simp[PR],G,Zi,rfl,rfl,Zb _,(by simp)⟩
   split at d
   case h_1=>
    simp_all [Jd,DN,lz]
   case h_2=>
    have hc':c=true:=by
     exact Pm hel
    by_cases hn:0<new.length
    ·rw[w4 hn]at d;cases d with
     |tt d=>
      simp_all
    ·rw[w8 hn]at d;cases d with
     |ff d=>
      simp_all
   case h_3=>
    by_cases hn:0<new.length
    ·rw[w4 hn]at d;cases d with
     |tt d=>
      simp_all
    ·rw[w8 hn]at d;cases d with
     |ff d=>
      simp_all
   simp_all
  case h_2=>
   rename_i id sz off len cap;split at d
   case h_2=>simp at d
   rename_i e' r l ho;split at d
   case h_2=>simp at d
   rename_i l' hl';obtain⟨ecast,hcast⟩:=A4 hl';have es:r=s:=ae
   subst es;have:l'=l:=ae
   subst this;cases P:(Zd e e'&&Zd sz r.sz)with
   |false=>simp_all
   |true=>
    rw[P]at d;simp only[Zc]at P;have ee:=Ze P.1;have esz:=Ze P.2;subst ee;subst esz;simp only[wc]at d;split at d
    case h_2=>
     rename_i k;simp only[AT,Zc,w5]at d;obtain⟨⟨⟨k1,k2⟩,k3⟩,rfl,rfl⟩:=d;obtain⟨cs,g1,E,I⟩:=head k1;obtain⟨b,n,z,h1,h2,⟨bs,fz,rfl,h3,h4,h5⟩,h6,_⟩:=G.at ho;simp only[PR]at O;rw[I];have hone:cs.all V.one=true:=E.LV;have hcl:cs.length=new.length*r.sz:=E.1;have hbl:=h3.1;have hle:(off+len+new.length)*r.sz<=l'.length*r.sz:=Zk _ a8;have hexp:(off+len+new.length)*r.sz=off*r.sz+len*r.sz+new.length*r.sz:=ae
     have hsp:=BG.Qw h3 E (a:=off+len) a8;have D:(l'.take (off+len)++(new++l'.drop (off+len+new.length))).length=l'.length:=by simp;omega
     rcases O.2 b n h1 with⟨_,g6,o,g5,rfl⟩|⟨e0,ek,g6,g7⟩
     ·simp only[Zv]at g6;have hw:wr h b (off*r.sz+len*i.size) cs=some (h.put b<|.cells (A1 ((off+len)*r.sz) cs bs) e fz):=by
       grind [Hm,ZA]
      have R:Zg (len+new.length) k=true:=(by simp_all);refine⟨.sl b (off*r.sz) (len+new.length) k o,h.put b<|.cells (A1 ((off+len)*r.sz) cs bs) e fz,F,ρ,.inl ?_,?_,G.set ho h1 h2 rfl rfl (o':=.arr false e r _) ⟨_,fz,rfl,hsp,h4,D.trans h5⟩,Zi,rfl,rfl,Zb _,fun c _=>?_⟩
      ·simp only[Zv,R,wc,hw,Zy,CF]
      ·simp only[PR];refine⟨O.1,fun b' n' hb'=>.inl ?_⟩;grind
      ·rw[H.A8];by_cases e:c=b
       ·grind [CN]
       grind
     ·cases ek;subst e0;have hn0:new.length=0:=a8
      have S:new=[]:=ae;subst S;have hcs:cs=[]:=(by grind [Zw]);subst hcs;have hlp:A1 ((off+0)*r.sz) [] bs=bs:=(by grind [HO]);have U:∀c,(h.put b<|.cells (A1 ((off+0)*r.sz) [] bs) e fz).get c=h.get c:=by
       intro c;rw[hlp,H.A8];grind
      have hset:=G.set ho h1 h2 rfl rfl (o':=.arr false e r _) (x':=.cells (A1 ((off+0)*r.sz) [] bs) e fz) ⟨_,fz,rfl,hsp,h4,D.trans h5⟩;have J:SR B h0 F ρ st.nx (BT st.ob id<|.arr false e r<|l'.take (off+0)++([]++l'.drop (off+0+0))) h:=
       SR.congr (st:=⟨st.n,st.fr,BT st.ob id _,st.nx⟩) hset ae rfl
      have hpr:∀w,(w=.esl\/∃A,w=.sl b A 0 0 0/\A<=off*r.sz)->PR F ρ st.nx (.sl id r.sz off (Nat.add 0 0)<|some 0) w:=by
       grind [PR]
      rcases g7 with rfl|⟨A,rfl,Z⟩
      ·exact⟨.esl,h,F,ρ,.inl rfl,hpr _<|.inl rfl,J,Zi,rfl,rfl,Zb _,(by simp)⟩
      ·have hob:A<=bs.length:=by
        omega
       have hw:wr h b (A+0*i.size) []=some (h.put b<|.cells (A1 (A+0*i.size) [] bs) e fz):=Hm h2 a8 h4 rfl;have hput2:∀c,(h.put b<|.cells (A1 (A+0*i.size) [] bs) e fz).get c=h.get c:=by
        simp_all [HO]
       refine⟨.sl b A 0 0 0,h.put b<|.cells (A1 (A+0*i.size) [] bs) e fz,F,ρ,.inl ?_,hpr _<|.inr ⟨A,rfl,Z⟩,SR.congr (st:=⟨st.n,st.fr,BT st.ob id _,st.nx⟩) J hput2 rfl,Zi,rfl,rfl,Zb _,ae⟩;simp_all [Zg,CF]
    simp only[AT,Zc,w5]at d;obtain⟨⟨⟨⟨k1,k2⟩,k3⟩,k4⟩,rfl,rfl⟩:=d;subst k2;obtain⟨cs,g1,E,I⟩:=head k1;obtain⟨b,n,z,h1,h2,⟨bs,fz,rfl,h3,h4,h5⟩,h6,_⟩:=G.at ho;have hFb:=h6 rfl;simp only[PR]at O;have hB:=(G.own id b n h1).2;have hPb:b∉h0.pin:=fun hp=>(G.pn b hp).2.2 id n h1
    have hidN:=a8;obtain⟨_,_,o,g5,rfl⟩:len<=len/\0+len<=n/\∃o,(o=0\/o=r.sz)/\x=.sl b (0*r.sz) len len o:=by
     rcases O.2 b n h1 with g|⟨_,e,_⟩
     ·exact g
     grind
    have hbl:bs.length=len*i.size:=by rw[h3.1,k3,e4]
    have K:∀j oj m,Aj (Df st.ob id) j=some oj->AA ρ id none j≠some (b,m):=by
     intro j oj m hj hjr;rw[Bv]at hj;split at hj
     ·cases hj
     ·rename_i hne;simp only[AA,hne,vb]at hjr;exact hne<|G.inj j id oj _ b m n hj ho hjr h1
    have L:=G.del id;have W:Le F ρ st.nx F (AA ρ id none) st.nx:=Le.E0 id;have hnew:BG F r (l'++new) (bs++cs):=h3.append E;have D:(l'++new).length=len+new.length:=ae
    have hone:cs.all V.one=true:=E.LV;rw[I];simp only;by_cases hn:new.length=0
    ·
     have S:new=[]:=ae;have hcs:cs=[]:=Zw.1 (by rw[E.1,hn,Zx]);subst hcs;have R:Zg (len+new.length) len=true:=(by simp_all);have hw:wr h b (0*r.sz+len*i.size) []=some (h.put b<|.cells (A1 (0*r.sz+len*i.size) [] bs) e fz):=Hm h2 ae h4 rfl;have U:∀c,(h.put b<|.cells (A1 (0*r.sz+len*i.size) [] bs) e fz).get c=h.get c:=by
      simp_all [HO]
     refine⟨.sl b (0*r.sz) (len+new.length) len o,h.put b<|.cells (A1 (0*r.sz+len*i.size) [] bs) e fz,F,AA (AA ρ id none) st.nx<|some (b,n),.inl ?_,?_,?_,W.trans<|Le.new _,rfl,rfl,Zb _,ae⟩
     ·simp only[R,wc,hw,Zy,CF]
     ·unfold PR;refine⟨Nat.lt_succ_self _,fun b' n' hb=>.inl ?_⟩;simp_all [AA]
     ·refine SR.Qj (ob:=Df st.ob id) ?_ (x:=.cells bs e fz) ae K hFb hB hPb rfl ⟨bs,fz,rfl,?_,h4,?_⟩
      ·exact SR.congr (st:=⟨st.n,st.fr,Df st.ob id,st.nx⟩) L U rfl
      ·grind
      omega
    ·
     have R:Zg (len+new.length) len=false:=by
      cases hb:Zg (len+new.length) len with
      |false=>rfl
      |true=>have:=Zr hb;omega
     have b2:Zg ((3*(len+new.length)+2000)*i.bytes) 562949953421312=true:=Nat.ble_eq_true_of_le k4;have hsrc:src h i.size (.sl b (0*r.sz) len len o) len=some bs:=by
      show rd h b (0*r.sz) (len*i.size)=_;rw[rd_some h2 a8<|fun u hu=>h3.ok u ae];grind
     simp only[R,b2,wd,wc,hsrc];have fin:∀ {M:H},SR B h0 F (AA ρ id none) st.nx (Df st.ob id) M->M.nx=h.nx->(∀c,c≠b->M.get c=h.get c)->
       OK B h0 F ρ st h [id] (CF<|some (.sl h.nx 0 (len+new.length) (len+new.length) i.size,M.push<|.cells (bs++cs) e (0,0))) (.sl st.nx r.sz 0 (Nat.add len new.length) none) ((st.C8 id).push<|.arr false e r<|l'++new):=by
      intro M hr1 hnx hg;have hp:=hr1.push (o:=.arr false e r<|l'++new) (x:=.cells (bs++cs) e (0,0)) (n:=len+new.length) rfl ⟨_,_,rfl,hnew,Zb _,D⟩;refine⟨_,_,F,_,.inl rfl,?_,hp,W.trans<|Le.new _,rfl,rfl,by simp_all,fun c hc=>?_⟩
      ·rw[<-hnx];exact IV<|.inr e4
      ·rw[H.A6,wa a8];grind
     rcases g5 with rfl|rfl
     ·exact fin L rfl (fun _ _=>rfl)
     ·have b3:Zd r.sz 0=false:=by
       rw[<-e4];cases hb:Zd i.size 0 with
       |false=>rfl
       |true=>simp_all
      have b4:(Zd (0*r.sz) 0&&Zd r.sz i.size&&Zd e e&&Zg fz.2 fz.1&&cs.all V.one)=true:=by
       simp_all
      simp only[b3,wd,h2,b4,wc];exact fin (L.kill K hFb hB hPb) rfl (by simp_all)
theorem Cs:∀ {s:Sh} {x:s.T} {v:V},DV F s x v->PR F ρ N (AX s x) v
 | .pair a b,x,v,h=>by obtain⟨cs,rfl,c⟩:=h.1 rfl;simp_all [AX,PR,Bf]
 | .unit,x,v,h=>by obtain⟨cs,rfl,c⟩:=h.1 rfl;simp_all [DC,AX,PR]
 | .int _,x,v,h=>by have:=h.2 rfl;unfold AX PR;omega
 | .bool,x,v,h=>by have:=h.2 rfl;unfold AX PR;omega
 | .str,x,v,h=>by have:=h.2 rfl;unfold AX PR;omega
 | .list _,x,v,h=>by have:=h.2 rfl;unfold AX PR;omega
 | .nlist _,x,v,h=>by have:=h.2 rfl;unfold AX PR;omega
 | .fnv,x,v,h=>by
  have:=h.2 rfl;simp only[DC,Zo,va]at this;subst this;unfold AX;cases (x:Option Fn)<;>simp[PR]
 | .ptr s,x,v,h=>by
  have:=h.2 rfl;grind [DC,AX,PR]
theorem TE{s:Sh}{p:PV}{x:s.T}{v:V}(c:PR F ρ N p v)(b:XP s p=some x):DV F s x v:=by
 unfold XP at b;cases a:(Hn p==s.Ho)with
 |false=>grind
 |true=>
  rw[a]at b;refine⟨fun e=>?_,fun e=>?_⟩
  ·rw[e]at a;cases p<;>simp only[Hn]at a<;>try (cases a;done)
   obtain⟨cs,rfl,d⟩:=c;exact⟨cs,rfl,Bj d b⟩
  ·rw[e]at a;have:p.cells=[p]:=by cases p<;>first|rfl|(simp[Hn]at a)
   rw[this]at b;exact Bj (by simpa using c) b
theorem RP{T:AP}{t:TypeId}{s:Sh}(h:Um T t=some s):(∃k,s=.int k/\T.und t=some (.int k))\/(s=.str/\T.und t=some .string)\/(s=.bool/\T.und t=some .bool):=by
 unfold Um at h;grind
theorem Nd{T:AP}{t:TypeId}{s:Sh}(b:Um T t=some s){p:PV}{x:s.T}{v:V}(a:PR F ρ N p v)(c:TB s p=some x):DV F s x v:=by
 have:=Dl a c;rcases RP b with⟨k,rfl,_⟩|⟨rfl,_⟩|⟨rfl,_⟩<;>exact⟨fun e=>(by cases e),fun _=>this⟩
theorem Kh{T:AP}{t:TypeId}{s:Sh}(g:Um T t=some s){x:s.T}{v:V}(c:DV F s x v):∃d,T.und t=some d/\Ep T t d v=true/\(∀es,FA T t v es=F4 T t v es 0)/\∀y u,DV F s y u->Rz T t v u=some (Jy s x y):=by
 rcases RP g with⟨k,rfl,a⟩|⟨rfl,a⟩|⟨rfl,a⟩<;>
 ·have b:=c.2 rfl;simp only[DC,Zo,va]at b;subst b;refine⟨_,a,rfl,fun _=>rfl,fun y u e=>?_⟩;have i:=e.2 rfl;simp_all [DC,Rz,Jy]
theorem I9{T:AP}{t:TypeId}{ks vs:Sh}(G:Um T t=some ks){k:ks.T}{p:V}(y:DV F ks k p):∀ {l:List (ks.T×vs.T)} {es:List (V×V×Nat)},MR F ks vs l es->∀i,∃r,F4 T t p es i=some r/\
  (match r with
   |none=>CM ks vs k l=none/\Kr ks vs k l=l/\∀x g c,DV F vs x g->MR F ks vs (FI ks vs k x l) (es++[(p,g,c)])
   |some (j,u)=>(∃v,CM ks vs k l=some v/\DV F vs v u)/\i<=j/\MR F ks vs (Kr ks vs k l) (es.eraseIdx<|j-i)/\∀x g,DV F vs x g->MR F ks vs (FI ks vs k x l) (M7 es (j-i) p g)):=by
 intro l es K;induction K with
 |nil=>intro i;exact⟨none,rfl,rfl,rfl,fun x g c m=>.cons y m .nil⟩
 |@cons a b l J L n es q w P I=>
  intro i;obtain⟨d,_,_,_,s⟩:=Kh G y;have s:=s a J q;unfold F4;rw[s];cases o:Jy ks k a with
  |true=>
   refine⟨some (i,L),rfl,(by grind [CM]),Zb _,?_,fun x g m=>?_⟩
   ·simp_all [Kr]
   ·simp only[Nat.sub_self,FI,o,wc,M7,List.modify_zero_cons];exact .cons y m P
  |false=>
   obtain⟨r,E,z⟩:=I<|i+1;refine⟨r,E,?_⟩;cases r with
   |none=>
    obtain⟨O,D,A⟩:=z;refine⟨by simp_all [CM],by simp_all [Kr],fun x g c m=>?_⟩;simp only[FI,o,wd,List.cons_append];exact .cons q w<|A x g c m
   |some M=>
    obtain⟨j,u⟩:=M;obtain⟨⟨v,O,D⟩,A,k4,k5⟩:=z;have e:j-i=(j-(i+1))+1:=a8
    refine⟨(by simp_all [CM]),by omega,?_,fun x g m=>?_⟩
    ·rw[e];simp only[List.eraseIdx_cons_succ,Kr,o,wd];exact .cons q w k4
    ·rw[e];simp only[FI,o,wd,M7,List.modify_succ_cons];exact .cons q w<|k5 x g m
theorem Un(b:SR B h0 F ρ st.nx st.ob h){t:TypeId}{v:PV}(a:(Na C.T t st).To v st'):OK B h0 F ρ st h [] (CF<|ED h none) v st':=by
 unfold Na at a;split at a
 case h_2=>simp at a
 split at a
 case h_2=>simp at a
 rename_i ks vs d c;obtain⟨rfl,rfl⟩:=a;refine OK.new b (o:=.map ks vs []) (x:=.map [] 0) (n:=0) rfl ⟨[],0,rfl,.nil⟩ ?_;simp_all [PR,AA]
theorem Ps(g:SR B h0 F ρ st.nx st.ob h){ks vs:Sh}{m:PV}{l:List (ks.T×vs.T)}{x:V}(i:PR F ρ st.nx m x)(a:Q6 st ks vs m=some l):∃es,entries h x=some es/\MR F ks vs l es:=by
 unfold Q6 at a;split at a
 ·cases a;subst i;exact⟨[],rfl,.nil⟩
 ·split at a
  case h_2=>cases a
  rename_i c j l' d;obtain⟨e,he⟩:=A4 a;obtain⟨rfl,rfl⟩:=e;obtain⟨b,n,o,h1,h2,⟨es,clk,rfl,h4⟩,_⟩:=g.at d;simp_all [PR,entries]
 grind
theorem SQ{ks vs:Sh}{ok:Bool}{z:vs.T}{x:ks.T}:∀ {l:List (ks.T×vs.T)} {v:PV},(Xf ks vs ok z x st l).To v st'->st=st'/\((CM ks vs x l=none/\v=bif ok then .tup [AX vs z,.bl false]else AX vs z)\/∃w,CM ks vs x l=some w/\v=bif ok then .tup [AX vs w,.bl true]else AX vs w)
 |[],v,d=>by
  unfold Xf at d;simp only[AU]at d;exact⟨d.2,.inl ⟨rfl,d.1.symm⟩⟩
 |(a,b)::l,v,d=>by
  unfold Xf at d;generalize e:Jy ks x a=c at d;cases d with
  |tt d=>
   grind [AU,CM]
  |ff d=>
   obtain⟨g,i⟩:=SQ d;grind [CM]
theorem SP(b:SR B h0 F ρ st.nx st.ob h){t:TypeId}{p q:PV}{x y:V}(W:PR F ρ st.nx p x)(R:PR F ρ st.nx q y){ok:Bool}{v:PV}(a:(Kc C.T t p q ok st).To v st'):OK B h0 F ρ st h [] (AE h<|Co C.T h t x y ok) v st':=by
 unfold Kc at a;split at a
 case h_2=>simp at a
 rename_i Y e U;split at a
 case h_2=>simp at a
 rename_i ks vs i g O D;split at a
 case h_2=>simp at a
 rename_i k l z S K P;cases c:(XH i.zv==vs.Ho)with
 |false=>simp_all
 |true=>
  rw[c]at a;have m:=Nd g R S;obtain⟨es,he,L⟩:=Ps b W K;obtain⟨kd,g1,g2,g3,_⟩:=Kh g m;obtain⟨r,r1,r2⟩:=I9 g m L 0;have s:DV F vs z i.zv:=by
   have E:DC F vs z i.zv.cells:=Bj (B6 (F:=F) (ρ:=ρ) (N:=st.nx) i.zero) P;refine⟨fun e=>?_,fun e=>?_⟩
   ·rw[e]at c;cases d:i.zv<;>rw[d]at c<;>simp only[XH]at c<;>try (cases c;done)
    rw[d]at E;exact⟨_,rfl,E⟩
   ·rw[e]at c;have:i.zv.cells=[i.zv]:=by cases d:i.zv<;>rw[d]at c<;>first|rfl|(simp[XH]at c)
    grind
  unfold Co;simp only[U,g1,he,g2,wc,g3,r1];cases I:vs.S7 with
  |true=>
   rw[I]at a;have u:=SQ a;obtain⟨M,A⟩:=u;subst M;rcases A with⟨Z,d⟩|⟨w,J,d⟩
   ·cases r with
    |none=>
     simp only[D];cases ok with
     |true=>exact Zm b rfl (by simp_all [PR,Cs])
     |false=>exact Zm b rfl (by grind [Cs])
    |some G=>
     grind
   ·cases r with
    |none=>grind
    |some G=>
     obtain⟨⟨v',j,o⟩,_⟩:=r2;rw[J]at j;cases j;cases ok with
     |true=>exact Zm b rfl (by simp_all [PR,Cs])
     |false=>exact Zm b rfl (by rw[d];exact Cs o)
  |false=>
  rw[I]at a;obtain⟨rfl,rfl⟩:=a;cases r with
  |none=>
   obtain⟨j,_⟩:=r2;simp only[D,j,Option.getD_none,Option.isSome_none];cases ok with
   |true=>exact Zm b rfl (by simp only[wc,PR];simp_all [Cs,BL])
   |false=>exact Zm b rfl (Cs s)
  |some G=>
   obtain⟨⟨v,j,o⟩,_⟩:=r2;simp only[j,Zv,Option.isSome_some];cases ok with
   |true=>exact Zm b rfl (by simp only[wc,PR];simp_all [Cs,BL])
   |false=>exact Zm b rfl (Cs o)
theorem Rh(u:SR B h0 F ρ st.nx st.ob h){t:TypeId}{p q r:PV}{x y z:V}(O:PR F ρ st.nx p x)(L:PR F ρ st.nx q y)(K:PR F ρ st.nx r z){v:PV}(i:(Kj C.T t p q r st).To v st'):
  ∃id,p=.mp id/\OK B h0 F ρ st h [id] (Sd<|D6 C.T h t x y z) v st':=by
 unfold Kj at i;split at i
 case h_2=>simp at i
 rename_i S e id U;split at i
 case h_2=>simp at i
 rename_i ks d vs l j D;split at i
 case h_2=>simp at i
 rename_i k P w M G E;obtain⟨A,he⟩:=A4 G;simp only[Sh.list.injEq,Sh.pair.injEq,va]at A;subst A;simp only[AU]at i;have m:=Nd j L M;have J:=TE K E;obtain⟨b,n,o,h1,h2,⟨es,clk,rfl,h4⟩,_⟩:=u.at D;have s:=O;simp only[PR]at s;obtain⟨kd,g1,g2,g3,_⟩:=Kh j m;obtain⟨r',r1,r2⟩:=I9 j m h4 0;have fin:∀g a,MR F d vs (FI d vs k w l) g->OK B h0 F ρ st h [id] (Sd<|some<|h.put b<|.map g a) (.tup []) (st.setObj id<|.map d vs<|FI d vs k w l):=by
  intro g a I;refine⟨.tup [],_,F,ρ,.inr ⟨rfl,rfl⟩,by simp[PR],u.set D h1 h2 rfl rfl ⟨g,a,rfl,I⟩,Zi,rfl,rfl,Zb _,fun c _=>?_⟩;by_cases R:c=b
  ·grind
  simp_all
 unfold D6;grind
theorem QZ(m:SR B h0 F ρ st.nx st.ob h){ts:Array TypeId}{ps:List PV}{p:List V}(D:AJ F ρ st.nx ps p){v:PV}(a:(Kn C.T ts ps st).To v st'):
  ∃id w,ps=.mp id::w/\OK B h0 F ρ st h [id] (CF<|F9 C.T h ts p) v st':=by
 unfold Kn at a;split at a
 case h_2=>simp at a
 rename_i t id q s;split at a
 case h_2=>simp at a
 split at a
 case h_2=>simp at a
 rename_i ks d vs l g j;split at a
 case h_2=>simp at a
 rename_i k E A z;obtain⟨r,he⟩:=A4 z;simp only[Sh.list.injEq,Sh.pair.injEq,va]at r;subst r;simp only[AU]at a;obtain⟨x,xs',rfl,hx1,y,xs'',rfl,hy,rfl⟩:=D;have i:=Nd g hy A;obtain⟨b,n,o,h1,h2,⟨es,clk,rfl,h4⟩,_⟩:=m.at j;obtain rfl:=hx1.2 b n h1;obtain⟨kd,g1,g2,g3,_⟩:=Kh g i;obtain⟨r',r1,r2⟩:=I9 g i h4 0;have fin:∀e,MR F d vs (Kr d vs k l) e->OK B h0 F ρ st h [id] (CF<|some (.tup [],h.put b<|.map e clk)) (.tup []) (st.setObj id<|.map d vs<|Kr d vs k l):=by
  intro e u;refine⟨.tup [],_,F,ρ,.inl rfl,by simp[PR],m.set j h1 h2 rfl rfl ⟨e,clk,rfl,u⟩,Zi,rfl,rfl,Zb _,fun c _=>?_⟩;by_cases G:c=b
  ·grind
  simp_all
 unfold F9;grind
theorem SR.same(g:SR B h0 F ρ st.nx st.ob h){id b n:Nat}{o o':Obj}{x:O}(e:st.obj id=some o)(j:ρ id=some (b,n))(k:h.get b=some x)(i:o.frozen=false)(d:o'.frozen=false)
  (l:Nf F ρ st.nx n o' x):SR B h0 F ρ st.nx (BT st.ob id o') h:=by
 have a:∀c,h.get c=(h.put b x).get c:=by
  simp_all
 exact SR.congr (st:=⟨st.n,st.fr,BT st.ob id o',st.nx⟩) (g.set e j k i d l) a rfl
theorem Tl(q:SR B h0 F ρ st.nx st.ob h){ts:Array TypeId}{ps:List PV}{E:List V}(r:AJ F ρ st.nx ps E){v:PV}(d:(MS C.T ts ps st).To v st'):OK B h0 F ρ st h (CN ps) (CF<|C4 C.T h ts E) v st':=by
 unfold MS at d;split at d
 case h_2=>simp at d
 rename_i t p A;obtain⟨x,_,rfl,r,rfl⟩:=r;split at d
 case h_2=>simp at d
 rename_i e S;split at d
 case h_3=>simp at d
 case h_1=>
  obtain⟨rfl,rfl⟩:=d;simp only[PR]at r;exact⟨.tup [],h,F,ρ,(by simp_all [C4,CF]),by simp[PR],q,Zi,rfl,rfl,Zb _,(by simp)⟩
 rename_i id sz off len cap;split at d
 case h_2=>simp at d
 rename_i i k s l M D;cases u:(Zd sz s.sz&&Zj 0 i.zero.length&&Zd i.zero.length s.sz&&Det.Gg V.one i.zero)with
 |false=>simp_all
 |true=>
  rw[u]at d;simp only[Zc,CQ]at u;obtain⟨⟨⟨c1,K⟩,Z⟩,W⟩:=u;have c1:=Ze c1;subst c1;simp only[wc]at d;split at d
  case h_2=>simp at d
  rename_i z P;simp only[AT,w5]at d;obtain⟨R,rfl,rfl⟩:=d;obtain⟨b,n,y,h1,h2,⟨bs,fz,rfl,h3,h4,h5⟩,h6,_⟩:=q.at D;have w:DC F s z i.zero:=Bj (B6 (F:=F) (ρ:=ρ) (N:=st.nx) i.zero) P;have g:=BG.replicate w len;have m:=BG.Qw h3 g (a:=off) ae;rw[List.length_replicate]at m;have j:(l.take off++(Zq len z++l.drop (off+len))).length=l.length:=ae
  have skip:C4 C.T h ts [x]=some (.tup [],h)->len=0->OK B h0 F ρ st h (CN [.sl id s.sz off len cap]) (CF<|C4 C.T h ts [x]) (.tup []) (st.setObj id<|.arr false k s<|l.take off++(Zq len z++l.drop (off+len))):=by
   intro J h0;subst h0;have el:l.take off++(Zq 0 z++l.drop (off+0))=l:=by simp
   refine⟨.tup [],h,F,ρ,.inl (by rw[J];rfl),by simp[PR],q.same D h1 h2 rfl rfl (o':=.arr false k s _) ⟨bs,fz,rfl,?_,h4,?_⟩,Zi,rfl,rfl,Zb _,(by simp)⟩
   ·grind
   omega
  rcases r.2 b n h1 with⟨_,O,o,g5,rfl⟩|⟨Y,U,O,rfl|⟨G,rfl,_⟩⟩
  ·by_cases h0:len=0
   ·simp_all [C4]
   ·have I:wr h b (off*s.sz) (CI i.zero<|len*i.zero.length)=some (h.put b<|.cells (A1 (off*s.sz) ((Zq len i.zero).flatten) bs) k fz):=by
     rw[D5];refine Hm h2 ?_ h4 ?_
     ·rw[g.1,List.length_replicate, <-ZA,h3.1];exact Zk _ R
     grind
    have L:Zd len 0=false:=by rw[Aw];simp[h0]
    refine⟨.tup [],h.put b<|.cells (A1 (off*s.sz) ((Zq len i.zero).flatten) bs) k fz,F,ρ,.inl ?_,by simp[PR],q.set D h1 h2 rfl rfl (o':=.arr false k s _) ⟨_,fz,rfl,m,h4,j.trans h5⟩,Zi,rfl,rfl,Zb _,fun c _=>?_⟩
    ·simp only[C4,A,S,L,wd,M,K,wc,I,Zy,CF]
    ·rw[H.A8];by_cases e:c=b
     ·grind [CN]
     grind
  ·simp_all [C4]
  simp_all [C4]
theorem Ue(b:SR B h0 F ρ st.nx st.ob h){t:TypeId}{p:PV}{x:V}(d:PR F ρ st.nx p x){v:PV}(a:(MX C.T t p st).To v st'):OK B h0 F ρ st h [] (CF<|DW C.T h t x) v st':=by
 unfold MX at a;split at a
 case h_2=>simp at a
 rename_i s c;obtain⟨rfl,rfl⟩:=a;obtain rfl:=CZ d;have e:DW C.T h t (.str s)=some (.ptr h.nx 0,h.push<|.siter s 0):=by simp[DW,J8,c]
 rw[e];exact OK.new b (o:=.siter s 0) (n:=0) rfl rfl Gc
theorem VN(d:SR B h0 F ρ st.nx st.ob h){p:PV}{x:V}(o:PR F ρ st.nx p x){i:Bool}{v:PV}(a:(QA p i st).To v st'):i=true/\∃id off,p=.ptr id off/\OK B h0 F ρ st h [id] (CF<|G8 h x i) v st':=by
 unfold QA at a;split at a
 case h_2=>simp at a
 rename_i id;split at a
 case h_2=>simp at a
 rename_i s pos g;obtain⟨b,n,y,j,k,m,q,_⟩:=d.at g;subst m;obtain rfl:=o.2 b n j;refine⟨rfl,id,0,rfl,?_⟩;by_cases e:pos<s.length
 ·rw[w4 e]at a;cases a with
  |tt a=>
   obtain⟨rfl,rfl⟩:=a;have l:G8 h (.ptr b 0) true=some (.tup [.bool true,i64 pos,.int .i32<|rune s pos],h.put b<|.siter s<|pos+Fm s pos):=by
    simp only[G8,k,DG,w4 e,wc];rfl
   refine⟨_,_,F,ρ,.inl (by rw[l];rfl),?_,d.set g j k rfl rfl (o':=.siter s _) rfl,Zi,rfl,rfl,Zb _,fun c _=>?_⟩
   ·simp[PR,DC,i64]
   ·rw[H.A8];grind
 ·rw[w8 e]at a;cases a with
  |ff a=>
   obtain⟨rfl,rfl⟩:=a;refine⟨.tup [.bool false],h,F,ρ,.inl ?_,by simp[PR],d,Zi,rfl,rfl,Zb _,(by simp)⟩;simp_all [G8,DG,w8,CF]
end
section
variable {B:Nat}{h0:H0}{F:Fz}{ρ:BX}{N:Nat}{C:Ctx}{st st':Ag}{h:H}
def Vo:List PV->List Nat
 | .eptr id _ _ _::_=>[id]
 |_=>[]
theorem TR(d:SR B h0 F ρ st.nx st.ob h){ps:List PV}{g:List V}(c:AJ F ρ st.nx ps g){v:PV}(a:(NQ ps st).To v st'):OK B h0 F ρ st h [] (AE h<|Ji g) v st':=by
 unfold NQ at a;split at a
 case h_2=>simp at a
 rename_i id sz off len;cases e:Ei (st.obj id)with
 |false=>simp_all
 |true=>
  rw[e]at a;simp only[wc,AT,w5]at a;obtain⟨i,rfl,rfl⟩:=a;obtain⟨o,ho⟩:=NN e;obtain⟨b,n,z,g1,_⟩:=d.at ho;obtain⟨x,_,rfl,c,rfl⟩:=c;simp only[PR]at c;obtain⟨_,_,o',_,rfl⟩:len<=len/\off+len<=n/\∃o,(o=0\/o=sz)/\x=.sl b (off*sz) len len o:=by
   grind
  refine Zm d (v':=.ptr b<|off*sz) ?_ ?_
  ·have:Zj 0 len=true:=by simp_all
   simp only[Ji,this,wc];rfl
  grind [PR]
theorem Su{k:IntKind}:∀ {l:List Int} {cs:List V},BG F (.int k) l cs->cs=l.map (V.int k):=by
 intro l cs a;have g:cs.length=l.length:=by rw[a.1];simp[Sh.sz]
 apply List.ext_getElem
 ·grind
 ·intro i c d;have b:i<l.length:=a8
  have:=a.2 i b;have e:(cs.drop<|i*Sh.sz (.int k)).take (Sh.sz<|.int k)=[cs[i]]:=by
   rw[show Sh.sz (.int k)=1 from rfl,Nat.mul_one,Zs c];rfl
  grind [DC]
theorem IK:∀ {l:List Int},Jv l=true->Eb (l.map<|V.int .u8)=some (KX l)
 |[],_=>rfl
 |x::l,h=>by
  unfold Jv at h;rw[ZC,Zc,Zc,w5,w5]at h;have a:=IK (l:=l) h.2;grind [Nat.blt_eq,Kx,Eb,KX]
theorem Nj{l:List Int}(h:Jv l=true)(n:Nat):Jv (l.take n)=true:=by
 grind [Jv]
theorem VT(p:SR B h0 F ρ st.nx st.ob h){ts:Array TypeId}{ps:List PV}{I:List V}(D:AJ F ρ st.nx ps I){v:PV}(a:(Sc C.T ts.toList ps st).To v st'):OK B h0 F ρ st h (Vo ps) (CF<|Li C.T h ts.toList I) v st':=by
 unfold Sc at a;split at a
 case h_2=>simp at a
 rename_i Y it id sz i n t;split at a
 case h_2=>simp at a
 rename_i e A s l hu G;split at a
 case h_2=>simp at a
 rename_i R w hi r;cases M:(Zd R.size 1&&Zd e A)with
 |false=>simp_all
 |true=>
  rw[M]at a;simp only[wc,AT,Zc,w5]at a;obtain⟨⟨⟨⟨⟨W,J⟩,k3⟩,k4⟩,S⟩,rfl,rfl⟩:=a;subst W;obtain⟨es,he⟩:=A4 r;have e2:s=.int .u8:=ae
  subst e2;have:w=l:=ae
  subst this;obtain⟨m,rfl⟩:=Int.eq_ofNat_of_zero_le<|Int.le_of_lt J;obtain⟨b,n',z,h1,h2,⟨cs,fz,rfl,h3,h4,h5⟩,h6,_⟩:=p.at G;have E:=h6 rfl;obtain⟨x,_,rfl,D,y,_,rfl,hy,rfl⟩:=D;obtain rfl:=BA hy;obtain rfl:=D.2 b n' h1;have P:=(p.own id b n' h1).2;have u:b∉h0.pin:=fun K=>(p.pn b K).2.2 id n' h1
  have d:∀j oj m,Aj (Df st.ob id) j=some oj->AA ρ id none j≠some (b,m):=by
   intro j oj m q o;rw[Bv]at q;split at q
   ·cases q
   ·rename_i g;simp only[AA,g,vb]at o;exact g<|p.inj j id oj _ b m n' q G o h1
  have k:=p.del id;have U:=Su h3;have O:cs.take m=(w.take m).map (V.int .u8):=by simp_all
  have hb:=IK<|Nj S m;have L:Li C.T h ts.toList [.ptr b<|0*sz+0,.int .i64 (m:Int)]=some (.str<|KX<|w.take m,h.kill b):=by
   rw[Zx];rw[t];show(match C.T.und Y,h.get b with
    |some (.pointer e),some (.cells cs A fz)=>(match C.T.inf e,Eb (cs.take m)with
     |some i,some l=>bif Zd i.size 1&&Zd e A&&Zj 0 m&&Zg m cs.length&&Zg m 9223372036854775807&&Zg fz.2 fz.1 then some (V.str l,h.kill b)else none
     |_,_=>none)
    |_,_=>none)=_
   have c1:Zj 0 m=true:=by simp_all
   have c2:Zg m cs.length=true:=(by simp_all);have c3:Zg m 9223372036854775807=true:=(by simp_all);have c4:Zg fz.2 fz.1=true:=(by simp_all);grind
  rw[L];refine⟨_,_,F,AA ρ id none,.inl rfl,MT _,k.kill d E P u,Le.E0 id,rfl,rfl,Zb _,fun c _=>?_⟩;rw[H.BI];by_cases Z:c=b
  ·exact .inr ⟨id,Za.2 rfl,n',Z▸h1⟩
  grind
end
section
variable {B:Nat}{h0:H0}{C:Ctx}{F F1 F':Fz}{ρ:BX}{N:Nat}{st st':Ag}{fr:Fr}{h h':H}
def PC(F:Fz)(p:PV)(v:V):Prop:=∀ρ N,PR F ρ N p v
def Hv(F:Fz)(ps:List PV)(vs:List V):Prop:=∀ρ N,AJ F ρ N ps vs
theorem Le.PE(a:∀b cs,F b=some cs->F1 b=some cs):Le F ρ N F1 ρ N:=⟨a,(by simp),Zb _⟩
theorem PC.mono(c:∀b cs,F b=some cs->F1 b=some cs){p:PV}{v:V}(a:PC F p v):PC F1 p v:=fun ρ N=>(a ρ N).mono<|Le.PE c
theorem Hv.cons{p:PV}{ps:List PV}{v:V}{vs:List V}(a:PC F p v)(b:Hv F ps vs):Hv F (p::ps) (v::vs):=fun ρ N=>(AG ..).2 ⟨a ρ N,b ρ N⟩
theorem Hv.dc{s:Sh}{ps:List PV}{vs:List V}{x:s.T}(a:Hv F ps vs)(b:Bp s ps=some x):DC F s x vs:=Bj (a (fun _=>none) 0) b
theorem PC.AX:∀ {s:Sh} {x:s.T} {cs:List V},DC F s x cs->(s.Ho=true->PC F (AX s x) (.agg cs))/\(s.Ho=false->∀v,cs=[v]->PC F (AX s x) v)
 | .pair a b,x,cs,h=>⟨fun _ ρ N=>by simp_all [ZF,PR,Bf],fun e=>by cases e⟩
 | .unit,x,cs,h=>⟨fun _ ρ N=>by simp_all [DC,ZF,PR],fun e=>by cases e⟩
 | .int _,x,cs,h=>(by grind [ZF,PR,Sh.Ho,PC])
 | .bool,x,cs,h=>(by grind [ZF,PR,Sh.Ho,PC])
 | .str,x,cs,h=>(by grind [ZF,PR,Sh.Ho,PC])
 | .list _,x,cs,h=>(by grind [ZF,PR,Sh.Ho,PC])
 | .nlist _,x,cs,h=>(by grind [ZF,PR,Sh.Ho,PC])
 | .fnv,x,cs,h=>⟨fun e=>(by cases e),fun _ v c ρ N=>by
   subst c;simp only[DC,Zo,va]at h;subst h;unfold ZF;cases (x:Option Fn)<;>simp[PR]⟩
 | .ptr s,x,cs,h=>(by grind [DC,ZF,PR,Sh.Ho,PC])
theorem SR.Xs{ob c:Ob}(a:SR B h0 F ρ N ob h)(he:∀j,Aj c j=Aj ob j):SR B h0 F ρ N c h:=
 ⟨fun id o d=>a.obj id o<|he id▸d,fun id id' o o' b n n' g i=>a.inj id id' o o' b n n' (he id▸g) ae,a.frz,a.own,fun id e=>a.dead id ae,a.old,a.lt,a.le,a.fo,a.gl,a.pn⟩
theorem Vg{s:Sh}{l:List s.T}{cs:List V}{b:Nat}(e:F b=some cs)(g:BG F s l cs){off len:Nat}(j:off+len<=l.length){cap o:Nat}(c:len<=cap)(d:o=0\/o=s.sz):
  DC F (.list s) ((l.drop off).take len) [.sl b (off*s.sz) len cap o]:=by
 have a:((l.drop off).take len).length=len:=ae
 refine⟨_,rfl,.inr ⟨b,off*s.sz,cap,o,cs,by rw[a],by omega,e,?_,d,fun i k=>?_⟩⟩
 ·rw[a,g.1, <-ZA];simp_all [Zk]
 grind [BG]
theorem Gs(st:Ag)(p:PV):(AD st p).nx=st.nx/\(AD st p).fr=st.fr/\(AD st p).n=st.n:=by
 unfold AD;split
 ·split<;>exact⟨rfl,rfl,rfl⟩
 simp
theorem By:∀(ps:List PV) (st:Ag),(Av ps st).nx=st.nx/\(Av ps st).fr=st.fr/\(Av ps st).n=st.n
 |[],_=>⟨rfl,rfl,rfl⟩
 |p::ps,st=>by
  obtain⟨b,c,a⟩:=By ps<|AD st p;grind [Gs,Av]
theorem Eu:∀(ps a:List PV) (st:Ag),Av (ps++a) st=Av a (Av ps st)
 |[],_,_=>rfl
 |p::ps,a,st=>Eu ps a<|AD st p
def BU:Option Obj->Option Obj->Prop
 |some (.arr _ e s l),o=>∃fz,o=some (.arr fz e s l)
 |a,b=>b=a
theorem BU.refl(o:Option Obj):BU o o:=by
 cases o with
 |none=>rfl
 |some o=>cases o<;>first|rfl|exact⟨_,rfl⟩
theorem G4(st:Ag)(p:PV)(j:Nat):BU (st.obj j) ((AD st p).obj j):=by
 unfold AD;split
 case h_2=>exact BU.refl _
 split
 case h_2=>exact BU.refl _
 rename_i id _ _ _ _ _ fz e s l a;show BU (Aj st.ob j)<|Aj (BT st.ob id<|.arr true e s l) j;rw[Dv _ _ _ _<|by show(st.obj id).isSome=true;grind];split
 ·rename_i b;subst b;show BU (st.obj j) _;rw[a];exact⟨_,rfl⟩
 ·exact BU.refl _
theorem RV{st st':Ag}(h:∀id,BU (st.obj id)<|st'.obj id)(p:PV):AV st' p=AV st p:=by
 cases p<;>try rfl
 case fn f a c=>cases a<;>cases c<;>rfl
 unfold AV;rename_i id sz off len cap;have:=h id;cases b:st.obj id with
 |none=>rw[b]at this;simp only[b,show st'.obj id=none from this]
 |some o=>
  rw[b]at this;cases o with
  |arr fz e s l=>
   obtain⟨fz',d⟩:=this;grind
  |box _=>simp only[b,show st'.obj id=_ from this]
  |tbox _ _=>simp only[b,show st'.obj id=_ from this]
  |map _ _ _=>simp only[b,show st'.obj id=_ from this]
  |siter _ _=>simp only[b,show st'.obj id=_ from this]
  |lp _ _ _ _ _ _ _ _=>simp only[b,show st'.obj id=_ from this]
theorem Gx{st st':Ag}(h:∀id,BU (st.obj id)<|st'.obj id):∀ps:List PV,Bt st' ps=Bt st ps
 |[]=>rfl
 |p::ps=>by unfold Bt;rw[RV h p,Gx h ps]
theorem BU.trans{a b c:Option Obj}(d:BU a b)(g:BU b c):BU a c:=by
 cases a with
 |none=>have:b=none:=d;grind
 |some o=>
  cases o with
  |arr fz e s l=>obtain⟨fz',rfl⟩:=d;exact g
  |box _=>have:b=_:=d;grind
  |tbox _ _=>have:b=_:=d;grind
  |map _ _ _=>have:b=_:=d;grind
  |siter _ _=>have:b=_:=d;grind
  |lp _ _ _ _ _ _ _ _=>have:b=_:=d;grind
theorem Hk:∀(ps:List PV) (st:Ag) (id:Nat),BU (st.obj id)<|(Av ps st).obj id
 |[],_,_=>BU.refl _
 |p::ps,st,id=>(G4 st p id).trans<|Hk ps (AD st p) id
theorem LN{st st':Ag}(h:∀id,BU (st.obj id)<|st'.obj id)(s:Sh)(p:PV):Dz st' s p=Dz st s p:=by
 grind [Dz,Gx]
theorem Gw{st st':Ag}(h:∀id,BU (st.obj id)<|st'.obj id):∀(l:List Sh) (ps:List PV),Bm st' l ps=Bm st l ps
 |[],[]=>rfl
 |[],_::_=>rfl
 |[a],[p]=>LN h a p
 |[a],[]=>rfl
 |[a],_::_::_=>rfl
 |a::b::l,[]=>rfl
 |a::b::l,p::ps=>by unfold Bm;rw[LN h a p,Gw h (b::l) ps]
theorem Hc(r:SR B h0 F ρ st.nx st.ob h){p:PV}{v:V}(hp:PR F ρ st.nx p v):
  ∃F1,SR B h0 F1 ρ (AD st p).nx (AD st p).ob h/\(∀b cs,F b=some cs->F1 b=some cs)/\∀x,AV st p=some (true,x)->PC F1 x v:=by
 have same:∀ {q:PV},(∀x,AV st q=some (true,x)->PC F x v)->AD st q=st->∃F1,SR B h0 F1 ρ (AD st q).nx (AD st q).ob h/\(∀b cs,F b=some cs->F1 b=some cs)/\∀x,AV st q=some (true,x)->PC F1 x v:=
  fun E h2=>⟨F,by grind,fun _ _ h=>h,E⟩
 cases p with
 |sl id sz off len cap=>
  cases K:st.obj id with
  |none=>grind [AV,AD]
  |some o=>
   cases o with
   |box _=>grind [AV,AD]
   |tbox _ _=>grind [AV,AD]
   |map _ _ _=>grind [AV,AD]
   |siter _ _=>grind [AV,AD]
   |lp _ _ _ _ _ _ _ _=>grind [AV,AD]
   |arr fz e s l=>
    obtain⟨b,n,x,E,h2,⟨cs,fz',rfl,U,h5,h6⟩,h7,h8⟩:=r.at K;have Y:AD st (.sl id sz off len cap)=st.setObj id (.arr true e s l):=by simp[AD,K]
    have z:∀j,Aj (BT st.ob id<|.arr true e s l) j=if j=id then some (.arr true e s l)else Aj st.ob j:=(by grind [Dv,Ag.obj])
    have fin:∀ {G:Fz},G b=some cs->(∀b cs,F b=some cs->G b=some cs)->∀x,AV st (.sl id sz off len cap)=some (true,x)->PC G x v:=by
     intro G hG O x t ρ' N';simp only[AV,K]at t;cases u:Zd sz s.sz with
     |false=>grind
     |true=>
      rw[u]at t;simp only[wc,Zf,Zl,w5]at t;obtain⟨D,rfl⟩:=t;have u:=Ze u;subst u;unfold PR;rcases hp.2 b n E with⟨M,W,o,Z,rfl⟩|⟨rfl,rfl,Z,rfl|⟨J,rfl,k4⟩⟩
      ·exact Vg hG (U.mono O) D M Z
      ·simp[DC]
      ·simp only[List.take_zero,DC];refine⟨_,rfl,.inr ⟨b,J,0,0,cs,rfl,Zb _,hG,?_,.inl rfl,(by simp)⟩⟩;simp only[List.length_nil,Zx,Nat.add_zero];rw[U.1];exact Zn k4 (by simp_all [Zk])
    cases T:fz with
    |true=>
     subst T;obtain⟨cs',t',fz2,M,W⟩:=h8 rfl;refine⟨F,?_,fun _ _ h=>h,ae⟩;grind [SR.Xs,Ag.setObj,Ag.obj]
    |false=>
     have g:∀c cs',F c=some cs'->(fun c=>if c=b then some cs else F c) c=some cs':=by
      grind
     refine⟨fun c=>if c=b then some cs else F c,?_,g,ae⟩;rw[Y];have D:Le F ρ st.nx (fun c=>if c=b then some cs else F c) ρ st.nx:=Le.PE g;have A:∀k ok,Aj (BT st.ob id<|.arr true e s l) k=some ok->∃o2,Aj st.ob k=some o2:=by
      intro k ok hk;by_cases ek:k=id
      ·exact⟨_,ek▸K⟩
      grind
     refine⟨fun j oj d=>?_,fun i j oi oj c m m' hi d L P=>?_,fun c cs' I=>?_,r.own,fun j d=>?_,r.old,r.lt,r.le,fun c cs' I=>?_,r.gl,r.pn⟩
     ·have d:Aj (BT st.ob id<|.arr true e s l) j=some oj:=d;rw[z]at d;by_cases R:j=id
      ·subst R;simp only[wi,Zf]at d;subst d;refine⟨b,n,_,E,h2,⟨cs,fz',rfl,U.mono g,h5,h6⟩,fun e=>(by cases e),(by simp)⟩
      ·rw[wa R]at d;obtain⟨c,m,y,L,P,g3,g4,g5⟩:=r.obj j oj d;have hne:c≠b:=fun S=>R<|r.inj j id oj _ c m n d K L<|S▸E
       exact⟨c,m,y,L,P,g3.mono D,ae,ae⟩
     ·obtain⟨_,M⟩:=A i oi hi;obtain⟨_,W⟩:=A j oj d;exact r.inj i j _ _ c m m' M W L P
     ·split at I
      ·grind
      ·exact r.frz c cs' I
     ·have d:Aj (BT st.ob id<|.arr true e s l) j=none:=d;rw[z]at d;split at d
      ·cases d
      ·exact r.dead j d
     ·split at I
      ·rename_i S;subst S;exact .inr (r.own id c n E).2
      ·exact r.fo c cs' I
 |dat s x=>exact same (fun y w ρ' N'=>by simp only[AV,Zf,Zl,true_and]at w;grind [PR]) rfl
 |bl b=>exact same (fun y w ρ' N'=>by simp only[AV,Zf,Zl,true_and]at w;grind [PR]) rfl
 |nil=>exact same (fun y w ρ' N'=>by simp only[AV,Zf,Zl,true_and]at w;grind [PR]) rfl
 |B4 s x off=>exact same (fun y w ρ' N'=>by simp only[AV,Zf,Zl,true_and]at w;grind [PR]) rfl
 |any|ub|yl _|nilp|nilm|nilf|nili|agg _|tup _|ptr _ _|eptr _ _ _ _|mp _=>exact same (fun x t=>by simp[AV]at t) rfl
 |fn f a c=>cases a with
  |cons _ _=>exact same (fun x t=>by simp[AV]at t) rfl
  |nil=>cases c with
   |cons _ _=>exact same (fun x t=>by simp[AV]at t) rfl
   |nil=>exact same (fun y w ρ' N'=>by simp only[AV,Zf,Zl,true_and]at w;grind [PR,AJ]) rfl
theorem El:∀ {ps:List PV} {vs:List V} {st:Ag} {F:Fz},SR B h0 F ρ st.nx st.ob h->AJ F ρ st.nx ps vs->
  ∃F1,SR B h0 F1 ρ (Av ps st).nx (Av ps st).ob h/\(∀b cs,F b=some cs->F1 b=some cs)/\∀g,Bt st ps=some (true,g)->Hv F1 g vs
 |[],vs,st,F,e,j=>⟨F,e,fun _ _ h=>h,(by grind [Bt,Hv,AJ])⟩
 |p::ps,vs,st,F,e,j=>by
  obtain⟨v,vs,rfl,o,r⟩:=j;obtain⟨F1,g1,g2,g3⟩:=Hc e o;have i:AJ F1 ρ (AD st p).nx ps vs:=by rw[(Gs st p).1];exact r.mono<|Le.PE g2
  obtain⟨k,s,l,t⟩:=El g1 i;refine⟨k,s,ae,fun g a=>?_⟩;unfold Bt at a;split at a
  case h_2=>cases a
  rename_i c x d m q e2;simp only[Zf,Zl,Zc]at a;obtain⟨⟨rfl,rfl⟩,rfl⟩:=a;exact Hv.cons ((g3 x q).mono l) (by grind [Gx,G4])
theorem SF(q:SR B h0 F ρ st.nx st.ob h){t:TypeId}{n:Nat}{l:List (Nat×PV)}{l':List (Nat×V)}(G:Vb F ρ st.nx l l'){v:PV}(a:(K1 C.T t n l st).To v st'):OK B h0 F ρ st h [] (CF<|Cm C.T h t n l') v st':=by
 unfold K1 at a;split at a
 case h_2=>simp at a
 rename_i e L;split at a
 case h_2=>simp at a
 rename_i i s J Z;cases p:(Zg (Nat.mul n i.size) 16777216&&Zj 0 i.zero.length&&Zd i.zero.length i.size&&Zd i.size s.sz)with
 |false=>rw[p]at a;simp at a
 |true=>
  rw[p]at a;simp only[Zc]at p;obtain⟨⟨⟨c1,I⟩,r⟩,K⟩:=p;simp only[wc]at a;split at a
  case h_2=>simp at a
  rename_i cs m;split at a
  case h_2=>
   split at a
   case h_2=>simp at a
   rename_i c cs' S;split at a
   case h_2=>simp at a
   rename_i el d;simp only[AT]at a;obtain⟨rfl,rfl,rfl⟩:=a;have Y:=Ze r;have y:=Ze K;have z:AJ F ρ st.nx (IM (i.zero.map NH) n) (CI i.zero<|n*i.size):=by
    grind [D5,FL]
   obtain⟨j,k,w⟩:=Fe q G z m;have b:j.length=n*s.sz:=by
    rw[<-y];rw[GZ k];simp[CI]
   obtain⟨F1,U,W,O⟩:=El q w;obtain⟨A,M⟩:=ET (O cs' S ρ st.nx) d b;have u:Cm C.T h t n l'=some (.sl h.nx 0 n n 0,h.push<|.cells j e (0,0)):=by
    have g:Zg (n*i.size) 16777216=true:=c1;simp only[Cm,L,J,g,I,r,Bool.and_self,wc,k,EB]
   rw[u];obtain⟨E,R,P⟩:=By cs st;have D:=OK.new (F:=F1) (ρ:=ρ) (st:=Av cs st) U (o:=.arr false e s el) (x:=.cells j e (0,0)) (n:=n) (v:=.sl (Av cs st).nx s.sz 0 n none) (v':=.sl h.nx 0 n n 0) rfl ⟨_,_,rfl,a8,Zb _,A⟩ (IV<|.inl rfl);obtain⟨v',h',F',ρ',q1,q2,q3,q4,q5,q6,q7,q8⟩:=D;rw[E]at q2;exact⟨v',h',F',ρ',q1,q2,q3,(by rw[E]at q4;exact(Le.PE W).trans q4),q5.trans R,q6.trans P,q7,q8⟩
  rename_i el d;obtain⟨rfl,rfl⟩:=a;have Y:=Ze r;have y:=Ze K;have z:AJ F ρ st.nx (IM (i.zero.map NH) n) (CI i.zero<|n*i.size):=by
   grind [D5,FL]
  obtain⟨j,k,w⟩:=Fe q G z m;have b:j.length=n*s.sz:=by
   rw[<-y];rw[GZ k];simp[CI]
  obtain⟨A,M⟩:=ET w d b;have u:Cm C.T h t n l'=some (.sl h.nx 0 n n 0,h.push<|.cells j e (0,0)):=by
   have g:Zg (n*i.size) 16777216=true:=c1;simp only[Cm,L,J,g,I,r,Bool.and_self,wc,k,EB]
  rw[u];exact OK.new q (o:=.arr false e s el) (n:=n) rfl ⟨_,_,rfl,a8,Zb _,A⟩ (IV<|.inl rfl)
end
section
variable {B:Nat}{h0:H0}{F:Fz}{ρ:BX}{N:Nat}{C:Ctx}{st st':Ag}{fr:Fr}{h h':H}
theorem BR{x:Operand}{k:PV->PO}{v:PV}:(v1 st x k).To v st'↔∃p,Jj st x=some p/\(k p).To v st':=by
 unfold v1;cases Jj st x with
 |none=>simp
 |some p=>simp
theorem Q9(b:FP F ρ N st fr){x:Option Operand}{k:Option PV->PO}{v:PV}(a:(o1 st x k).To v st'):∃p y,Mx C fr x=some y/\My F ρ N p y/\(k p).To v st':=by
 cases x with
 |none=>exact⟨none,none,rfl,rfl,a⟩
 |some x=>
  obtain⟨p,c,d⟩:=BR.1 a;obtain⟨y,g1,g2⟩:=AQ (C:=C) b c;exact⟨some p,some y,by simp[Mx,g1],⟨y,rfl,g2⟩,d⟩
theorem Pp(c:SR B h0 F ρ st.nx st.ob h){b:Builtin}{ts:Array TypeId}{ps:List PV}{e:List V}(d:AJ F ρ st.nx ps e){v:PV}(a:(EJ C.T b ts ps st).To v st'):
  OK B h0 F ρ st h (match b with| .append| .clear=>CN ps| .unsafeString=>Vo ps|_=>[]) (Cq C h b ts e) v st':=by
 unfold EJ at a;split at a
 case h_8=>simp at a
 case h_7=>exact VT c d a
 case h_6=>exact TR c d a
 case h_5=>exact Tl c d a
 case h_1=>exact Wz c d a
 case h_2=>exact SU c d a
 case h_3=>exact Xm (g:=SJ) c (by grind [SJ,imax]) d a
 case h_4=>exact Xm (g:=Tq) c (fun k x y=>by rfl) d a
theorem Tk(E:Rel B h0 F ρ st fr h){o:Oper}{v:PV}(e:(pop o.op C.T st).To v st'):
  ∃L,OK B h0 F ρ st h L (Dp C fr h o) v st'/\∀sp J,Du sp st o.op=some J->∀i∈L,i∈J:=by
 have nil:∀ {d:Option OR} {op:Op},OK B h0 F ρ st h [] d v st'->∃L,OK B h0 F ρ st h L d v st'/\∀sp J,Du sp st op=some J->∀i∈L,i∈J:=ae;have g:∀ {x p},Jj st x=some p->∃y,ev C fr x=some y/\PR F ρ st.nx p y:=fun hp=>AQ E.fp hp
 unfold pop at e;rw[Bk];unfold Ds;cases U:o.op<;>rw[U]at e<;>simp only[Fg,GD]at e<;>simp only
 case move x|assign x=>
  simp only[NK,JK]at e;obtain⟨G,rfl⟩:=e;obtain⟨y,D,A⟩:=g G;refine nil ?_;rw[D];exact Zm E.sr rfl A
 case pick c a b=>
  simp only[R3,BR]at e;obtain⟨p,G,q,K,r,W,e⟩:=e;obtain⟨x,D,A⟩:=g G;obtain⟨y,g3,g4⟩:=g K;obtain⟨z,g5,g6⟩:=g W;obtain⟨t,rfl,S⟩:=VG E.sr A g4 g6 e;grind
 case alloc t=>exact nil<|Ts E.sr e
 case box t x=>
  simp only[U1,BR]at e;obtain⟨p,G,e⟩:=e;obtain⟨y,D,A⟩:=g G;split at e
  case h_2=>simp at e
  rename_i cs V;cases Z:Det.Gg (Gd st) cs with
  |false=>simp_all
  |true=>
  rw[Z]at e;simp only[wc,AU]at e;obtain⟨rfl,rfl⟩:=e;refine nil ?_;rw[D];exact WQ E.sr A V (by rw[<-CQ];exact Z)
 case build t ps=>
  simp only[Oe]at e;split at e
  case h_2=>simp at e
  rename_i l M;obtain⟨l',D,A⟩:=Ja (C:=C) E.fp M;refine nil ?_;rw[D];exact Ty E.sr A e
 case buildSlice t n ps=>
  simp only[Lu]at e;split at e
  case h_2=>simp at e
  rename_i l M;obtain⟨l',D,A⟩:=Ja (C:=C) E.fp M;refine nil ?_;rw[D];exact SF E.sr A e
 case load t x=>
  simp only[RD,BR]at e;obtain⟨p,G,e⟩:=e;obtain⟨y,D,A⟩:=g G;refine nil ?_;rw[D];exact RQ E.sr A e
 case store t x y=>
  simp only[N1,BR]at e;obtain⟨p,G,q,K,e⟩:=e;obtain⟨a,D,A⟩:=g G;obtain⟨b,g3,g4⟩:=g K;obtain⟨id,hid,S⟩:=S0 E.sr A g4 e;refine⟨[id],by grind,fun sp J O=>?_⟩;simp only[Du,G]at O;grind
 case nilCheck x=>
  simp only[I6,BR]at e;obtain⟨p,G,e⟩:=e;obtain⟨y,D,A⟩:=g G;rw[D];split at e
  case h_4=>simp at e
  case h_1=>
   rename_i id off;cases M:Ei (st.obj id)with
   |false=>simp_all
   |true=>
    rw[M]at e;simp only[wc,AU]at e;obtain⟨rfl,rfl⟩:=e;obtain⟨b,n,k1⟩:=E.sr.live M;have I:=A;simp only[PR]at I;obtain rfl:=I.2 b n k1;exact nil<|Zm E.sr rfl A
  case h_2=>
   rename_i id sz j off;cases M:Ei (st.obj id)with
   |false=>simp_all
   |true=>
    rw[M]at e;simp only[wc,AU]at e;obtain⟨rfl,rfl⟩:=e;obtain⟨b,n,k1⟩:=E.sr.live M;have I:=A;simp only[PR]at I;obtain rfl:=I.2 b n k1;exact nil<|Zm E.sr rfl A
  case h_3=>
   simp only[AU]at e;obtain⟨rfl,rfl⟩:=e;have I:=A;simp only[PR]at I;obtain⟨b,o',cs,rfl,_⟩:=I;exact nil<|Zm E.sr rfl A
 case binOp op t x y t2=>
  simp only[UY,BR]at e;obtain⟨p,G,q,K,e⟩:=e;obtain⟨a,D,A⟩:=g G;obtain⟨b,g3,g4⟩:=g K;refine nil ?_;rw[D,g3];split at e
  case h_2=>exact XB E.sr A g4 e
  rename_i r R;simp only[AU]at e;obtain⟨rfl,rfl⟩:=e;unfold UR at R;split at R
  case h_3=>cases R
  all_goals
   rename_i m hu;cases Y:(Ot x||Ot y)with
   |false=>grind
   |true=>
    rw[Y]at R;cases R;simp only[PR]at A g4;subst A g4;exact Zm E.sr (by simp only[Fx,TM,hu,Y,wc,AE])<|So _
 case unOp op t x=>
  simp only[Xh,BR]at e;obtain⟨p,G,e⟩:=e;obtain⟨y,D,A⟩:=g G;refine nil ?_;rw[D];exact XV E.sr A e
 case convert s d x=>
  simp only[RL,BR]at e;obtain⟨p,G,e⟩:=e;obtain⟨y,D,A⟩:=g G;refine nil ?_;rw[D];exact Vz E.sr A e
 case makeFunc f a b=>
  simp only[Qu]at e;split at e
  case h_2=>simp at e
  rename_i x y hx hy;simp only[AU]at e;obtain⟨rfl,rfl⟩:=e;obtain⟨u,D,A⟩:=Cx (C:=C) E.fp hx;obtain⟨w,g3,g4⟩:=Cx (C:=C) E.fp hy;refine nil ?_;rw[D,g3];exact Zm E.sr rfl (by unfold PR;grind)
 case makeMap t r=>
  simp only[N0]at e;split at e
  case h_2=>simp at e
  refine nil ?_;exact Un E.sr e
 case lookup t x i ok=>
  simp only[LI,BR]at e;obtain⟨p,G,q,K,e⟩:=e;obtain⟨a,D,A⟩:=g G;obtain⟨b,g3,g4⟩:=g K;refine nil ?_;rw[D,g3];exact SP E.sr A g4 e
 case mapUpdate t m k x|insert t m k x=>
  simp only[HV,BR]at e;obtain⟨p,G,q,K,r,W,e⟩:=e;obtain⟨a,D,A⟩:=g G;obtain⟨b,g3,g4⟩:=g K;obtain⟨c,g5,g6⟩:=g W;obtain⟨id,rfl,S⟩:=Rh E.sr A g4 g6 e;grind [Du]
 case makeSlice t l c=>
  simp only[QX,BR]at e;obtain⟨p,G,q,K,e⟩:=e;obtain⟨a,D,A⟩:=g G;obtain⟨b,g3,g4⟩:=g K;refine nil ?_;rw[D,g3];exact Vr E.sr A g4 e
 case slice t x lo hi mx=>
  simp only[OS,BR]at e;obtain⟨p,G,e⟩:=e;obtain⟨a,D,A⟩:=g G;obtain⟨l,l',k1,k2,e⟩:=Q9 (C:=C) E.fp e;obtain⟨m,m',k3,k4,e⟩:=Q9 (C:=C) E.fp e;obtain⟨n,n',k5,k6,e⟩:=Q9 (C:=C) E.fp e;refine nil ?_;rw[D,k1,k3,k5];exact UA E.sr A k2 k4 k6 e
 case fieldAddr t x f=>
  simp only[Oa,BR]at e;obtain⟨p,G,e⟩:=e;obtain⟨y,D,A⟩:=g G;refine nil ?_;rw[D];exact TP E.sr A e
 case field t x f=>
  simp only[NY,BR]at e;obtain⟨p,G,e⟩:=e;obtain⟨y,D,A⟩:=g G;refine nil ?_;rw[D];exact Uj E.sr A e
 case indexAddr t x i=>
  simp only[OF,BR]at e;obtain⟨p,G,q,K,e⟩:=e;obtain⟨a,D,A⟩:=g G;obtain⟨b,g3,g4⟩:=g K;refine nil ?_;rw[D,g3];exact T9 E.sr A g4 e
 case index t x i=>
  simp only[OB,BR]at e;obtain⟨p,G,q,K,e⟩:=e;obtain⟨a,D,A⟩:=g G;obtain⟨b,g3,g4⟩:=g K;refine nil ?_;rw[D,g3];exact TC E.sr A g4 e
 case extract x i=>
  simp only[JG,BR]at e;obtain⟨p,G,e⟩:=e;obtain⟨y,D,A⟩:=g G;refine nil ?_;rw[D];exact Pg E.sr A e
 case range t x=>
  simp only[N4,BR]at e;obtain⟨p,G,e⟩:=e;obtain⟨y,D,A⟩:=g G;refine nil ?_;rw[D];exact Ue E.sr A e
 case next x i=>
  simp only[Qs,BR]at e;obtain⟨p,G,e⟩:=e;obtain⟨y,D,A⟩:=g G;obtain⟨rfl,id,off,rfl,S⟩:=VN E.sr A e;grind [Du]
 case call c=>
  simp only[K2]at e;split at e
  case h_1=>simp at e
  rename_i args P;obtain⟨args',D,A⟩:=Cx (C:=C) E.fp P;split at e
  case h_2=>simp at e
  case h_1=>
   rename_i b hb;split at e
   case h_1=>
    obtain⟨id,qs,rfl,S⟩:=QZ E.sr A e;refine⟨[id],by rw[hb,D];exact S,fun sp J O=>?_⟩;grind [Du]
   case h_2=>
   have:=Pp E.sr A e;grind [Du,CN,Vo]
end
section
variable {B:Nat}{h0:H0}{F:Fz}{ρ:BX}{N:Nat}{X:AW}{st st':Ag}{fr:Fr}{h h':H}{Q:PV->Ob->Prop}{n:Nat}
@[simp] theorem Bd(st:Ag)(t:Nat)(p:PV)(s:Nat):(st.set t p).get s=if s=t then p else st.get s:=by
 unfold Ag.get Ag.set;grind [PM.Bd]
theorem Rel.set(a:Rel B h0 F ρ st fr h){t:Nat}{p:PV}{x:V}(b:PR F ρ st.nx p x):Rel B h0 F ρ (st.set t p) ⟨fr.n,fr.m.set t<|some x⟩ h:=by
 refine⟨⟨a.fp.n,fun s=>?_⟩,a.sr⟩;rw[Bd];unfold Fr.get;simp only[PM.Bd];split
 ·exact b
 ·exact a.fp.slot s
theorem Rel.note(a:Rel B h0 F ρ st fr h){t:Nat}{p:PV}(b:PR F ρ st.nx p (fr.get t)):Rel B h0 F ρ (st.set t p) fr h:=by
 refine⟨⟨a.fp.n,fun s=>?_⟩,a.sr⟩;rw[Bd];split
 ·rename_i e;subst e;exact b
 ·exact a.fp.slot s
theorem Rel.put(b:Rel B h0 F ρ st fr h){d:Option Nat}{p:PV}{x:V}(c:PR F ρ st.nx p x)(a:st.put d p=some st'):∃fr',fr.put d x=some fr'/\Rel B h0 F ρ st' fr' h/\st'.nx=st.nx/\st'.ob=st.ob:=by
 unfold Ag.put at a;unfold Fr.put;cases d with
 |none=>grind
 |some t=>
  simp only at a ⊢;have g:st.n=fr.n:=b.fp.n;rw[g]at a;cases e:Zj t fr.n with
  |false=>grind
  |true=>
   rw[e]at a;simp only[wc,Zf]at a;subst a;exact⟨_,rfl,b.set c,rfl,rfl⟩
structure Bu(B:Nat)(h0:H0)(F:Fz)(ρ:BX)(N:Nat)(h:H)(st':Ag)(fr':Fr)(h':H)(F':Fz)(ρ':BX):Prop where
 rel:Rel B h0 F' ρ' st' fr' h'
 le:Le F ρ N F' ρ' st'.nx
 nx:h.nx<=h'.nx
theorem Bu.refl(a:Rel B h0 F ρ st fr h):Bu B h0 F ρ st.nx h st fr h F ρ:=⟨a,Zi,Zb _⟩
theorem Bu.trans{F' g:Fz}{ρ' c:BX}{d:Ag}{fr' e:Fr}{i:H}(a:Bu B h0 F ρ N h st' fr' h' F' ρ')(b:Bu B h0 F' ρ' st'.nx h' d e i g c):Bu B h0 F ρ N h d e i g c:=
 ⟨b.rel,a.le.trans b.le,Zn a.nx b.nx⟩
def WS(X:AW)(ρ:BX)(h:H)(args':List V):U3->Cl->Prop
 | .fn g,c=>c=.fn g args'/\X.C.prim g=none/\∃i,X.C.fn g=some i
 | .rnd id,c=>∃b n ls,ρ id=some (b,n)/\h.get b=some (.loop ls)/\args'.length=ls.ps.size/\c=.rnd b ls (DF ls.ps.toList args' ls.fr)
inductive Hl (X:AW) (ρ:BX) (h:H) (args':List V):U3->List (V×H)->Prop where
 |Aq {g:U3} {c:Cl} {l:List (V×H)} {M:Nat}:WS X ρ h args' g c->(∀m,M<=m->Det.Aq X.C m c h=some l)->Hl X ρ h args' g l
 |prim {g:FuncId} {q:List V->H->Option (V×H)} {x:V×H}:X.C.prim g=some q->q args' h=some x->Hl X ρ h args' (.fn g) [x]
def CC(B:Nat)(h0:H0)(X:AW)(nd:Bool)(call:CX):Prop:=
 ∀ {Q:PV->Ob->Prop} {n:Nat} {g:U3} {args:List PV} {st:Ag} {k:PV->Ag->Tr},Ev X Q n (call g args st k)->∀ {F:Fz} {ρ:BX} {fr:Fr} {h:H} {args':List V},Rel B h0 F ρ st fr h->AJ F ρ st.nx args args'->
  ∃l,Hl X ρ h args' g l/\(nd=false->∃x,l=[x])/\
   ∀x∈l,∃n',n'<=n/\∃r st',Ev X Q n' (k r st')/\∃F' ρ',PR F' ρ' st'.nx r x.1/\Bu B h0 F ρ st.nx h st' fr x.2 F' ρ'/\(∀a,g=.fn a->∀sp,X.sp a=some sp->∀b,b<h.nx->x.2.get b=h.get b)
theorem Ev.Cp{c:Bool}{a b:Tr}(he:Ev X Q n (.ite c a b)):(c=true/\Ev X Q n a)\/(c=false/\Ev X Q n b):=by
 cases he with
 |ite d e=>
  grind
theorem Ev.LD{a b:Tr}(he:Ev X Q n (.both a b)):Ev X Q n a/\Ev X Q n b:=by
 cases he with
 |both c d=>grind
theorem Ev.Ae:¬Ev X Q n .fail:=fun h=>by cases h
theorem Ev.OW{v:PV}{ob:Ob}(he:Ev X Q n (.leaf v ob)):Q v ob:=by
 cases he with
 |leaf h=>exact h
theorem G5(k:Rel B h0 F ρ st fr h){ops:Array Oper}{o:Oper}{yes no:Ag->Tr}(he:Ev X Q n (guarded ops o st yes no)):
  ∃g,Rel B h0 F ρ g fr h/\g.nx=st.nx/\g.ob=st.ob/\((Ar fr ops o=true/\Ev X Q n (yes g))\/(Ar fr ops o=false/\Ev X Q n (no g))):=by
 unfold guarded at he;unfold Ar;cases r:o.guard with
 |none=>grind
 |some q=>
  obtain⟨j,e⟩:=q;rw[r]at he;simp only at he ⊢;cases v:(ops[j]?).bind (·.dst)with
  |none=>grind [Ev.Ae]
  |some t=>
   rw[v]at he;simp only at he ⊢;rw[show st.n=fr.n from k.fp.n]at he;cases p:Zj t fr.n with
   |false=>grind [Ev.Ae]
   |true=>
    rw[p]at he;have i:=k.fp.slot t;split at he
    case h_1=>
     rename_i b d;rw[d]at i;rw[IY i];grind
    case h_2=>
     rename_i b d;rw[d]at i;have m:=Gb i;have note:∀c:Bool,b=c->Rel B h0 F ρ (st.set t<|.bl c) fr h:=by
      rintro c rfl;exact k.note (by rw[m];rfl)
     cases e with
     |true=>
      rcases he.Cp with⟨a,he⟩|⟨a,he⟩
      ·exact⟨_,note true a,rfl,rfl,ae⟩
      ·exact⟨_,note false a,rfl,rfl,ae⟩
     |false=>
      rcases he.Cp with⟨a,he⟩|⟨a,he⟩
      ·exact⟨_,note true a,rfl,rfl,ae⟩
      ·exact⟨_,note false a,rfl,rfl,ae⟩
    case h_5=>grind [Ev.Ae]
    case h_4=>
     rename_i d;rw[d]at i;obtain⟨b,m⟩:=i;have note:∀c:Bool,b=c->Rel B h0 F ρ (st.set t<|.bl c) fr h:=by
      rintro c rfl;exact k.note (by rw[m];rfl)
     obtain⟨u,s⟩:=he.LD;cases b with
     |true=>
      cases e with
      |true=>exact⟨_,note true rfl,rfl,rfl,ae⟩
      |false=>exact⟨_,note true rfl,rfl,rfl,ae⟩
     |false=>
      cases e with
      |true=>exact⟨_,note false rfl,rfl,rfl,ae⟩
      |false=>exact⟨_,note false rfl,rfl,rfl,ae⟩
    case h_3=>
     rename_i l d;rw[d]at i;simp only[PR]at i;grind
theorem EY{d:Option Nat}{k:Ag->Tr}:∀ {l:PO},Ev X Q n (Ju d k l)->∃u s g,l.To u s/\s.put d u=some g/\Ev X Q n (k g)
 | .bad,he=>we he Ev.Ae
 | .val u s,he=>by
  simp only[Ju]at he;split at he
  ·rename_i s1 m;exact⟨u,s,s1,.val,m,he⟩
  grind [Ev.Ae]
 | .ite c a b,he=>by
  rcases he.Cp with⟨rfl,e⟩|⟨rfl,e⟩
  ·obtain⟨u,s,s1,i,j⟩:=EY e;exact⟨u,s,s1,.tt i,j⟩
  ·obtain⟨u,s,s1,i,j⟩:=EY e;exact⟨u,s,s1,.ff i,j⟩
inductive TO (X:AW) (fr:Fr) (h:H) (o:Oper):List (V×H)->Prop where
 |val {x:V} {h':H}:Dp X.C fr h o=some (.val x h')->TO X fr h o [(x,h')]
 |skip {h':H}:Dp X.C fr h o=some (.skip h')->TO X fr h o [(.tup [],h')]
 |alts {l:List (V×H)}:Dp X.C fr h o=some (.alts l)->TO X fr h o l
 |call {g:FuncId} {args:List V} {l:List (V×H)} {M:Nat}:Dp X.C fr h o=some (.enter g args)->(∀m,M<=m->Aq X.C m (.fn g args) h=some l)->TO X fr h o l
 |round {b:Nat} {ls:LS} {f:Fr} {l:List (V×H)} {M:Nat}:Dp X.C fr h o=some (.round b ls f)->(∀m,M<=m->Aq X.C m (.rnd b ls f) h=some l)->TO X fr h o l
theorem DS{nd:Bool}{call:CX}(v:CC B h0 X nd call)(D:Rel B h0 F ρ st fr h){o:Oper}{k:Ag->Tr}(he:Ev X Q n (D8 X.C.T call o st k)):
  ∃l,TO X fr h o l/\((nd=false->(∃x,l=[x])/\∀l',Dp X.C fr h o≠some (.alts l'))/\((∀id a,G3 st o.op≠ .yes (.rnd id) a)->∀b ls f,Dp X.C fr h o≠some (.round b ls f)))/\∀x∈l,∃n',n'<=n/\∃d,Ev X Q n' (k d)/\∃F' ρ' fr',fr.put o.dst x.1=some fr'/\Bu B h0 F ρ st.nx h d fr' x.2 F' ρ'/\
   ∀j,Du X.sp st o.op=some j->∀b,b<h.nx->x.2.get b=h.get b\/∃id∈j,∃m,ρ id=some (b,m):=by
 unfold D8 at he;split at he
 case h_2=>grind [Ev.Ae]
 case h_1=>
  rename_i g args p;unfold G3 at p;split at p
  case h_2=>cases p
  rename_i c V;split at p
  case h_2=>cases p
  rename_i f O;split at p
  case h_3=>cases p
  case h_2=>
   rename_i id ps R I;cases p;obtain⟨fv,f1,P⟩:=AQ (C:=X.C) D.fp R;obtain⟨av,a1,a2⟩:=Cx (C:=X.C) D.fp I;simp only[PR]at P;obtain⟨l,hcd,hnd,hall⟩:=v he D a2;obtain⟨hcd1,W⟩:=hcd;obtain⟨b,m,ls,c1,c2,c3,rfl⟩:=hcd1;have e:Dp X.C fr h o=some (.round b ls<|DF ls.ps.toList av ls.fr):=by
    simp_all [Bk,Ds,Ee]
   refine⟨l,.round e W,⟨ae,fun hno=>?_⟩,fun x J=>?_⟩
   ·grind [G3]
   obtain⟨n',hn,r,st',z,F',ρ',Z,E,Y⟩:=hall x J;split at z
   case h_2=>grind [Ev.Ae]
   rename_i d w;obtain⟨fr',A,K,L,g4⟩:=E.rel.put Z w;refine⟨n',hn,d,z,F',ρ',fr',A,⟨K,by rw[L];exact E.le,E.nx⟩,fun j y b hb=>?_⟩;grind [Du]
  rename_i g' first cap ps R I
  cases p;obtain⟨fv,f1,P⟩:=AQ (C:=X.C) D.fp R;obtain⟨av,a1,a2⟩:=Cx (C:=X.C) D.fp I;simp only[PR]at P;obtain⟨fa,fb,rfl,f3,f4⟩:=P;have G:AJ F ρ st.nx (first++ps++cap) (fa++av++fb):=(f3.append a2).append f4;obtain⟨l,hcd,hnd,hall⟩:=v he D G;have M:TO X fr h o l/\(∀l',Dp X.C fr h o≠some (.alts l'))/\∀b ls f,Dp X.C fr h o≠some (.round b ls f):=by
   cases hcd with
   |Aq p W=>
    obtain⟨rfl,U,i,hfn⟩:=p;have e:Dp X.C fr h o=some (.enter g'<|fa++av++fb):=by
     simp_all [Bk,Ds,Ee]
    exact⟨.call e W,ae,ae⟩
   |prim hq J=>
    rename_i q x;have e:Dp X.C fr h o=some (.val x.1 x.2):=by
     grind [Bk,Ds,Ee,CF]
    exact⟨.val e,ae,ae⟩
  refine⟨l,M.1,ae,fun x J=>?_⟩;obtain⟨n',hn,r,st',z,F',ρ',Z,E,Y⟩:=hall x J;split at z
  case h_2=>grind [Ev.Ae]
  rename_i d w;obtain⟨fr',A,K,L,g4⟩:=E.rel.put Z w;refine⟨n',hn,d,z,F',ρ',fr',A,⟨K,by rw[L];exact E.le,E.nx⟩,fun j y b hb=>?_⟩;simp only[V,Du,O,R]at y;grind
 case h_3=>
  obtain⟨u,s,d,h1,h2,h3⟩:=EY he;obtain⟨tch,⟨v',h',F',ρ',A,K,L,g4,g5,g6,g7,g8⟩,htch⟩:=Tk (C:=X.C) D h1;have S:Rel B h0 F' ρ' s fr h':=⟨⟨by rw[g6];exact D.fp.n,fun t=>by
   have:s.get t=st.get t:=by unfold Ag.get;rw[g5]
   rw[this];exact(D.fp.slot t).mono g4⟩,L⟩
  obtain⟨fr',k1,k2,k3,k4⟩:=S.put K h2;refine⟨[(v',h')],?_,ae,fun x J=>?_⟩
  ·rcases A with A|⟨A,rfl⟩
   ·exact .val A
   ·exact .skip A
  ·cases Za.1 J;refine⟨n,Zb _,d,h3,F',ρ',fr',k1,⟨k2,by grind,g7⟩,fun j y b hb=>?_⟩;grind
theorem Vi{α a:Type}{f:α->Option (List a)}{x:α}:bl [x] f=f x:=by
 grind [bl]
theorem EP{α d:Type}{f:Nat->Nat->α->Option (List d)}{P:d->Prop}{nd:Bool}{l:List α}(c:nd=false->∃x,l=[x])(h:∀a∈l,∃r M,(∀m,M<=m->∀q,M<=q->f m q a=some r)/\(nd=false->∃x,r=[x])/\∀y∈r,P y):
  ∃r M,(∀m,M<=m->∀q,M<=q->bl l (f m q)=some r)/\(nd=false->∃x,r=[x])/\∀y∈r,P y:=by
 cases nd with
 |false=>
  obtain⟨x,rfl⟩:=c rfl;simp_all [Vi]
 |true=>
  clear c;suffices hs:∃r M,(∀m,M<=m->∀q,M<=q->bl l (f m q)=some r)/\∀y∈r,P y by
   simp_all
  induction l with
  |nil=>exact⟨[],0,fun _ _ _ _=>rfl,(by simp)⟩
  |cons a l e=>
   obtain⟨r,M,k,_,g⟩:=h a (by simp);obtain⟨r2,M2,h3,h4⟩:=e (by simp_all);cases l with
   |nil=>exact⟨r,M,(by grind [bl]),g⟩
   |cons b l=>
    refine⟨r++r2,max M M2,fun m j q i=>?_,fun y o=>?_⟩
    ·grind [bl]
    grind
theorem I5{d:Option Nat}{P:Fr×H->Prop}:∀ {l:List (V×H)},(∀x∈l,∃fr',fr.put d x.1=some fr'/\P (fr',x.2))->∃r,D3 fr d l=some r/\(∀y∈r,P y)/\((∃x,l=[x])->∃y,r=[y])
 |[],_=>⟨[],rfl,(by simp),(by simp)⟩
 |x::l,h=>by
  obtain⟨fr',c,e⟩:=h x (by simp);obtain⟨r,h3,h4,_⟩:=I5 (l:=l) (fun y a=>h y ae);refine⟨(fr',x.2)::r,?_,fun y a=>?_,fun⟨z,b⟩=>?_⟩
  ·grind [D3]
  ·grind
  ·cases b;cases h3;simp
theorem TO.XK{l:List (V×H)}{o:Oper}{ops:Array Oper}(a:TO X fr h o l)(p:Ar fr ops o=true){P:Fr×H->Prop}(d:∀x∈l,∃fr',fr.put o.dst x.1=some fr'/\P (fr',x.2)):
  ∃r M,(∀m,M<=m->step1 X.C (Aq X.C m) ops o fr h=some r)/\((∃x,l=[x])->∃y,r=[y])/\∀y∈r,P y:=by
 obtain⟨r,q,c,e⟩:=I5 d;cases a with
 |@val x h' a=>
  obtain⟨fr',k,i⟩:=d _<|Za.2 rfl;exact⟨[(fr',h')],0,(by simp_all [step1,Es]),(by simp),ae⟩
 |@skip h' a=>
  obtain⟨fr',k,i⟩:=d _<|Za.2 rfl;exact⟨[(fr',h')],0,(by simp_all [step1,Es]),(by simp),ae⟩
 |alts a=>exact⟨r,0,(by simp_all [step1,Es]),e,c⟩
 |@call g args l M a j=>exact⟨r,M,(by simp_all [step1,Es]),e,c⟩
 |@round b ls f l M a j=>exact⟨r,M,(by simp_all [step1,Es]),e,c⟩
theorem PH{T:AP}{h:H}{s d:TypeId}{b off:Nat}:C3 T h s d (.ptr b off)=none:=by
 simp_all [C3]
theorem Q7(j:Rel B h0 F ρ st fr h){o:Oper}{v:PV}(a:Vp X.C.T st o.op=some v):OK B h0 F ρ st h [] (Es X.C fr h o) v st:=by
 have fin:∀ {s d:TypeId} {x:Operand} {b off:Nat} {u:V},o.op=.convert s d x->ev X.C fr x=some (.ptr b off)->B4 X.C.T h s d (.ptr b off)=some u->PR F ρ st.nx v u->OK B h0 F ρ st h [] (Es X.C fr h o) v st:=by
  intro s d x b off u c k g E;have r:Dp X.C fr h o=none:=by
   rw[Bk];unfold Ds;rw[c];simp only[k,PH];rfl
  refine Zm j.sr (v':=u) ?_ E;grind [Es]
 unfold Vp at a;split at a
 case h_2=>cases a
 rename_i s d x c;split at a
 case h_3=>cases a
 case h_1=>
  rename_i t id off D A q;split at a
  case h_2=>cases a
  rename_i i tb cs w m;cases l:(Zj 0 i.size&&Zj off (Det.CL cs))with
  |false=>grind
  |true=>
   rw[l]at a;cases a;obtain⟨y,k,g⟩:=AQ (C:=X.C) j.fp q;obtain⟨b,n,z,k1,k2,⟨bs,fz,rfl,k4,_⟩,_⟩:=j.sr.at m;have p:=g;obtain rfl:=p.2 b n k1;refine fin c k ?_ g;unfold B4;rw[BK,k4.len]at l;grind
 case h_2=>
  rename_i u id off D A q;split at a
  case h_2=>cases a
  rename_i i e cs w m;cases l:(Zj 0 i.size&&Zg i.size (Det.CL cs)&&Zd e u&&Zd off 0)with
  |false=>grind
  |true=>
   rw[l]at a;cases a;obtain⟨y,k,g⟩:=AQ (C:=X.C) j.fp q;obtain⟨b,n,z,k1,k2,⟨bs,fz,rfl,k4,_⟩,_⟩:=j.sr.at m;have p:=g;obtain rfl:=p.2 b n k1;have h0:off=0:=by
    simp_all
   subst h0;refine fin c k (u:=.ptr b 0) ?_ g;unfold B4;rw[BK,k4.len]at l;grind
theorem LA(k:Rel B h0 F ρ st fr h){o:Oper}{v:PV}{c:Ag}(a:K8 X.C.T st o.op=some (v,c)):OK B h0 F ρ st h [] (Es X.C fr h o) v c:=by
 unfold K8 at a;split at a
 case h_2=>cases a
 rename_i s d x g;split at a
 case h_2=>cases a
 rename_i e l t p i;split at a
 case h_2=>cases a
 cases a;obtain⟨y,r,q⟩:=AQ (C:=X.C) k.fp i;obtain rfl:=CZ q;have m:Dp X.C fr h o=none:=by
  rw[Bk];unfold Ds;rw[g];simp only[r,C3,t,p];rfl
 have i:Es X.C fr h o=CF (some (.sl h.nx 0 l.length l.length 1,h.push<|.cells (l.map fun b=>.int .u8<|.ofNat b.toNat) e (0,0))):=by
  simp_all [B4,Es,Kf]
 rw[i];refine OK.new k.sr (o:=.arr false e (.int .u8)<|l.map fun b=>(b.toNat:Int)) (n:=l.length) rfl ⟨l.map fun b=>V.int .u8<|.ofNat b.toNat,(0,0),rfl,⟨by simp[Sh.sz],fun j z=>?_⟩,Zb _,by simp⟩ ?_
 ·have u:j<l.length:=ae
  have w:((l.map fun b=>V.int .u8<|.ofNat b.toNat).drop<|j*1).take 1=[V.int .u8<|.ofNat (l[j]).toNat]:=by
   simp_all [Zs]
  grind [DC,Sh.sz]
 simp_all [PR,AA]
theorem Nv(b:Rel B h0 F ρ st fr h){o:Oper}{v:PV}{a:Ag}(c:NT X.C.T st o.op=some (v,a)):OK B h0 F ρ st h [] (Es X.C fr h o) v a:=by
 grind [NT,LA,Q7]
theorem LC{nd:Bool}{call:CX}(e:CC B h0 X nd call){ops:Array Oper}:∀ {l:List Oper} {n:Nat} {st:Ag} {F:Fz} {ρ:BX} {fr:Fr} {h:H} {k:Ag->Tr},Rel B h0 F ρ st fr h->Ev X Q n (prun X.C.T call ops l st k)->
  ∃r M,(∀m,M<=m->J9 X.C (Aq X.C m) ops l fr h=some r)/\(nd=false->∃x,r=[x])/\∀x∈r,∃n',n'<=n/\∃b,Ev X Q n' (k b)/\∃F' ρ',Bu B h0 F ρ st.nx h b x.1 x.2 F' ρ'
 |[],n,st,F,ρ,fr,h,k,R,he=>⟨[(fr,h)],0,fun _ _=>rfl,(by simp),fun x hx=>by cases Za.1 hx;exact⟨n,Zb _,st,he,F,ρ,Bu.refl R⟩⟩
 |o::c,n,st,F,ρ,fr,h,k,R,he=>by
  unfold prun at he;obtain⟨b,d,e1,e2,p⟩:=G5 R he;have fin:∀ {l:List (Fr×H)},(∃M,∀m,M<=m->step1 X.C (Aq X.C m) ops o fr h=some l)->(nd=false->∃x,l=[x])->
    (∀y∈l,∃n',n'<=n/\∃a,Ev X Q n' (prun X.C.T call ops c a k)/\∃F' ρ',Bu B h0 F ρ st.nx h a y.1 y.2 F' ρ')->
    ∃r M,(∀m,M<=m->J9 X.C (Aq X.C m) ops (o::c) fr h=some r)/\(nd=false->∃x,r=[x])/\∀x∈r,∃n',n'<=n/\∃b,Ev X Q n' (k b)/\∃F' ρ',Bu B h0 F ρ st.nx h b x.1 x.2 F' ρ':=by
   rintro l ⟨M1,S⟩ w hl;obtain⟨r,M,I,D,K⟩:=EP (f:=fun m _ (x:Fr×H)=>J9 X.C (Aq X.C m) ops c x.1 x.2) (P:=fun x=>∃n',n'<=n/\∃b,Ev X Q n' (k b)/\∃F' ρ',Bu B h0 F ρ st.nx h b x.1 x.2 F' ρ') w fun y E=>by
    obtain⟨n1,hn1,a,L,F1,ρ1,i⟩:=hl y E;obtain⟨r,M,I,K,D⟩:=LC e i.rel L;refine⟨r,M,ae,K,fun z hz=>?_⟩;obtain⟨n2,hn2,st3,he3,F2,ρ2,hwent2⟩:=D z hz;exact⟨n2,a8,st3,he3,F2,ρ2,i.trans hwent2⟩
   refine⟨r,max M M1,fun m hm=>?_,D,K⟩;simp only[J9,S m a8];exact I m a8 m a8
  rcases p with⟨s,he⟩|⟨s,he⟩
  ·unfold UG at he;split at he
   case h_1=>
    rename_i v q hb;split at he
    case h_2=>grind [Ev.Ae]
    rename_i a g;obtain⟨v',h',F',ρ',j,G,U,Y,g5,g6,g7,g8⟩:=Nv d hb;have O:Rel B h0 F' ρ' q fr h':=⟨⟨by rw[g6];exact d.fp.n,fun t=>by
     have:q.get t=b.get t:=by unfold Ag.get;rw[g5]
     rw[this];exact(d.fp.slot t).mono Y⟩,U⟩
    have W:∃u,PR F' ρ' q.nx v u/\∀fr',fr.put o.dst u=some fr'->∀m,step1 X.C (Aq X.C m) ops o fr h=some [(fr',h')]:=by
     rcases j with j|⟨j,rfl⟩
     ·exact⟨v',G,fun fr' J m=>by simp only[step1,s,wc,j,J]⟩
     ·exact⟨.tup [],G,fun fr' J m=>by simp only[step1,s,wc,j,J]⟩
    obtain⟨u,hu,Cy⟩:=W;obtain⟨fr',J,k2,k3,k4⟩:=O.put hu g;refine fin (l:=[(fr',h')]) ⟨0,ae⟩ (by simp) fun y E=>?_
    cases Za.1 E;exact⟨n,Zb _,a,he,F',ρ',k2,by grind,g7⟩
   obtain⟨l,A,hnd,Z⟩:=DS e d he;obtain⟨r,M,I,K,D⟩:=A.XK (ops:=ops) (P:=fun y=>∃n',n'<=n/\∃a,Ev X Q n' (prun X.C.T call ops c a k)/\∃F' ρ',Bu B h0 F ρ st.nx h a y.1 y.2 F' ρ') s ae;exact fin ⟨M,I⟩ ae D
  ·unfold GG at he;split at he
   case h_2=>grind [Ev.Ae]
   rename_i a g;obtain⟨V,j,G,U,Y⟩:=d.put (x:=.tup []) (by simp[PR]) g;refine fin (l:=[(V,h)]) ⟨0,fun m _=>by simp only[step1,s,wd,j]⟩ (by simp) fun y E=>?_
   cases Za.1 E;exact⟨n,Zb _,a,he,F,ρ,G,by rw[U,e1];exact Zi,Zb _⟩
mutual
theorem GU:∀v:V,ZD v v=true
 | .bool b=>by simp[ZD]
 | .int k n=>by simp[ZD]
 | .str s=>by simp[ZD]
 | .nilp=>rfl
 | .ptr a i=>by simp[ZD]
 | .nils=>rfl
 | .sl a b c d e=>by simp[ZD]
 | .esl=>rfl
 | .es0=>rfl
 | .junk=>rfl
 | .nilm=>rfl
 | .map a=>by simp[ZD]
 | .yld a=>by simp[ZD]
 | .nilf=>rfl
 | .nili=>rfl
 | .fn f a b=>by simp only[ZD,CU a,CU b,Zu,wh]
 | .iface t x=>by simp only[ZD,GU x,Zu];simp
 | .agg a=>by exact CU a
 | .tup a=>by exact CU a
theorem CU:∀vs:List V,V.Fj vs vs=true
 |[]=>rfl
 |v::vs=>by simp only[V.Fj,GU v,CU vs,Zu]
end
theorem SK{T:AP}{t:TypeId}{a x:V}(c:Ct T h t a=some x):∃b off o,a=.ptr b off/\h.get b=some o/\(∀g:H,g.get b=h.get b->Ct T g t a=some x)/\
  ∀(g:H) cs e k t2 j,h.get b=some (.cells cs e k)->g.get b=some (.cells cs t2 j)->Ct T g t a=some x:=by
 unfold Ct at c;split at c
 case h_2=>cases c
 rename_i b off d i r e2;have p:∃o,h.get b=some o:=by
  cases m:h.get b with
  |some o=>simp
  |none=>
   grind [rd]
 obtain⟨o,l⟩:=p;refine⟨b,off,o,rfl,l,fun g m=>?_,fun g cs e k t2 j s q=>?_⟩
 ·simp_all [Ct,rd]
 ·unfold Ct;grind [rd]
def K3(C:Ctx)(F:Fz)(bl:List Nat)(h:H)(fr:Fr)(o:Oper)(x:V):Prop:=
 ∀g:H,(∀b cs,F b=some cs->∃t fz,g.get b=some (.cells cs t fz))->(∀b∈bl,g.get b=h.get b)->∃z,Dp C fr g o=some (.val x z)
theorem Np:∀ {s:Sh} {x:s.T} {cs:List V} {b:Nat},DC F s x cs->V.map b∉cs
 | .int _,_,_,_,h,hm=>by grind [DC]
 | .bool,_,_,_,h,hm=>by grind [DC]
 | .str,_,_,_,h,hm=>by grind [DC]
 | .list s,l,_,_,h,hm=>by
  simp only[DC]at h;grind
 | .pair a b,x,_,_,h,hm=>by
  obtain⟨c,d,rfl,e,g⟩:=h;rcases List.mem_append.1 hm with hm|hm
  ·exact Np e hm
  ·exact Np g hm
 | .unit,_,_,_,h,hm=>by grind [DC]
 | .fnv,x,_,_,h,hm=>by simp only[DC]at h;grind
 | .ptr _,x,_,_,h,hm=>by simp only[DC]at h;grind
 | .nlist s,l,_,_,h,hm=>by
  simp only[DC]at h;grind
theorem Nr{s:Sh}{x:s.T}{b:Nat}(a:PR F ρ N (.dat s x) (.map b)):False:=by
 exact Np a<|Za.2 rfl
theorem NR{b:Nat}(a:PR F ρ N .nil (.map b)):False:=by
 grind [PR]
theorem Sw(i:SR B h0 F ρ st.nx st.ob h){o:Oper}{c:Call}(g:o.op=.call c)(a:c.callee=.builtin .len){id sz off len:Nat}{cap:Option Nat}(e:Gy st c.args.toList=some [.sl id sz off len cap]){u:PV}{s:Ag}
  (d:(pop o.op X.C.T st).To u s) {b:Nat} (k:PR F ρ st.nx (.sl id sz off len cap) (.map b)):False:=by
 rw[g]at d;simp only[pop,K2,e,a,EJ,Tw,Lo,List.map_cons,List.map_nil,lz]at d;split at d;split at d
 case h_3=>
  cases j:Ei (st.obj id)with
  |false=>simp_all
  |true=>
   obtain⟨b',n,l⟩:=i.live j;grind [PR]
 all_goals first|(simp at d;done)|grind|(cases he)
theorem HN{T:AP}{ts:Array TypeId}{a:V}{g:H}(c:∀b,a≠ .map b)(h:H):C2 T g ts [a]=C2 T h ts [a]:=by
 unfold C2;grind
theorem Pd(G:Rel B h0 F ρ st fr h){o:Oper}{x:V}(A:Dp X.C fr h o=some (.val x h)){l:List Nat}(I:Tf st o.op=some l)(Y:∃u s,(pop o.op X.C.T st).To u s):
  ∃bl,K3 X.C F bl h fr o x/\∀b∈bl,b<h.nx/\∃id∈l,id<st.nx/\∀y,ρ id=some y->y.1=b:=by
 unfold Tf at I;rw[Bk]at A;unfold Ds at A;split at I
 case h_5=>cases I
 case h_4 t y i ok q=>
  simp only[q]at A;have m:∀g,Dp X.C fr g o=(match ev X.C fr y,ev X.C fr i with|some v,some u=>AE g (Co X.C.T g t v u ok)|_,_=>none):=(by grind [Bk,Ds]);cases P:ev X.C fr y with
  |none=>grind
  |some a=>
   cases hi:ev X.C fr i with
   |none=>grind
   |some u=>
    rw[P,hi]at A;simp only at A;obtain⟨x',D,he⟩:=Dg A;cases he;have E:∀g:H,entries g a=entries h a->Co X.C.T g t a u ok=some x:=by
     grind [Co]
    split at I
    case h_3=>cases I
    case h_1=>
     rename_i id J;obtain⟨W,w,p⟩:=AQ (C:=X.C) G.fp J;rw[P]at w;cases w;have Z:∃es,entries h a=some es:=by
      grind [Co]
     obtain⟨es,he⟩:=Z;cases I;by_cases O:∃b,a=.map b
     ·obtain⟨b,rfl⟩:=O;have L:∃ob,h.get b=some ob:=by
       cases K:h.get b with
       |none=>simp[entries,K]at he
       |some ob=>simp
      obtain⟨ob,L⟩:=L;simp only[PR]at p;refine⟨[b],fun g _ K=>⟨g,?_⟩,fun b' S=>?_⟩
      ·rw[m,P,hi];simp only;rw[E g<|by simp_all [entries]];rfl
      ·cases Za.1 S;refine⟨G.sr.lt b ob L,id,(by simp),p.1,fun z hz=>?_⟩;grind
     ·refine⟨[],fun g _ K=>⟨g,?_⟩,(by simp)⟩;rw[m,P,hi];simp only;rw[E g ?_];rfl;cases a<;>first|rfl|grind
    case h_2=>
     rename_i J;obtain⟨W,w,p⟩:=AQ (C:=X.C) G.fp J;rw[P]at w;cases w;simp only[PR]at p;subst p;cases I;refine⟨[],fun g _ K=>⟨g,?_⟩,(by simp)⟩;rw[m,P,hi];simp only;rw[E g rfl];rfl
 case h_1 t y q=>
  simp only[q]at A;have m:∀g,Dp X.C fr g o=(match ev X.C fr y with|some v=>AE g (Ct X.C.T g t v)|none=>none):=(by grind [Bk,Ds]);cases P:ev X.C fr y with
  |none=>grind
  |some a=>
   rw[P]at A;simp only at A;obtain⟨x',D,he⟩:=Dg A;cases he;obtain⟨b,off,ob,rfl,L,E,hfz⟩:=SK D;have hblt:=G.sr.lt b ob L;have live:∀id,id<st.nx->(∀z,ρ id=some z->z.1=b)->l=[id]->∃bl,K3 X.C F bl h fr o x/\∀b∈bl,b<h.nx/\∃id∈l,id<st.nx/\∀y,ρ id=some y->y.1=b:=by
    rintro id hlt hid rfl;refine⟨[b],fun g _ K=>⟨g,?_⟩,fun b' S=>?_⟩
    ·rw[m,P];simp only;rw[E g ae];rfl
    simp_all
   split at I
   case h_4=>cases I
   case h_1=>
    rename_i id U J;obtain⟨W,w,p⟩:=AQ (C:=X.C) G.fp J;grind [PR]
   case h_2=>
    rename_i id sz j U J;obtain⟨W,w,p⟩:=AQ (C:=X.C) G.fp J;grind [PR]
   case h_3=>
    rename_i s y' U J;obtain⟨W,w,p⟩:=AQ (C:=X.C) G.fp J;rw[P]at w;cases w;simp only[PR]at p;obtain⟨b',o',cs,he,hF,_⟩:=p;cases he;obtain⟨t1,f1,k1⟩:=G.sr.frz b cs hF;refine⟨[],fun g K _=>⟨g,?_⟩,(by simp)⟩;obtain⟨t2,f2,k2⟩:=K b cs hF;rw[m,P];simp only;rw[hfz g cs t1 f1 t2 f2 k1 k2];rfl
 case h_2 s d y q=>
  simp only[q]at A;have m:∀g,Dp X.C fr g o=(match ev X.C fr y with|some v=>AE g (C3 X.C.T g s d v)|none=>none):=(by grind [Bk,Ds]);have fin:∀a,ev X.C fr y=some a->(∀g,C3 X.C.T g s d a=C3 X.C.T h s d a)->∃bl,K3 X.C F bl h fr o x/\∀b∈bl,b<h.nx/\∃id∈l,id<st.nx/\∀y,ρ id=some y->y.1=b:=by
   intro a ha K;rw[ha]at A;simp only at A;obtain⟨x',D,he⟩:=Dg A;cases he;exact⟨[],fun g _ _=>⟨g,by rw[m,ha];simp only;rw[K,D];rfl⟩,(by simp)⟩
  split at I
  case h_3=>cases I
  case h_1=>
   rename_i k z J;obtain⟨W,w,p⟩:=AQ (C:=X.C) G.fp J;simp only[PR,DC,Zo,va]at p;subst p;exact fin _ w fun g=>by
    unfold C3;grind
  case h_2=>
   rename_i z J;obtain⟨W,w,p⟩:=AQ (C:=X.C) G.fp J;simp only[PR,DC,Zo,va]at p;subst p;exact fin _ w fun g=>by
    unfold C3;grind
 case h_3 c q=>
  simp only[q]at A;split at I
  case h_5=>cases I
  case h_4=>
   rename_i id r M;obtain⟨Y6,w,p⟩:=Cx (C:=X.C) G.fp M;simp only[AJ]at p;obtain⟨a,as',rfl,p,rfl⟩:=p;have m:∀g,Dp X.C fr g o=AE g (C2 X.C.T g c.argTypes [a]):=fun g=>by rw[Bk];unfold Ds;simp only[q,r,w];rfl
   simp only[r,w,Cq]at A;obtain⟨x',D,he⟩:=Dg A;cases he;cases I;by_cases O:∃b,a=.map b
   ·obtain⟨b,rfl⟩:=O;simp only[PR]at p;by_cases L:∃ob,h.get b=some ob
    ·obtain⟨ob,L⟩:=L;refine⟨[b],fun g _ K=>⟨g,?_⟩,fun b' S=>?_⟩
     ·rw[m];have:C2 X.C.T g c.argTypes [.map b]=C2 X.C.T h c.argTypes [.map b]:=by
       unfold C2;grind
      rw[this,D];rfl
     ·cases Za.1 S;refine⟨G.sr.lt b ob L,id,(by simp),p.1,fun z hz=>?_⟩;grind
    ·have hnone:h.get b=none:=by
      cases K:h.get b with
      |none=>rfl
      |some ob=>grind
     refine⟨[],fun g _ _=>⟨g,?_⟩,(by simp)⟩;obtain⟨uu,s,R⟩:=Y;exfalso;rw[q]at R;simp only[pop,K2,M,r,EJ,Tw,Lo,List.map_cons,List.map_nil,lz]at R;split at R
     case h_2=>simp at R
     rename_i t x _ he;cases he;split at R
     case h_5=>
      rename_i he;cases he;split at R
      case h_2=>simp at R
      rename_i ks vs l ho;obtain⟨b1,n1,o1,q1,q2,_⟩:=G.sr.at ho;grind
     all_goals first|(simp at R;done)|grind|(cases he)
   ·refine⟨[],fun g _ _=>⟨g,?_⟩,(by simp)⟩;rw[m,HN ae h,D];rfl
  all_goals
   rename_i r M;obtain⟨Y6,w,p⟩:=Cx (C:=X.C) G.fp M;obtain⟨a,as',rfl,p,rfl⟩:=p;have m:∀g,Dp X.C fr g o=AE g (C2 X.C.T g c.argTypes [a]):=fun g=>by rw[Bk];unfold Ds;simp only[q,r,w];rfl
   simp only[r,w,Cq]at A;have hnm:∀b,a≠ .map b:=by
    intro b e;subst e;first
     |exact Nr p
     |exact NR p
     |(obtain⟨u,s,R⟩:=Y
       exact Sw G.sr q r M R p)
   obtain⟨x',D,he⟩:=Dg A;cases he;refine⟨[],fun g _ _=>⟨g,?_⟩,fun b L=>by cases L⟩;rw[m];rw[HN hnm h,D];rfl
structure QH(C:Ctx)(F:Fz)(ρ:BX)(N:Nat)(h:H)(r:Nat×Option (List Nat))(c:Rc):Prop where
 i:c.i=r.1
 k:∀l,r.2=some l->∃bl,K3 C F bl h c.f c.o c.v/\∀b∈bl,b<h.nx/\∃id∈l,id<N/\∀y,ρ id=some y->y.1=b
def Nt(C:Ctx)(F:Fz)(ρ:BX)(N:Nat)(h:H):Rs->List Rc->Prop
 |[],l=>l=[]
 |r::a,l=>∃c cs,l=c::cs/\QH C F ρ N h r c/\Nt C F ρ N h a cs
theorem QH.mono{F':Fz}{ρ':BX}{N':Nat}{r:Nat×Option (List Nat)}{c:Rc}(m:QH X.C F ρ N h r c)(d:Le F ρ N F' ρ' N')(z:h.nx<=h'.nx)
  (A:∀l,r.2=some l->∀b,b<h.nx->(∃id∈l,id<N/\∀y,ρ id=some y->y.1=b)->h'.get b=h.get b):QH X.C F' ρ' N' h' r c:=by
 refine⟨m.i,fun l e=>?_⟩;obtain⟨bl,q,s⟩:=m.k l e;refine⟨bl,fun g p w=>q g (fun b cs v=>p b cs<|d.fz b cs v)<|fun b a=>?_,fun b a=>?_⟩
 ·grind
 ·obtain⟨x,id,o,j,u⟩:=s b a;exact⟨a8,id,o,Nat.lt_of_lt_of_le j d.n,fun y t=>u y<|d.at j t⟩
theorem Nt.mono{F':Fz}{ρ':BX}{N':Nat}(e:Le F ρ N F' ρ' N')(g:h.nx<=h'.nx)(k:∀b,b<h.nx->h'.get b=h.get b):∀ {d:Rs} {cs:List Rc},Nt X.C F ρ N h d cs->Nt X.C F' ρ' N' h' d cs
 |[],_,a=>a
 |r::d,_,a=>by
  obtain⟨c,cs,rfl,i,j⟩:=a;exact⟨c,cs,rfl,i.mono e g ae,Nt.mono e g k j⟩
theorem Nt.apart{F':Fz}{ρ':BX}{fr':Fr}{anc:Nat->Nat->Bool}{i:Nat}{t:Option (List Nat)}(s:Rel B h0 F ρ st fr h)(g:Bu B h0 F ρ st.nx h st' fr' h' F' ρ')
  (E:∀d,t=some d->∀b,b<h.nx->h'.get b=h.get b\/∃id∈d,∃m,ρ id=some (b,m)):
  ∀ {q:Rs} {cs:List Rc},Nt X.C F ρ st.nx h q cs->ZB anc i st t q=true->cs.all (still X.C anc i h')=true/\Nt X.C F' ρ' st'.nx h' (behind st t q) cs
 |[],_,x,_=>by
  cases x;exact⟨rfl,rfl⟩
 |r::q,_,x,v=>by
  obtain⟨c,cs,rfl,u,S⟩:=x;unfold ZB at v;rw[ZC,Zc]at v;obtain⟨h3,h4⟩:=Nt.apart s g E S (by exact v.2);have key:(Mk r.2 t&&FV st r.2)=true->∀l,r.2=some l->∀b,b<h.nx->(∃id∈l,id<st.nx/\∀y,ρ id=some y->y.1=b)->h'.get b=h.get b:=by
   rintro p l j b P ⟨id,A,I,M⟩;simp only[Zc,j]at p;have a:=List.all_eq_true.1 p.2 id A;obtain⟨D,K,G⟩:=s.sr.live a;obtain rfl:D=b:=M _ G;cases t with
   |none=>
    grind [Mk]
   |some d=>
    rcases E d rfl D P with e|⟨id',U,m,e2⟩
    ·exact e
    ·obtain⟨o1,O⟩:=Em a;have w:∃o,Aj st.ob id'=some o:=by
      cases J:Aj st.ob id' with
      |some o=>simp
      |none=>rw[s.sr.dead id' J]at e2;cases e2
     obtain⟨o,w⟩:=w;obtain rfl:=s.sr.inj id id' o1 o D K m O w G e2;grind [Nat.beq_refl,Mk]
  refine⟨?_,c,cs,rfl,?_,h4⟩
  ·rw[ZC,h3,Zu];unfold still;rw[u.i];cases R:anc i r.1 with
   |true=>rfl
   |false=>
    have j:∃l,r.2=some l:=by
     cases L:r.2 with
     |some l=>simp
     |none=>grind [Mk]
    obtain⟨l,j⟩:=j;obtain⟨bl,A,I⟩:=u.k l j;obtain⟨z,hz⟩:=A h' (fun b cs T=>g.rel.sr.frz b cs<|g.le.fz b cs T) ae;grind [GU]
  ·show QH X.C F' ρ' st'.nx h' (bif Mk r.2 t&&FV st r.2 then r else(r.1,none)) c;cases p:(Mk r.2 t&&FV st r.2)with
   |true=>exact u.mono g.le g.nx<|key p
   |false=>
    exact⟨u.i,(by simp)⟩
theorem Kd{C:Ctx}{o:Oper}(g:Bc o=true){r:OR}(a:Dp C fr h o=some r):∃ob f,SY C fr o=some (ob,f)/\r=.val (f h.nx) (h.push ob):=by
 rw[Bk]at a;unfold Ds at a;unfold Bc at g;unfold SY;split at g
 case h_4=>cases g
 case h_1 t b=>
  simp only[b]at a ⊢;unfold Dr at a;cases c:C.T.inf t with
  |none=>rw[c]at a;cases a
  |some i=>rw[c]at a;cases a;exact⟨_,_,rfl,rfl⟩
 case h_2 t x b=>
  simp only[b]at a ⊢;cases d:ev C fr x with
  |none=>rw[d]at a;cases a
  |some y=>rw[d]at a;cases a;exact⟨_,_,rfl,rfl⟩
 case h_3 t n ps b=>
  simp only[b]at a ⊢;cases d:Nu C fr ps.toList with
  |none=>grind
  |some y=>
   rw[d]at a;simp only at a ⊢;unfold Cm at a;unfold Ns;split at a
   case h_2=>cases a
   rename_i e he;simp only[he];split at a
   case h_2=>cases a
   rename_i i c;simp only[c];cases k:(Zg (n*i.size) 16777216&&Zj 0 (i.zero.length)&&Zd i.zero.length i.size)with
   |false=>rw[k]at a;cases a
   |true=>
    rw[k]at a;split at a
    case h_2=>cases a
    rename_i cs j;cases a;simp only[j];exact⟨_,_,rfl,rfl⟩
theorem WX{T:AP}{call:CX}{st:Ag}{o:Oper}{k:Ag->Tr}(a:Ca o=true):D8 T call o st k=Ju o.dst k (pop o.op T st):=by
 grind [G3,Ca,D8]
theorem Wd{call:CX}(a:CC B h0 X false call)(i:Rel B h0 F ρ st fr h){o:Oper}(j:Ca o=true){k:Ag->Tr}(he:Ev X Q n (D8 X.C.T call o st k)):
  ∃n',n'<=n/\∃b,Ev X Q n' (k b)/\∃F' ρ' x fr',Dp X.C fr h o=some (.val x h)/\fr.put o.dst x=some fr'/\Bu B h0 F ρ st.nx h b fr' h F' ρ'/\∃u s,(pop o.op X.C.T st).To u s:=by
 obtain⟨l,d,g,c⟩:=DS a i he;obtain⟨⟨⟨x,h'⟩,rfl⟩,_⟩:=g.1 rfl;obtain⟨n',hn,b,he1,F',ρ',fr',hput,hw,_⟩:=c _<|Za.2 rfl;have m:∃u s,(pop o.op X.C.T st).To u s:=by
  grind [WX,EY]
 cases d with
 |val e=>
  grind [rd_val]
 |skip e=>grind [rd_val]
 |call e _=>grind [rd_val]
 |round e _=>grind [rd_val]
 |alts e=>grind
theorem I2{call:CX}(q:CC B h0 X false call){ops:Array Oper}{anc:Nat->Nat->Bool}:∀ {L:List Nat} {n:Nat} {st:Ag} {F:Fz} {ρ:BX} {fr:Fr} {h:H} {k:Ag->Tr} {I:Rs} {cs:List Rc},Rel B h0 F ρ st fr h->Nt X.C F ρ st.nx h I cs->
  Ev X Q n (Fk X.C.T X.sp call ops anc L st I k)->
  ∃n',n'<=n/\∃e,Ev X Q n' (k e)/\∃F' ρ' fr' h',Bu B h0 F ρ st.nx h e fr' h' F' ρ'/\∃M,∀m,M<=m->∃cs',Ly X.C (Aq X.C m) ops anc L ⟨fr,h,cs⟩=some ⟨fr',h',cs'⟩
 |[],n,st,F,ρ,fr,h,k,I,cs,hr,_,he=>⟨n,Zb _,st,he,F,ρ,fr,h,Bu.refl hr,0,fun _ _=>⟨cs,rfl⟩⟩
 |i::is,n,st,F,ρ,fr,h,k,I,cs,hr,z,he=>by
  unfold Fk at he;cases ho:ops[i]? with
  |none=>grind [Ev.Ae]
  |some o=>
   rw[ho]at he;simp only at he;obtain⟨e,s,G,e2,S⟩:=G5 hr he;rw[<-G]at z;have fin:∀ {U:Nat} {d:Ag} {F1:Fz} {u:BX} {r:Fr} {K:H} {rs2:Rs} {cs2:List Rc},U<=n->Bu B h0 F ρ st.nx h d r K F1 u->Nt X.C F1 u d.nx K rs2 cs2->Ev X Q U (Fk X.C.T X.sp call ops anc is d rs2 k)->
     (∃M,∀m,M<=m->∃x,Ef X.C (Aq X.C m) ops anc i ⟨fr,h,cs⟩=some (x,⟨r,K,cs2⟩))->
     ∃n',n'<=n/\∃e,Ev X Q n' (k e)/\∃F' ρ' fr' h',Bu B h0 F ρ st.nx h e fr' h' F' ρ'/\∃M,∀m,M<=m->∃cs',Ly X.C (Aq X.C m) ops anc (i::is) ⟨fr,h,cs⟩=some ⟨fr',h',cs'⟩:=by
    rintro U d F1 u r K rs2 cs2 v hw p j ⟨M1,hM1⟩;obtain⟨n2,hn2,st3,he3,F2,ρ2,fr2,h2,hw2,M2,hM2⟩:=I2 q hw.rel p j;refine⟨n2,a8,st3,he3,F2,ρ2,fr2,h2,hw.trans hw2,max M1 M2,fun m hm=>?_⟩;obtain⟨x,hx⟩:=hM1 m a8;obtain⟨cs',hcs'⟩:=hM2 m a8;grind [Ly]
   rcases S with⟨hw,he⟩|⟨hw,he⟩
   ·cases O:Ca o with
    |true=>
     rw[O]at he;simp only[wc]at he;obtain⟨U,v,d,j,F1,u,x,r,w,c,a,hto⟩:=Wd q s O he;rw[G]at a;have p:Nt X.C F1 u d.nx h I cs:=z.mono (by rw[G];exact a.le) a8 (by simp);cases Y:Jq o with
     |false=>
      rw[Y]at j;refine fin (cs2:=cs) v a p j ⟨0,fun m _=>⟨x,?_⟩⟩;unfold Ef;grind
     |true=>
      rw[Y]at j;refine fin (cs2:=⟨i,o,fr,x⟩::cs) (rs2:=(i,Tf e o.op)::I) v a ⟨_,_,rfl,⟨rfl,fun l hl=>?_⟩,p⟩ j ⟨0,fun m _=>⟨x,?_⟩⟩
      ·obtain⟨bl,Z,V⟩:=Pd s w hl hto;refine⟨bl,fun g hg W=>Z g (fun b cs hF=>hg b cs<|a.le.fz b cs hF) W,fun b W=>?_⟩;obtain⟨j1,id,j2,j3,j4⟩:=V b W;rw[G]at j3;exact⟨j1,id,j2,Nat.lt_of_lt_of_le j3 a.le.n,fun y hy=>j4 y<|a.le.at j3 hy⟩
      ·unfold Ef;grind
    |false=>
     rw[O]at he;simp only[wd]at he;cases R:Bc o with
     |true=>
      rw[R]at he;simp only[wc]at he;obtain⟨l,A,P,E⟩:=DS q s he;obtain⟨⟨⟨x,K⟩,rfl⟩,hna⟩:=P.1 rfl;obtain⟨U,v,d,j,F1,u,r,c,a,_⟩:=E _<|Za.2 rfl;rw[G]at a;simp only at c a;have hv:∃ob f,SY X.C fr o=some (ob,f)/\x=f h.nx/\K=h.push ob:=by
       cases A with
       |val w=>obtain⟨ob,f,Z,V⟩:=Kd R w;grind
       |skip w=>grind [Kd]
       |call w _=>grind [Kd]
       |round w _=>grind [Kd]
       |alts w=>grind
      obtain⟨ob1,f,Z,rfl,rfl⟩:=hv;have p:Nt X.C F1 u d.nx (h.push ob1) I cs:=z.mono (by rw[G];exact a.le) (by simp) (fun b W=>by simp[Nat.ne_of_lt W]);refine fin (cs2:=cs) v a p j ⟨0,fun m _=>⟨f h.nx,?_⟩⟩;unfold Ef;grind
     |false=>
      rw[R]at he;simp only[wd]at he;cases D:(ZB anc i e (Du X.sp e o.op) I&&Rx e o.op)with
      |false=>grind [Ev.Ae]
      |true=>
       rw[D]at he;simp only[wc]at he;simp only[Zc]at D;obtain⟨J,hnr⟩:=D;obtain⟨l,A,P,E⟩:=DS q s he;obtain⟨⟨⟨x,K⟩,rfl⟩,hna⟩:=P.1 rfl;obtain⟨U,v,d,j,F1,u,r,c,a,htch⟩:=E _<|Za.2 rfl;simp only at c a htch;obtain⟨Z,V⟩:=Nt.apart s a htch z J;rw[G]at a;refine fin v a V j ?_;have hh:∃M,∀m,M<=m->Cy X.C (Aq X.C m) fr h o=some (x,K):=by
        cases A with
        |val w=>exact⟨0,(by grind [Cy])⟩
        |skip w=>exact⟨0,(by grind [Cy])⟩
        |alts w=>grind
        |round w _=>grind [Rx]
        |@call g args _ M w hM=>exact⟨M,(by grind [Cy])⟩
       obtain⟨M,hM⟩:=hh;refine⟨M,fun m hm=>⟨x,?_⟩⟩;unfold Ef;grind
   ·cases hv:Bi o with
    |false=>
     rw[hv]at he;unfold GG at he;split at he
     case h_2=>grind [Ev.Ae]
     rename_i d c;obtain⟨r,g1,g2,g3,g4⟩:=s.put (x:=.tup []) (by simp[PR]) c;refine fin (cs2:=cs) a8 ⟨g2,by rw[g3,G];exact Zi,Zb _⟩ ae he ⟨0,fun m _=>⟨.tup [],?_⟩⟩;unfold Ef;grind
    |true=>
     rw[hv]at he;cases J:ZB anc i e (some []) I with
     |false=>grind [Ev.Ae]
     |true=>
      rw[J]at he;unfold GG at he;split at he
      case h_2=>grind [Ev.Ae]
      rename_i d c;obtain⟨r,g1,g2,g3,g4⟩:=s.put (x:=.tup []) (by simp[PR]) c;have a:Bu B h0 F ρ e.nx h d r h F ρ:=⟨g2,by rw[g3];exact Zi,Zb _⟩;obtain⟨Z,V⟩:=Nt.apart (t:=some []) s a (by simp) z J;rw[G]at a;refine fin a8 a V he ⟨0,fun m _=>⟨.tup [],?_⟩⟩;unfold Ef;grind
theorem P6{call:CX}(c:CC B h0 X false call){ops:Array Oper}{k:Ag->Tr}(g:Rel B h0 F ρ st fr h)(he:Ev X Q n (Fk X.C.T X.sp call ops (Cg ops).a (Cg ops).ord st [] k)):
  ∃n',n'<=n/\∃b,Ev X Q n' (k b)/\∃F' ρ' fr' h',Bu B h0 F ρ st.nx h b fr' h' F' ρ'/\∃M,∀m,M<=m->Ew X.C (Aq X.C m) ops fr h=some (fr',h'):=by
 obtain⟨n',i,b,d,F',ρ',fr',h',e,M,l⟩:=I2 (cs:=[]) c g (by rfl) he;refine⟨n',i,b,d,F',ρ',fr',h',e,M,fun m j=>?_⟩;grind [Ew]
end
section
variable {B:Nat}{h0:H0}{F:Fz}{ρ ρ':BX}{N N':Nat}{f:Nat->Option Nat}
mutual
theorem IL(d:∀i j,i<N->f i=some j->j<N'/\ρ' j=ρ i):∀ {p:PV} {v:V},PR F ρ N p v->PR F ρ' N' (Eh f p) v
 | .any,_,_=>by simp[Eh,PR]
 | .bl _,_,h=>by grind [Eh,PR]
 | .ub,_,h=>by grind [Eh,PR]
 | .dat _ _,_,h=>by grind [Eh,PR]
 | .nil,_,h| .nilp,_,h| .nilm,_,h| .nilf,_,h| .nili,_,h=>by simpa only[Eh,PR]using h
 | .B4 _ _ _,_,h=>by grind [Eh,PR]
 | .agg l,_,h=>by obtain⟨cs,rfl,c⟩:=h;exact⟨cs,rfl,Ch d c⟩
 | .tup l,_,h=>by obtain⟨cs,rfl,c⟩:=h;exact⟨cs,rfl,Ch d c⟩
 | .fn g a b,_,h=>by obtain⟨x,y,rfl,c,e⟩:=h;exact⟨x,y,rfl,Ch d c,Ch d e⟩
 | .ptr i o,_,h=>by
  grind [Eh,PR]
 | .eptr i _ _ _,_,h=>by
  grind [Eh,PR]
 | .sl i _ _ _ _,_,h=>by
  grind [Eh,PR]
 | .yl i,_,h=>by
  grind [Eh,PR]
 | .mp i,_,h=>by
  grind [Eh,PR]
theorem Ch(a:∀i j,i<N->f i=some j->j<N'/\ρ' j=ρ i):∀ {ps:List PV} {vs:List V},AJ F ρ N ps vs->AJ F ρ' N' (Fu f ps) vs
 |[],_,h=>by simpa [Fu]using h
 |p::ps,_,h=>by
  obtain⟨v,vs,rfl,b,c⟩:=h;simp only[Fu,AG];exact⟨IL a b,Ch a c⟩
end
theorem JY(f:PV->PV):∀(sl:List (Nat×PV)) (m a:PM PV),(∀t,a.get t=(m.get t).map f)->∀t,((sl.map fun x=>(x.1,f x.2)).foldl (fun m x=>m.set x.1<|some x.2) a).get t=((sl.foldl (fun m x=>m.set x.1<|some x.2) m).get t).map f
 |[],_,_,h,t=>h t
 |x::sl,m,a,h,t=>by
  refine JY f sl _ _ (fun t=>?_) t;grind [PM.Bd]
theorem MI(f:PV->PV)(a:f .any=.any)(sl:List (Nat×PV))(t:Nat):I8 (sl.map fun x=>(x.1,f x.2)) t=f (I8 sl t):=by
 unfold I8 Cn;rw[JY f sl .leaf .leaf (by simp) t];cases (sl.foldl (fun m x=>m.set x.1<|some x.2) PM.leaf).get t with
 |none=>grind
 |some x=>rfl
theorem QF(q:∀i j,i<N->f i=some j->j<N'/\ρ' j=ρ i){n:Nat}{o:Obj}{x:O}(h:Nf F ρ N n o x):Nf F ρ' N' n (HQ f o) x:=by
 cases o with
 |arr fz e s l=>exact h
 |box ps=>grind [Ch,Nf,HQ]
 |tbox t ps=>grind [Ch,Nf,HQ]
 |lp g r ps asg body s n sl=>
  obtain⟨ls,d,m,u,a,k,b,c⟩:=h;refine⟨ls,d,m,u,a,k,b,fun t=>?_⟩;rw[MI (Eh f)<|by rfl];exact IL q<|c t
 |map ks vs l=>exact h
 |siter s p=>exact h
theorem Lz(o:Obj):(HQ f o).frozen=o.frozen:=by cases o<;>rfl
theorem EX{st:Ag}{base:Nat}:∀(n:Nat) (c acc:List Nat),(∀i∈acc,base<=i/\(st.obj i).isSome=true)->acc.Nodup->(∀i∈EO st base n c acc,base<=i/\(st.obj i).isSome=true)/\(EO st base n c acc).Nodup
 |0,_,acc,a,b=>⟨a,b⟩
 |n+1,[],acc,a,b=>⟨a,b⟩
 |n+1,i::c,acc,a,b=>by
  unfold EO;cases l:(Zj i base||acc.any (Zd i))with
  |true=>exact EX n c acc a b
  |false=>
   cases e:st.obj i with
   |none=>exact EX n c acc a b
   |some o=>
    have g:base<=i:=by
     grind [BJ]
    have d:i∉acc:=by
     grind [Nat.beq_refl]
    refine EX n _ _ (fun j k=>?_) ?_
    ·grind
    grind
theorem IP{base:Nat}:∀(b:List Nat) (n i j:Nat),b.Nodup->Ie base b n i=some j->(∃k,b[k]?=some i/\j=n+k)\/(i∉b/\i<base/\j=i)
 |[],n,i,j,_,h=>by
  unfold Ie at h;cases m:Zj i base with
  |false=>grind
  |true=>simp_all
 |a::b,n,i,j,l,h=>by
  unfold Ie at h;rw[Aw]at h;by_cases e:i=a
  ·simp_all
  ·simp only[e,decide_false,wd]at h;have c:=List.nodup_cons.1 l;rcases IP b (Nat.add n 1) i j c.2 h with⟨k,d,g⟩|⟨d,g,o⟩
   ·exact .inl ⟨k+1,by grind,by grind⟩
   grind
theorem OP(f:Nat->Option Nat)(base:Nat):∀(l:Ob) (j:Nat),Aj (low f base l) j=if j<base then(Aj l j).map (HQ f)else none
 |[],j=>by simp[low,Aj]
 |(i,o)::l,j=>by
  simp only[low];have c:=OP f base l j;by_cases a:i<base
  ·rw[BJ a];simp only[wc,Aj,Aw];grind
  ·have:Zj i base=false:=by
    cases b:Zj i base with
    |false=>rfl
    |true=>exact we (Zr b) a
   rw[this];simp only[wd,Aj,Aw];grind
theorem LB{st:Ag}(f:Nat->Option Nat):∀(a:List Nat) (n:Nat) (b:Ob) (j:Nat),(∀i∈a,(st.obj i).isSome=true)->Aj (kept st f a n b) j=(if n<=j/\j<n+a.length then(a[j-n]?).bind fun i=>(st.obj i).map (HQ f)else Aj b j)
 |[],n,b,j,_=>by simp_all [kept,wa]
 |i::a,n,b,j,h=>by
  obtain⟨o,c⟩:=Option.isSome_iff_exists.1 (h i (by simp));unfold kept;rw[c];rw[LB f a (Nat.add n 1) _ j ae];by_cases d:n+1<=j/\j<n+1+a.length
  ·grind
  ·simp only[Aj,Aw];grind
theorem Dk:∀(vs:List (Nat×PV)) (m:PM PV) (t:Nat) (p:PV),(vs.foldl (fun m x=>m.set x.1<|some x.2) m).get t=some p->(t,p)∈vs\/m.get t=some p
 |[],m,t,p,h=>.inr h
 |x::vs,m,t,p,h=>by
  rcases Dk vs _ t p h with a|a
  ·grind
  grind [PM.Bd]
theorem P9{st:Ag}{fr:Fr}{h:H}(l:Rel B h0 F ρ st fr h)(base:Nat)(L:List Nat)(_hb:base<=st.nx):
  ∃ρ',Rel B h0 F ρ' (canon base L st) fr h/\base<=(canon base L st).nx/\∀id,id<base->ρ' id=ρ id:=by
 generalize v:EO st base 100 (Fv ((L.map fun t=>(t,st.get t)).map (·.2))++IZ base st.ob) []=ids;have D:=EX (st:=st) (base:=base) 100 (Fv ((L.map fun t=>(t,st.get t)).map (·.2))++IZ base st.ob) [] (by simp) List.nodup_nil;rw[v]at D;obtain⟨Z,K⟩:=D;let g:=Ie base ids base
 let q:BX:=fun id=>if id<base then ρ id else(ids[id-base]?).bind ρ
 have A:∀id,id<base->q id=ρ id:=ae;have w:∀k i,ids[k]?=some i->q (base+k)=ρ i:=by
  grind
 have G:canon base L st=Ba st.n ((L.map fun t=>(t,st.get t)).map fun x=>(x.1,Eh g x.2)) (kept st g ids base<|low g base st.ob) (base+ids.length):=by
  rw[show g=Ie base ids base from rfl, <-v];rfl
 have M:∀i j,i<st.nx->g i=some j->j<base+ids.length/\q j=ρ i:=by
  intro i j _ I;rcases IP ids base i j K I with⟨k,d,rfl⟩|⟨_,u,rfl⟩
  ·grind
  grind
 have E:∀j,Aj (kept st g ids base<|low g base st.ob) j=if j<base then(Aj st.ob j).map (HQ g)else(ids[j-base]?).bind fun i=>(st.obj i).map (HQ g):=by
  intro j;rw[LB g ids base _ j ae,OP];grind
 have src:∀j o',Aj (kept st g ids base<|low g base st.ob) j=some o'->∃i o,Aj st.ob i=some o/\o'=HQ g o/\q j=ρ i/\j<base+ids.length/\((j<base/\i=j)\/(base<=j/\ids[j-base]?=some i/\base<=i)):=by
  intro j o' r;rw[E]at r;by_cases d:j<base
  ·rw[wb d,Zh]at r;grind
  ·rw[wa d]at r;cases z:ids[j-base]? with
   |none=>grind
   |some i=>
    rw[z]at r;simp only[Option.bind_some,Zh]at r;obtain⟨o,u,rfl⟩:=r;have hlt:=(Zt.1 z).1;have:=w (j-base) i z;rw[show base+(j-base)=j from by omega]at this;exact⟨i,o,u,rfl,this,by omega,ae⟩
 refine⟨q,?_,by rw[G];show base<=base+ids.length;omega,A⟩;rw[G];refine⟨⟨l.fp.n,fun t=>?_⟩,⟨fun j o' r=>?_,fun i j oi oj c m W Y r d u=>?_,l.sr.frz,fun id b m e=>?_,fun j r=>?_,l.sr.old,l.sr.lt,l.sr.le,l.sr.fo,l.sr.gl,fun c G=>?_⟩⟩
 ·generalize J:((L.map fun t=>(t,st.get t)).map fun x=>(x.1,Eh g x.2))=vs;show PR F q (base+ids.length) (((Cn vs).get t).getD .any)<|fr.get t;cases T:(Cn vs).get t with
  |none=>grind [PR]
  |some p=>
   rcases Dk vs .leaf t p T with d|d
   ·rw[<-J]at d;simp only[List.map_map,ZE,Function.comp]at d;obtain⟨s,_,u⟩:=d;cases u;exact IL M (l.fp.slot _)
   simp_all
 ·obtain⟨i,o,d,rfl,u,h3,_⟩:=src j o' r;obtain⟨b,m,x,k1,k2,k3,k4⟩:=l.sr.obj i o d;exact⟨b,m,x,u.trans k1,k2,QF M k3,by rw[Lz];exact k4⟩
 ·obtain⟨a,o,P,_,O,_,R⟩:=src i oi Y;obtain⟨a',o',g4,_,g5,_,g6⟩:=src j oj r;rw[O]at d;rw[g5]at u;have hab:=l.sr.inj a a' o o' c m W P g4 d u;rcases R with⟨V,e2⟩|⟨V,e2,e3⟩<;>rcases g6 with⟨U,S⟩|⟨U,S,f3⟩
  ·omega
  ·omega
  ·omega
  grind [List.getElem?_inj]
 ·have e:(if id<base then ρ id else(ids[id-base]?).bind ρ)=some (b,m):=e;by_cases d:id<base
  ·rw[wb d]at e;exact⟨by show id<base+ids.length;omega,(l.sr.own id b m e).2⟩
  ·rw[wa d]at e;cases z:ids[id-base]? with
   |none=>grind
   |some i=>
    rw[z]at e;have:=(Zt.1 z).1;exact⟨by show id<base+ids.length;omega,(l.sr.own i b m e).2⟩
 ·have y:Aj (kept st g ids base<|low g base st.ob) j=none:=r;rw[E]at y;show(if j<base then ρ j else(ids[j-base]?).bind ρ)=none;by_cases d:j<base
  ·rw[wb d]at y ⊢;exact l.sr.dead j (by simp_all)
  ·rw[wa d]at y ⊢;cases z:ids[j-base]? with
   |none=>rfl
   |some i=>
    grind [Option.map_eq_none_iff]
 ·obtain⟨P,O,R⟩:=l.sr.pn c G;grind
end
section
variable {B:Nat}{h0:H0}{X:AW}{F:Fz}{ρ:BX}{N:Nat}{h:H}
theorem P8(h0:H0)(a b:List Nat):(h0.pins a).pins b=h0.pins (b++a):=by unfold H0.pins;simp
theorem SR.SL{ob:Ob}{ps:List Nat}(a:SR B (h0.pins ps) F ρ N ob h):SR B h0 F ρ N ob h:=
 ⟨a.obj,a.inj,a.frz,a.own,a.dead,a.old,a.lt,a.le,a.fo,a.gl,fun b c=>a.pn b<|List.mem_append_right _ c⟩
theorem SR.mark{ob:Ob}(a:SR B h0 F ρ N ob h):SR B (h0.pins [h.nx]) F ρ N ob (h.push<|.defd true):=by
 have k:∀b y,h.get b=some y->b≠h.nx:=fun b y r=>by have:=a.lt b y r;omega
 have i:∀b y,h.get b=some y->(h.push<|.defd true).get b=some y:=(by simp_all);refine⟨fun j oj u=>?_,a.inj,fun c cs d=>?_,a.own,a.dead,fun c d he=>?_,fun c s d=>?_,?_,a.fo,a.gl,fun c d=>?_⟩
 ·obtain⟨c,m,y,x,z,A⟩:=a.obj j oj u;grind
 ·obtain⟨t,fz,w⟩:=a.frz c cs d;grind
 ·have:=a.le;rw[H.A6,wa a8];exact a.old c d he
 ·rw[H.A6]at d;by_cases e:c=h.nx
  ·simp_all
  ·rw[wa e]at d;have:=a.lt c s d;show c<h.nx+1;omega
 ·have:=a.le;show B<=h.nx+1;omega
 ·rcases List.mem_append.1 d with d|d
  ·cases Za.1 d;refine⟨by simp,a.le,fun id n e=>?_⟩;by_cases g:∃o,Aj ob id=some o
   ·obtain⟨o,l⟩:=g;obtain⟨c,m,y,q,p,_⟩:=a.obj id o l;grind
   ·have:Aj ob id=none:=by
     cases v:Aj ob id with
     |none=>rfl
     |some o=>grind
    rw[a.dead id this]at e;cases e
  ·obtain⟨q,p,D⟩:=a.pn c d;grind
theorem SR.On{ob:Ob}(a:SR B h0 F ρ N ob h){b:Nat}{x y:O}(u:∀id o n,Aj ob id=some o->ρ id≠some (b,n))(v:F b=none)(s:h0.OZ B b)(t:b∉h0.pin)(k:h.get b=some x):SR B h0 F ρ N ob (h.put b y):=by
 refine⟨fun j oj r=>?_,a.inj,fun c cs d=>?_,a.own,a.dead,fun c d he=>?_,fun c q d=>?_,a.le,a.fo,a.gl,fun c d=>?_⟩
 ·obtain⟨c,m,y,g,p,i⟩:=a.obj j oj r;have:c≠b:=ae;exact⟨c,m,y,g,by simp_all,i⟩
 ·have:c≠b:=ae;rw[H.A8,wa this];exact a.frz c cs d
 ·have:c≠b:=HB s d he;rw[H.A8,wa this];exact a.old c d he
 ·rw[H.A8]at d;split at d
  ·rename_i e;subst e;exact a.lt _ _ k
  ·exact a.lt c q d
 ·obtain⟨g,p,i⟩:=a.pn c d;have l:c≠b:=ae;simp_all
theorem SR.leave{ob:Ob}:∀ {ps:List Nat} {h:H},ps.Nodup->(∀b∈ps,b∉h0.pin)->SR B (h0.pins ps) F ρ N ob h->∃c,C9 ps h=some c/\SR B h0 F ρ N ob c/\c.nx=h.nx/\∀b,b∉ps->c.get b=h.get b
 |[],h,_,_,a=>⟨h,rfl,a,rfl,fun _ _=>rfl⟩
 |p::ps,h,e,o,a=>by
  obtain⟨j,i,u⟩:=a.pn p (by simp[H0.pins]);rw[List.nodup_cons]at e;have d:SR B ((h0.pins ps).pins [p]) F ρ N ob h:=by exact a
  have g:SR B (h0.pins ps) F ρ N ob (h.put p<|.defd false):=by
   refine SR.On d.SL ae ?_ (.inl i) ?_ j
   ·cases l:F p with
    |none=>rfl
    |some cs=>obtain⟨t,fz,k⟩:=a.frz p cs l;grind
   grind [H0.pins]
  obtain⟨c,s,m,q,r⟩:=SR.leave e.2 ae g;simp_all [C9]
theorem Rj{st:Ag}{fr:Fr}(d:Rel B h0 F ρ st fr h)(base:Nat)(x:Nat×Sh):∃F1 E,Rel B h0 F1 E (S3 base x st) fr h/\(S3 base x st).nx=st.nx/\(∀id,id<base->E id=ρ id)/\∀b cs,F b=some cs->F1 b=some cs:=by
 have q:=d.fp.slot x.1;unfold S3;split
 case h_1=>
  rename_i r;rw[r]at q;exact⟨F,ρ,d.note (by rw[q];simp[PR,DC]),rfl,fun _ _=>rfl,fun _ _ h=>h⟩
 case h_4=>grind
 case h_3=>
  rename_i id r;cases T:Zg base id with
  |false=>grind
  |true=>
  have T:=Zr T;split
  case h_2=>grind
  rename_i ps D;split
  case h_2=>grind
  rename_i v W;rw[r]at q;obtain⟨b,n,y,I,h2,Z,Y,-⟩:=d.sr.at D;obtain⟨cs,t,fz,rfl,h4,h5⟩:=Z;have hFb:F b=none:=Y rfl;have a:∀c cs',F c=some cs'->(fun c=>if c=b then some cs else F c) c=some cs':=by
   grind
  have w:=(Bj h4 W);have R:=w.len;have p:Le F ρ st.nx (fun c=>if c=b then some cs else F c) (AA ρ id none) st.nx:=(Le.PE a).trans<|Le.E0 id;have u:Le F (AA ρ id none) st.nx (fun c=>if c=b then some cs else F c) (AA ρ id none) st.nx:=Le.PE a;have g:=d.sr.del id;have V:∀j m,AA ρ id none j=some (b,m)->∀oj,Aj (Df st.ob id) j=some oj->False:=by
   intro j m i oj k;rw[Bv]at k;split at k
   ·cases k
   ·rename_i U;simp only[AA,U,vb]at i;exact U<|d.sr.inj j id oj _ b m n k D i I
  have M:SR B h0 (fun c=>if c=b then some cs else F c) (AA ρ id none) st.nx (Df st.ob id) h:=by
   refine⟨fun j oj k=>?_,g.inj,fun c cs' A=>?_,g.own,g.dead,g.old,g.lt,g.le,fun c cs' A=>?_,g.gl,g.pn⟩
   ·obtain⟨c,m,z,i,G,O,g4,g5⟩:=g.obj j oj k;exact⟨c,m,z,i,G,O.mono u,ae,ae⟩
   ·split at A
    ·grind
    ·exact g.frz c cs' A
   ·split at A
    ·rename_i ec;subst ec;exact .inr (d.sr.own id c n I).2
    ·exact g.fo c cs' A
  have o:Rel B h0 (fun c=>if c=b then some cs else F c) (AA ρ id none) (st.C8 id) fr h:=⟨⟨d.fp.n,fun t=>(d.fp.slot t).mono p⟩,M⟩;refine⟨_,_,o.note ?_,rfl,fun j k=>by unfold AA;grind,a⟩;have L:=q.2 b n I;exact⟨b,0,cs,by rw[L],by simp,by omega,by rw[Zz,Zp a8];exact w.mono a⟩
 rename_i id sz off len cap r;split
 case h_2=>grind
 rename_i fz e s l D;cases hz:Zd sz s.sz with
 |false=>grind
 |true=>
 rw[r]at q;obtain⟨F1,i,G,O⟩:=Hc d.sr q;have P:AD st (.sl id sz off len cap)=st.setObj id (.arr true e s l):=by simp[AD,D]
 rw[P]at i;have p:Le F ρ st.nx F1 ρ st.nx:=⟨G,(by simp),Zb _⟩;have S:off+len<=l.length:=by
  obtain⟨b,n,y,I,_,⟨_,_,_,_,_,h6⟩,-⟩:=d.sr.at D;grind [PR]
 have K:AV st (.sl id sz off len cap)=some (true,.dat (.list s)<|(l.drop off).take len):=by
  simp_all [AV]
 have J:=O _ K;have o:Rel B h0 F1 ρ (st.setObj id<|.arr true e s l) fr h:=⟨⟨d.fp.n,fun t=>(d.fp.slot t).mono p⟩,i⟩;exact⟨F1,ρ,o.note<|J ρ _,rfl,fun _ _=>rfl,G⟩
theorem LF{fr:Fr}(base:Nat):∀(l:List (Nat×Sh)) {st:Ag} {F:Fz} {ρ:BX},Rel B h0 F ρ st fr h->∃F1 a,Rel B h0 F1 a (RS base l st) fr h/\(RS base l st).nx=st.nx/\(∀id,id<base->a id=ρ id)/\∀b cs,F b=some cs->F1 b=some cs
 |[],st,F,ρ,c=>⟨F,ρ,c,rfl,fun _ _=>rfl,fun _ _ h=>h⟩
 |x::l,st,F,ρ,c=>by
  obtain⟨F1,a,d,g,e,i⟩:=Rj c base x;obtain⟨F2,ρ2,h4,h5,h0'',h6⟩:=LF base l d;grind [RS]
theorem Ik{st:Ag}{fr:Fr}{base:Nat}(c:Rel B h0 F ρ st fr h)(f:FuncId)(r:Nat)(g:base<=st.nx):
  ∃F1 ρ',Rel B h0 F1 ρ' (GX X f r base st) fr h/\base<=(GX X f r base st).nx/\(∀id,id<base->ρ' id=ρ id)/\∀b cs,F b=some cs->F1 b=some cs:=by
 obtain⟨F1,e,d,j,a,i⟩:=LF base (X.fz f r) c;obtain⟨ρ',g1,g2,g3⟩:=P9 d base (X.pl f r) a8;grind [GX]
def Dm(B:Nat)(h0:H0)(X:AW)(base n:Nat)(Q:PV->Ob->Prop)(k:DX->Ag->Tr)(F:Fz)(ρ:BX)(h:H)(nd:Bool)(run:Nat->Nat->Option (List Det.X))(ds:List Nat):Prop:=
 ∃l M,(∀m,M<=m->∀q,M<=q->run m q=some l)/\(nd=false->∃x,l=[x])/\∀x∈l,∃ps,(x.ds=ps++ds/\ps.Nodup/\∀b∈ps,h.nx<=b)/\∃n',n'<=n/\∃a,Ev X Q n' (k x.e a)/\∃F' ρ',Rel B (h0.pins ps) F' ρ' a x.fr x.h/\base<=a.nx/\Le F ρ base F' ρ' base/\h.nx<=x.h.nx
theorem Le.low{F F':Fz}{ρ ρ':BX}{N N' base:Nat}(a:Le F ρ N F' ρ' N')(b:base<=N):Le F ρ base F' ρ' base:=
 ⟨a.fz,fun id h=>a.rho id a8,Zb _⟩
theorem HS{nd ro:Bool}{d:Nat}{f:FuncId}{base:Nat}{rv:Option Nat}{ct:Bool}(hrv:ro=false->rv=none/\ct=true)(hcall:∀h0,CC B h0 X nd<|AY X nd d)(hcallD:∀h0,CC B h0 X false<|AY X false d){Q:PV->Ob->Prop}:∀(n:Nat) (c:Code) {h0:H0} {st:Ag} {k:DX->Ag->Tr} {F:Fz} {ρ:BX} {fr:Fr} {h:H} (ds:List Nat),base<=st.nx->Rel B h0 F ρ st fr h->
  Ev X Q n (exec X (AY X nd d) (AY X false d) nd ro d f base c st k)->Dm B h0 X base n Q k F ρ h nd (fun m q=>At X.C (Aq X.C m) rv ct q c fr h ds) ds:=by
 intro n;induction n using Nat.strongRecOn with
 |_ n IH=>
 have one:∀ {h0:H0} {e:DX} {st:Ag} {k:DX->Ag->Tr} {F:Fz} {ρ:BX} {fr:Fr} {h:H} {ds:List Nat} {c:Code},base<=st.nx->Rel B h0 F ρ st fr h->Ev X Q n (k e st)->(∀m q,1<=q->At X.C (Aq X.C m) rv ct q c fr h ds=some [⟨e,fr,h,ds⟩])->
   Dm B h0 X base n Q k F ρ h nd (fun m q=>At X.C (Aq X.C m) rv ct q c fr h ds) ds:=by
  intro h0 e st k F ρ fr h ds c w A he hd;exact⟨[⟨e,fr,h,ds⟩],1,ae,(by simp),fun x K=>by
   cases Za.1 K;exact⟨[],(by simp),n,Zb _,st,he,F,ρ,A,w,Zi,Zb _⟩⟩
 have D:∀ {q:Nat},1<=q->∃q',q=q'+1:=fun h=>⟨_,(Nat.succ_pred_eq_of_pos h).symm⟩
 have chain:∀ {h0:H0} {F:Fz} {ρ:BX} {h:H} {ds:List Nat} {k k2:DX->Ag->Tr} {n1:Nat} {run:Nat->Nat->Option (List Det.X)} {run2:Nat->Nat->Det.X->Option (List Det.X)},n1<=n->Dm B h0 X base n1 Q k2 F ρ h nd run ds->
   (∀(x:Det.X) (ps:List Nat),∀n1',n1'<=n1->∀u,Ev X Q n1' (k2 x.e u)->∀F' ρ',Rel B (h0.pins ps) F' ρ' u x.fr x.h->base<=u.nx->Dm B (h0.pins ps) X base n Q k F' ρ' x.h nd (fun m q=>run2 m q x) x.ds)->
   Dm B h0 X base n Q k F ρ h nd (fun m q=>match run m q with|some l=>bl l (run2 m q)|none=>none) ds:=by
  rintro h0 F ρ h ds k k2 n1 run run2 Z ⟨l,M,E,h2,h3⟩ hnext;obtain⟨r,M2,g1,g2,g3⟩:=EP (f:=run2) (P:=fun x=>∃ps,(x.ds=ps++ds/\ps.Nodup/\∀b∈ps,h.nx<=b)/\∃n',n'<=n/\∃u,Ev X Q n' (k x.e u)/\∃F' ρ',Rel B (h0.pins ps) F' ρ' u x.fr x.h/\base<=u.nx/\Le F ρ base F' ρ' base/\h.nx<=x.h.nx) h2 fun x K=>by
   obtain⟨ps1,⟨k0,kn,kl⟩,n',k1,u,k2',F',ρ',k3,k4,k5,k6⟩:=h3 x K;obtain⟨r,M,j1,j2,j3⟩:=hnext x ps1 n' k1 u k2' F' ρ' k3 k4;refine⟨r,M,j1,j2,fun y hy=>?_⟩;obtain⟨ps2,⟨i0,i0n,i0l⟩,n2,i1,U,i2,F2,L,i3,i4,i5,i6⟩:=j3 y hy;refine⟨ps2++ps1,⟨by grind,?_,fun b w=>?_⟩,n2,i1,U,i2,F2,L,by grind [P8],i4,k5.trans i5,a8⟩
   ·rw[List.nodup_append];refine⟨i0n,kn,fun a ha b w e=>?_⟩;have E:=i0l a ha;have h2:=k3.sr.lt b _ (k3.sr.pn b<|List.mem_append_left _ w).1;omega
   grind
  exact⟨r,max M M2,ae,g2,g3⟩
 have stepq:∀ {h0:H0} {F:Fz} {ρ:BX} {h:H} {ds:List Nat} {k:DX->Ag->Tr} {run run':Nat->Nat->Option (List Det.X)},Dm B h0 X base n Q k F ρ h nd run ds->(∀m q,run' m (q+1)=run m q)->Dm B h0 X base n Q k F ρ h nd run' ds:=by
  rintro h0 F ρ h ds k run run' ⟨l,M,E,h2,h3⟩ he;refine⟨l,M+1,fun m hm q T=>?_,h2,h3⟩;obtain⟨q',rfl⟩:=D (show 1<=q by omega);grind
 intro c;induction c with
 |skip=>
  intro h0 st k F ρ fr h ds w A he;exact one w A he (fun m q T=>by obtain⟨q',rfl⟩:=D T;rfl)
 |label l=>
  intro h0 st k F ρ fr h ds w A he;exact one w A he (fun m q T=>by obtain⟨q',rfl⟩:=D T;rfl)
 |exit i=>
  intro h0 st k F ρ fr h ds w A he;exact one w A he (fun m q T=>by obtain⟨q',rfl⟩:=D T;rfl)
 |ret=>
  intro h0 st k F ρ fr h ds w A he;exact one w A he (fun m q T=>by obtain⟨q',rfl⟩:=D T;rfl)
 |region id ops dr=>
  intro h0 st k F ρ fr h ds w A he;unfold exec at he;cases dr with
  |true=>
   simp only[wc]at he;cases hst:(!ro||Ed ops (Cg ops))with
   |false=>grind [Ev.Ae]
   |true=>
   rw[hst]at he;simp only[wc]at he;have hdd:∀call,(bif ct then Ew X.C call ops fr h else LW X.C call ops fr h)=Ew X.C call ops fr h:=by
    intro call;cases hro:ro with
    |false=>grind
    |true=>
     rw[hro]at hst;have hst:Ed ops (Cg ops)=true:=hst;simp_all [LW]
   obtain⟨n',hn,u,v,F',ρ',fr',h',J,M,hM⟩:=P6 (hcallD h0) A he;refine⟨[⟨.normal,fr',h',ds⟩],M+1,fun m hm q T=>?_,(by simp),fun x K=>?_⟩
   ·obtain⟨q',rfl⟩:=D (show 1<=q by omega);have:=hM m a8;simp only[At,wc];grind
   ·cases Za.1 K;exact⟨[],(by simp),n',hn,u,v,F',ρ',J.rel,Zn w J.le.n,J.le.low w,J.nx⟩
  |false=>
   simp only[wd]at he;obtain⟨r,M,hM,hone,hall⟩:=LC (hcall h0) A he;refine⟨r.map fun x=>⟨.normal,x.1,x.2,ds⟩,M+1,fun m hm q T=>?_,fun e=>?_,fun x K=>?_⟩
   ·obtain⟨q',rfl⟩:=D (show 1<=q by omega);simp only[At,wd,hM m a8]
   ·obtain⟨y,rfl⟩:=hone e;simp
   ·obtain⟨y,hy,rfl⟩:=ZE.1 K;obtain⟨n',hn,u,v,F',ρ',J⟩:=hall y hy;exact⟨[],(by simp),n',hn,u,v,F',ρ',J.rel,Zn w J.le.n,J.le.low w,J.nx⟩
 |seq a b iha ihb=>
  intro h0 st k F ρ fr h ds w A he;unfold exec at he;refine stepq (chain (run2:=fun m q x=>match x.e with| .normal=>At X.C (Aq X.C m) rv ct q b x.fr x.h x.ds|_=>some [x]) a8 (iha ds w A he) fun x ps1 n1 Z u v F' ρ' R Y=>?_)<|fun m q=>rfl;obtain⟨e,V,E,G⟩:=x;cases e with
  |normal=>
   have rest:∀ {U:Ag} {F2:Fz} {L:BX} {n2:Nat},n2<=n->Rel B (h0.pins ps1) F2 L U V E->base<=U.nx->(∀id,id<base->L id=ρ' id)->(∀b cs,F' b=some cs->F2 b=some cs)->Ev X Q n2 (exec X (AY X nd d) (AY X false d) nd ro d f base b U k)->
     Dm B (h0.pins ps1) X base n Q k F' ρ' E nd (fun m q=>At X.C (Aq X.C m) rv ct q b V E G) G:=by
    intro U F2 L n2 hn2 hr2 hb2 hρ2 hF2 I;have hl0:Le F' ρ' base F2 L base:=⟨hF2,ae,Zb _⟩;have hc:Dm B (h0.pins ps1) X base n Q k F2 L E nd (fun m q=>At X.C (Aq X.C m) rv ct q b V E G) G:=by
     by_cases hlt:n2<n
     ·obtain⟨l,M,E,h2,h3⟩:=IH n2 hlt b G hb2 hr2 I;exact⟨l,M,E,h2,ae⟩
     grind
    obtain⟨l,M,E,h2,h3⟩:=hc;exact⟨l,M,E,h2,fun x K=>by
     obtain⟨ps,k0,n3,k1,st3,k2,F3,ρ3,k3,k4,k5,k6⟩:=h3 x K;exact⟨ps,k0,n3,k1,st3,k2,F3,ρ3,k3,k4,hl0.trans k5,k6⟩⟩
   simp only at v;cases hct:X.ct f (AH b)with
   |false=>grind
   |true=>
    rw[hct]at v;simp only[wc]at v;cases v with
    |cut v=>
     obtain⟨F2,ρ0,hr0,hb0,hρ0,hF⟩:=Ik R f (AH b) Y;exact rest Z hr0 hb0 hρ0 hF v
  |exit i=>exact⟨[⟨.exit i,V,E,G⟩],0,(by simp),(by simp),fun x K=>by cases Za.1 K;exact⟨[],(by simp),n1,Z,u,v,F',ρ',R,Y,Zi,Zb _⟩⟩
  |ret=>exact⟨[⟨.ret,V,E,G⟩],0,(by simp),(by simp),fun x K=>by cases Za.1 K;exact⟨[],(by simp),n1,Z,u,v,F',ρ',R,Y,Zi,Zb _⟩⟩
 |cond x a b iha ihb=>
  intro h0 st k F ρ fr h ds w A he;unfold exec at he;have go:∀ {t:Bool} {u:Ag},ev X.C fr x=some (.bool t)->Rel B h0 F ρ u fr h->base<=u.nx->Ev X Q n (bif t then exec X (AY X nd d) (AY X false d) nd ro d f base a u k else exec X (AY X nd d) (AY X false d) nd ro d f base b u k)->Dm B h0 X base n Q k F ρ h nd (fun m q=>At X.C (Aq X.C m) rv ct q (.cond x a b) fr h ds) ds:=by
   grind [At]
  split at he
  case h_4=>grind [Ev.Ae]
  case h_3=>
   rename_i ht;obtain⟨y,g1,g2⟩:=AQ (C:=X.C) A.fp ht;simp only[PR]at g2;obtain⟨t,rfl⟩:=g2;split at he
   case h_2=>grind [Ev.Ae]
   rename_i s;have hs:fr.get s=.bool t:=by simpa [ev]using g1
   obtain⟨v,I⟩:=he.LD;cases t with
   |true=>exact go g1 (A.note<|by rw[hs];rfl) w v
   |false=>exact go g1 (A.note<|by rw[hs];rfl) w I
  case h_1=>
   rename_i t ht;obtain⟨y,g1,g2⟩:=AQ (C:=X.C) A.fp ht;obtain rfl:=IY g2;grind
  case h_2=>
   rename_i t ht;obtain⟨y,g1,g2⟩:=AQ (C:=X.C) A.fp ht;obtain rfl:=Gb g2;split at he
   case h_1=>
    rename_i s;have hs:fr.get s=.bool t:=by simpa [ev]using g1
    rcases he.Cp with⟨S,I⟩|⟨S,I⟩
    ·have S:t=true:=S;subst S;exact go g1 (A.note<|by rw[hs];rfl) w I
    ·have S:t=false:=S;subst S;exact go g1 (A.note<|by rw[hs];rfl) w I
   case h_2=>
    rcases he.Cp with⟨S,I⟩|⟨S,I⟩
    ·grind
    grind
 |block id b ih=>
  intro h0 st k F ρ fr h ds w A he;unfold exec at he;obtain⟨l,M,E,h2,h3⟩:=ih ds w A he;refine⟨l.map fun x=>match x.e with
    | .exit i=>bif Zd i id then { x with e:=.normal }else x
    |_=>x,M+1,fun m hm q T=>?_,fun e=>?_,fun y hy=>?_⟩
  ·obtain⟨q',rfl⟩:=D (show 1<=q by omega);grind [At]
  ·grind
  grind
 |loop b ih=>
  intro h0 st k F ρ fr h ds w A he;unfold exec at he;cases he with
  |@loop n0 _ _ _ _ _ _ _ _ he=>
  obtain⟨F0,ρ0,hr0,hb0,hρ0,hF0⟩:=Ik A f (AH b) w;have hl0:Le F ρ base F0 ρ0 base:=⟨hF0,ae,Zb _⟩;unfold body at he;have hbody:=IH n0 (Nat.lt_succ_self _) b ds hb0 hr0 he;have hch:Dm B h0 X base (n0+1) Q k F0 ρ0 h nd (fun m q=>match At X.C (Aq X.C m) rv ct q b fr h ds with|some l=>bl l (fun x=>match x.e with| .normal=>At X.C (Aq X.C m) rv ct q (.loop b) x.fr x.h x.ds|_=>some [x])|none=>none) ds:=by
   refine chain (run2:=fun m q x=>match x.e with| .normal=>At X.C (Aq X.C m) rv ct q (.loop b) x.fr x.h x.ds|_=>some [x]) a8 hbody fun x ps1 n1 Z u v F' ρ' R Y=>?_
   obtain⟨e,V,E,G⟩:=x;cases e with
   |normal=>
    have he1':Ev X Q n1 (exec X (AY X nd d) (AY X false d) nd ro d f base (.loop b) u k):=by unfold exec;exact v
    obtain⟨l,M,E,h2,h3⟩:=IH n1 a8 (.loop b) G Y R he1';exact⟨l,M,E,h2,ae⟩
   |exit i=>exact⟨[⟨.exit i,V,E,G⟩],0,(by simp),(by simp),fun x K=>by cases Za.1 K;exact⟨[],(by simp),n1,by omega,u,v,F',ρ',R,Y,Zi,Zb _⟩⟩
   |ret=>exact⟨[⟨.ret,V,E,G⟩],0,(by simp),(by simp),fun x K=>by cases Za.1 K;exact⟨[],(by simp),n1,by omega,u,v,F',ρ',R,Y,Zi,Zb _⟩⟩
  obtain⟨l,M,g1,g2,g3⟩:=stepq (run':=fun m q=>At X.C (Aq X.C m) rv ct q (.loop b) fr h ds) hch<|fun m q=>rfl;refine⟨l,M,g1,g2,fun x K=>?_⟩;obtain⟨ps,k0,n2,k1,U,k2,F2,L,k3,k4,k5,k6⟩:=g3 x K;exact⟨ps,k0,n2,k1,U,k2,F2,L,k3,k4,hl0.trans k5,k6⟩
 |scope b ih=>
  intro h0 st k F ρ fr h ds w A he;unfold exec at he;exact stepq (ih ds w A he)<|fun m q=>rfl
 |rangeFunc g ps a b _ _=>
  intro h0 st k F ρ fr h ds w A he;unfold exec at he;cases hro:ro with
  |true=>grind [Ev.Ae]
  |false=>
  rw[hro]at he;obtain⟨rfl,rfl⟩:=hrv hro;simp only[wd]at he;split at he
  case h_2=>grind [Ev.Ae]
  rename_i gf first cap hg
  obtain⟨pq,hprim⟩:∃pq,X.C.prim gf=pq:=⟨_,rfl⟩;cases pq with
  |some q0=>grind [Ev.Ae]
  |none=>
  rw[hprim]at he;simp only[Option.isSome_none,wd]at he;obtain⟨gv,g1,g2⟩:=AQ (C:=X.C) A.fp hg;simp only[PR]at g2;obtain⟨fa,fb,rfl,f1,f2⟩:=g2;have R:=A.sr.mark;have hr2:=R.push (o:=.lp f (AH b) ps a b .ready st.n<|FR X f (AH b) st) (x:=.loop ⟨.ready,none,fr,ps,a,b,h.nx⟩) (n:=0) rfl
   ⟨_,rfl,rfl,rfl,rfl,⟨rfl,rfl⟩,A.fp.n.symm,fun t=>by
    have hl:=Le.new (F:=F) (ρ:=ρ) (N:=st.nx) ((h.push<|.defd true).nx,0);unfold I8 FR;cases hp:(Cn<|(X.pl f<|AH b).map fun t=>(t,st.get t)).get t with
    |none=>simp[PR]
    |some p=>
     rcases Dk _ .leaf t p hp with E|E
     ·simp only[ZE]at E;obtain⟨s,_,h2⟩:=E;cases h2;exact(A.fp.slot _).mono hl
     ·simp at E⟩
  have hle2:Le F ρ st.nx F (AA ρ st.nx<|some (h.nx+1,0)) (st.nx+1):=Le.new _;have hrel2:Rel B (h0.pins [h.nx]) F (AA ρ st.nx<|some (h.nx+1,0)) (st.push<|.lp f (AH b) ps a b .ready st.n<|FR X f (AH b) st) fr ((h.push<|.defd true).push<|.loop ⟨.ready,none,fr,ps,a,b,h.nx⟩):=
   ⟨⟨A.fp.n,fun t=>(A.fp.slot t).mono hle2⟩,hr2⟩
  have hargs:AJ F (AA ρ st.nx<|some (h.nx+1,0)) (st.push<|.lp f (AH b) ps a b .ready st.n<|FR X f (AH b) st).nx (first++[.yl st.nx]++cap) (fa++[.yld<|h.nx+1 ]++fb):=by
   refine((f1.mono hle2).append ?_).append<|f2.mono hle2;simp only[AG,BM,va,PR];exact⟨a8,(by grind [AA])⟩
  obtain⟨l,hcd,hone,hall⟩:=hcall _ he hrel2 hargs;obtain⟨i,M,hfn,hM⟩:∃i M,X.C.fn gf=some i/\∀m,M<=m->Aq X.C m (.fn gf<|fa++[.yld<|h.nx+1 ]++fb) ((h.push<|.defd true).push<|.loop ⟨.ready,none,fr,ps,a,b,h.nx⟩)=some l:=by
   cases hcd with
   |Aq hc hM=>obtain⟨rfl,_,i,hfn⟩:=hc;exact⟨i,_,hfn,hM⟩
   |prim T _=>grind
  have hdc:Ee X.C ((h.push<|.defd true).push<|.loop ⟨.ready,none,fr,ps,a,b,h.nx⟩) (.fn (.func gf) fa fb) [.yld<|h.nx+1 ]=some (.enter gf<|fa++[.yld<|h.nx+1 ]++fb):=by
   grind [Ee]
  have fin:∀x∈l,∃(r:List Det.X) (M:Nat),(∀m:Nat,M<=m->∀q:Nat,M<=q->(match x.2.get (h.nx+1)with
      |some (.loop ls)=>match ls.st,ls.pend with
       | .busy,_=>none
       |_,none=>some [⟨.normal,fr,x.2.put (h.nx+1)<|.loop { ls with st:=.exhausted },h.nx::ds⟩]
       |_,some c=>At X.C (Aq X.C m) none false q c fr (x.2.put (h.nx+1)<|.loop { ls with st:=.exhausted }) (h.nx::ds)
      |_=>none)=some r)/\(nd=false->∃x,r=[x])/\∀y∈r,∃ps,(y.ds=ps++ds/\ps.Nodup/\∀b∈ps,h.nx<=b)/\∃n',n'<=n/\∃u,Ev X Q n' (k y.e u)/\∃F' ρ',Rel B (h0.pins ps) F' ρ' u y.fr y.h/\base<=u.nx/\Le F ρ base F' ρ' base/\h.nx<=y.h.nx:=by
   intro x K;obtain⟨n1,Z,r,st',v,F',ρ',_,J,_⟩:=hall x K;split at v
   case h_2=>grind [Ev.Ae]
   rename_i f' r' ps' asg' body' s n' sl hob;obtain⟨bb,nn,y,k1,k2,⟨ls,rfl,-,-,-,hlp,-⟩,-⟩:=J.rel.sr.at hob;have hN:st.nx<st.nx+1:=a8;have kk:AA ρ st.nx (some (h.nx+1,0)) st.nx=some (bb,nn):=J.le.at hN k1;simp only[AA,wi,Zf,Zl]at kk;obtain⟨rfl,rfl⟩:=kk;have hpin:∀p∈(h0.pins [h.nx]).pin,h.nx+1≠p:=fun p hp e=>(J.rel.sr.pn p hp).2.2 _ _<|e▸k1
   have hdel:=J.rel.sr.del st.nx;have hput:∀z:O,Rel B (h0.pins [h.nx]) F' (AA ρ' st.nx none) (st'.C8 st.nx) fr (x.2.put (h.nx+1) z):=by
    intro z;have hl:Le F' ρ' st'.nx F' (AA ρ' st.nx none) st'.nx:=Le.E0 _;refine⟨⟨J.rel.fp.n,fun t=>(J.rel.fp.slot t).mono hl⟩,?_⟩;refine hdel.On (fun id o m ho e=>?_) ?_ (J.rel.sr.own _ _ _ k1).2 (fun hp=>hpin _ hp rfl) k2
    ·rw[Bv]at ho;split at ho
     ·cases ho
     ·rename_i hne;simp only[AA,hne,vb]at e;exact hne<|J.rel.sr.inj id st.nx o _ _ m 0 ho hob e k1
    ·cases hF:F' (h.nx+1)with
     |none=>rfl
     |some cs=>obtain⟨t,fz,g⟩:=J.rel.sr.frz _ cs hF;rw[k2]at g;cases g
   have hbase:base<=(st'.C8 st.nx).nx:=Zn w<|Zn (Nat.le_succ _) J.le.n;have hLe:Le F ρ base F' (AA ρ' st.nx none) base:=by
    refine(hle2.low w).trans<|(J.le.low<|Zn w<|Nat.le_succ _).trans ?_;exact(Le.E0 (F:=F') (ρ:=ρ') (N:=base) st.nx)
   have hnx:h.nx<=x.2.nx:=Zn (by show h.nx<=h.nx+1+1;omega) J.nx;have done:∀ {e:DX} {z:O},Ev X Q n1 (k e<|st'.C8 st.nx)->∃ps,((⟨e,fr,x.2.put (h.nx+1) z,h.nx::ds⟩:Det.X).ds=ps++ds/\ps.Nodup/\∀b∈ps,h.nx<=b)/\∃n',n'<=n/\∃u,Ev X Q n' (k e u)/\∃F' ρ',Rel B (h0.pins ps) F' ρ' u fr (x.2.put (h.nx+1) z)/\base<=u.nx/\Le F ρ base F' ρ' base/\h.nx<=(x.2.put (h.nx+1) z).nx:=by
    intro e z I;exact⟨[h.nx],⟨rfl,(by simp),fun b w=>by cases Za.1 w;exact Zb _⟩,n1,Z,_,I,F',_,hput z,hbase,hLe,hnx⟩
   obtain⟨lst,lpend,lfr,lps,lasg,W,ldb⟩:=ls;simp only at hlp;split at v
   case h_1=>
    obtain⟨rfl,rfl⟩:=hlp;exact⟨[⟨.normal,fr,x.2.put (h.nx+1)<|.loop ⟨.exhausted,none,lfr,lps,lasg,W,ldb⟩,h.nx::ds⟩],0,fun m _ q _=>(by simp only[k2]),fun _=>⟨_,rfl⟩,fun y hy=>by cases Za.1 hy;exact done v⟩
   case h_2=>
    obtain⟨rfl,rfl⟩:=hlp;exact⟨[⟨.ret,fr,x.2.put (h.nx+1)<|.loop ⟨.exhausted,some .ret,lfr,lps,lasg,W,ldb⟩,h.nx::ds⟩],1,fun m _ q T=>(by obtain⟨q',rfl⟩:=D T;simp only[k2,At]),fun _=>⟨_,rfl⟩,fun y hy=>by cases Za.1 hy;exact done v⟩
   case h_3=>
    rename_i j;obtain⟨rfl,rfl⟩:=hlp;exact⟨[⟨.exit j,fr,x.2.put (h.nx+1)<|.loop ⟨.exhausted,some<|.exit j,lfr,lps,lasg,W,ldb⟩,h.nx::ds⟩],1,fun m _ q T=>(by obtain⟨q',rfl⟩:=D T;simp only[k2,At]),fun _=>⟨_,rfl⟩,fun y hy=>by cases Za.1 hy;exact done v⟩
   case h_4=>exact we v Ev.Ae
  obtain⟨r,M2,j1,j2,j3⟩:=EP hone fin;refine⟨r,max M M2+1,fun m hm q T=>?_,j2,j3⟩;obtain⟨q',rfl⟩:=D (show 1<=q by omega);have E:=hM m a8;have h2:=j1 m a8 q' a8;simp only[At,Kq,g1];show(match Ee X.C ((h.push<|.defd true).push<|.loop ⟨.ready,none,fr,ps,a,b,h.nx⟩) (.fn (.func gf) fa fb) [.yld<|h.nx+1 ]with|some (.enter f args)=>_|_=>none)=_;rw[hdc];simp only[E];exact h2
 |goto l=>intro h0 st k F ρ fr h ds w A he;exact we he Ev.Ae
 |refuse s=>intro h0 st k F ρ fr h ds w A he;exact we he Ev.Ae
end
end Go.Pe
