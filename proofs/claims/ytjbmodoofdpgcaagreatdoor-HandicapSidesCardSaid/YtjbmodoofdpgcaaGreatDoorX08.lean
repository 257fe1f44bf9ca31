import Derived.Test.YtjbmodoofdpgcaaGreatDoorX07
/- A part of a proof; no law is stated here. -/
noncomputable section
open List renaming mem_singleton -> zc, take_of_length_le -> zr, replicate -> zt, drop_eq_getElem_cons -> zw, getElem?_eq_some_iff -> zx, length_eq_zero_iff -> z6, drop_zero -> yb, all_cons -> ye, mem_map -> yg
open Nat renaming le_refl -> zd, beq -> zf, eq_of_beq_eq_true -> zg, ble -> zi, blt -> zl, mul_le_mul_right -> zm, le_trans -> zp, le_of_ble_eq_true -> zu, zero_mul -> z7, add_mul -> yc
open Bool renaming and_eq_true -> ze, and_true -> zy
open Option.some renaming injEq -> zh
open Option renaming map_eq_some_iff -> zj, getD_some -> zz, map_some -> z8
open Go.Pe.Le renaming refl -> zk
open Prod.mk renaming injEq -> zn
open Go.Pe.OK renaming pure -> zo
open List.cons renaming injEq -> zq
open Go.Pe renaming apart -> yd, BU -> yh
open Go.Det.V renaming beq -> yf
namespace Go.Pe
open Go.Det
section
variable {B:Nat}{h0:H0}{F:Fz}{ρ:DZ}{N:Nat}{C:Ctx}{st st':AG}{fr:Fr}{h h':H}
theorem SR.gD{ob:Ob}(a:SR B h0 F ρ N ob h){o:Obj}{x:O}{b n:Nat}(M:h.get b=some x)(q:∀id o m,AN ob id=some o->ρ id≠some (b,m))(T:F b=none)(S:h0.ZP B b)(K:b∉h0.pin)(R:o.frozen=false)
  (P:Wr F (Bq ρ N<|some (b,n)) (N+1) n o x):SR B h0 F (Bq ρ N<|some (b,n)) (N+1) ((N,o)::ob) h:=by
 have A:Le F ρ N F (Bq ρ N<|some (b,n)) (N+1):=Le.new _;have d:∀j,AN ((N,o)::ob) j=if j=N then some o else AN ob j:=by
  simp only[AN,Bm];grind
 refine⟨fun j oj g=>?_,fun i j oi oj c m u v g r s=>?_,a.frz,fun id c m p=>?_,fun j g=>?_,a.old,a.lt,a.le,a.fo,a.gl,fun c E=>?_⟩
 ·rw[d]at g;by_cases e:j=N
  ·grind [Bq]
  ·rw[wc e]at g;obtain⟨c,m,y,r,s,G,z⟩:=a.obj j oj g;exact⟨c,m,y,by simp[Bq,e,r],s,G.mono A,z⟩
 ·rw[d]at v g;have key:∀k ok m,(if k=N then some o else AN ob k)=some ok->Bq ρ N (some (b,n)) k=some (c,m)->(k=N/\c=b)\/(k≠N/\AN ob k=some ok/\ρ k=some (c,m)/\c≠b):=by
   intro k ok m I l;by_cases e:k=N
   ·simp_all [Bq]
   ·simp only[Bq,e,vf]at l;grind
  rcases key i oi m v r with⟨e1,e2⟩|⟨e1,e2,e3,e4⟩<;>rcases key j oj u g s with⟨D,t⟩|⟨D,t,w,V⟩
  ·omega
  ·omega
  ·omega
  ·exact a.inj i j oi oj c m u e2 t e3 w
 ·unfold Bq at p;split at p
  ·grind
  ·have:=a.own id c m p;grind
 ·rw[d]at g;by_cases e:j=N
  ·grind
  ·rw[wc e]at g;simp[Bq,e,a.dead j g]
 ·obtain⟨L,U,J⟩:=a.pn c E;grind [Bq]
theorem N8{off:Nat}{cs:List V}(h:off<=cs.length):Cn off [] cs=cs:=by
 apply List.ext_getElem?;simp_all [GR,wc]
theorem Ui{off:Nat}{vs cs:List V}(h:off+vs.length<=cs.length):Cn off vs cs=cs.take off++(vs++cs.drop (off+vs.length)):=by
 apply List.ext_getElem?;intro j;rw[GR h];grind
theorem Dd.jU{s:Sh}{l new:List s.T}{cs d:List V}{a:Nat}(h:Dd F s l cs)(e:Dd F s new d)(g:a+new.length<=l.length):
  Dd F s (l.take a++(new++l.drop (a+new.length))) (Cn (a*s.sz) d cs):=by
 have k:=h.1;have j:=e.1;have i:(a+new.length)*s.sz<=l.length*s.sz:=zm _ g;rw[Ui ah];have c:=h.part (off:=0) (len:=a) ae;have b:=h.part (off:=a+new.length) (len:=l.length-(a+new.length)) ae;rw[z7,yb,yb]at c;rw[zr (by simp),zr<|by simp_all [Nat.sub_mul]]at b;rw[j, <-yc];exact c.append<|e.append b
def Fg:List PV->List Nat
 | .sl id _ _ _ _::_=>[id]
 |_=>[]
theorem ZK{s b:Sh}{x:b.T}{c:Bool}{l:List s.T}(d:OT st s (.dat b x)=some (c,l)):c=true:=by
 unfold OT at d;cases b with
 |list a=>
  grind [zj,HH,lz]
 |nlist a=>
  grind [zj,HH,lz]
 |str=>
  grind [zj,HH,lz]
 |_=>cases d
theorem aT(E:SR B h0 F ρ st.nx st.ob h){ts:Array TypeId}{ps:List PV}{xs:List V}(O:BD F ρ st.nx ps xs){v:PV}(d:(RL C.T ts ps st).To v st'):OK B h0 F ρ st h (Fg ps) (EW<|Gg C.T h ts xs) v st':=by
 unfold RL at d;split at d
 case h_2=>simp at d
 rename_i t tx p q hts htx;simp only[BD]at O;obtain⟨x,_,rfl,O,y,_,rfl,hy,rfl⟩:=O;split at d
 case h_2=>simp at d
 rename_i e ex hu hux;have hss:RI ex=true:=by
  cases hq:RI ex with
  |true=>rfl
  |false=>simp_all
 rw[hss]at d;simp only[we]at d;split at d
 case h_2=>simp at d
 rename_i i s hi hs;cases hc:(zl 0 i.bytes&&zl 0 i.size&&zf i.zero.length i.size&&zf i.size s.sz)with
 |false=>simp_all
 |true=>
  rw[hc]at d;simp only[ze]at hc;obtain⟨⟨⟨c1,c2⟩,c3⟩,c4⟩:=hc;have e4:=zg c4;simp only[we]at d;split at d
  case h_2=>simp at d
  rename_i c new hel;have head:c=true->∃cs,src h i.size y new.length=some cs/\Dd F s new cs/\Gg C.T h ts [x,y]=(match x with
      | .nils=>bif zf new.length 0 then some (.nils,h)
       else bif zi ((3*new.length+2000)*i.bytes) 562949953421312 then some (.sl h.nx 0 new.length new.length i.size,IF h e cs)else none
      | .es0=>bif zf new.length 0 then some (.es0,h)
       else bif zi ((3*new.length+2000)*i.bytes) 562949953421312 then some (.sl h.nx 0 new.length new.length i.size,IF h e cs)else none
      | .esl=>bif zf new.length 0 then some (.esl,h)else none
      | .sl b off len cap o=>
       bif zi (len+new.length) cap then(wr h b (off+len*i.size) cs).map fun h'=>(.sl b off (len+new.length) cap o,h')
       else bif zi ((3*(len+new.length)+2000)*i.bytes) 562949953421312 then
        match src h i.size x len with
        |some old=>
         bif zf o 0 then some (.sl h.nx 0 (len+new.length) (len+new.length) i.size,IF h e<|old++cs)
         else
          match h.get b with
          |some (.cells _ te fz)=>
           bif zf off 0&&zf o i.size&&zf te e&&zi fz.2 fz.1&&cs.all V.one then some (.sl h.nx 0 (len+new.length) (len+new.length) i.size,(h.kill b).push<|.cells (old++cs) e (0,0))
           else none
          |_=>none
        |none=>none
       else none
      |_=>none):=by
   intro hc;obtain⟨g1,K,cs,J,g4⟩:=ZV E hy hel hc;rw[<-e4]at J;refine⟨cs,J,g4,?_⟩;have hcond:(zl 0 i.bytes&&zl 0 i.size&&zf i.zero.length i.size&&(zf i.size 1||Px y))=true:=by
    grind
   have hint:isInt ex=false:=by cases ex<;>first|rfl|cases hss
   simp only[Gg,hts,htx,hu,hux,g1,hi,hint,hcond,we,J];cases x<;>rfl
  split at d
  case h_3=>simp at d
  case h_1=>
   simp only[PR]at O;subst O;have grow:c=true->0<new.length->(3*new.length+2000)*i.bytes<=jY->OK B h0 F ρ st h (Fg [PV.nil,q]) (EW<|Gg C.T h ts [.nils,y]) (.sl st.nx s.sz 0 new.length none) (st.push<|.arr false e s new):=by
    intro k1 k2 k3;obtain⟨cs,g1,K,J⟩:=head k1;have P:zf new.length 0=false:=by grind [Bm]
    have b2:zi ((3*new.length+2000)*i.bytes) 562949953421312=true:=Nat.ble_eq_true_of_le k3;rw[J];simp only[P,b2,wg,we];exact OK.new E (o:=.arr false e s new) (n:=new.length) rfl ⟨_,_,rfl,K,zd _,rfl⟩ (Og<|.inr e4)
   have same:c=true->new.length=0->OK B h0 F ρ st h (Fg [PV.nil,q]) (EW<|Gg C.T h ts [.nils,y]) .nil st:=by
    intro k1 k2;obtain⟨cs,g1,K,J⟩:=head k1;have P:zf new.length 0=true:=by rw[k2];rfl
    rw[J];simp only[P,we];exact⟨.nils,h,F,ρ,.inl rfl,by simp[PR],E,zk,rfl,rfl,zd _,(by simp)⟩
   split at d
   case h_1=>
    simp_all [OT,HH,lz]
   case h_2=>
    have hc':c=true:=by
     exact ZK hel
    by_cases Z:0<new.length
    ·rw[w4 Z]at d;cases d with
     |tt d=>
      simp_all
    ·rw[w8 Z]at d;cases d with
     |ff d=>
      simp_all
   case h_3=>
    by_cases Z:0<new.length
    ·rw[w4 Z]at d;cases d with
     |tt d=>
      simp_all
    ·rw[w8 Z]at d;cases d with
     |ff d=>
      simp_all
   simp_all
  case h_2=>
   rename_i id sz off len cap;split at d
   case h_2=>simp at d
   rename_i e' r l ho;split at d
   case h_2=>simp at d
   rename_i l' hl';obtain⟨ecast,hcast⟩:=Ct hl';have es:r=s:=ah
   subst es;have:l'=l:=ah
   subst this;cases R:(zf e e'&&zf sz r.sz)with
   |false=>simp_all
   |true=>
    rw[R]at d;simp only[ze]at R;have ee:=zg R.1;have esz:=zg R.2;subst ee;subst esz;simp only[we]at d;split at d
    case h_2=>
     rename_i k;simp only[B4,ze,w5]at d;obtain⟨⟨⟨k1,k2⟩,k3⟩,rfl,rfl⟩:=d;obtain⟨cs,g1,K,J⟩:=head k1;obtain⟨b,n,z,h1,h2,⟨bs,fz,rfl,h3,h4,h5⟩,h6,_⟩:=E.at ho;simp only[PR]at O;rw[J];have hone:cs.all V.one=true:=K.TV;have hcl:cs.length=new.length*r.sz:=K.1;have hbl:=h3.1;have hle:(off+len+new.length)*r.sz<=l'.length*r.sz:=zm _ ae;have hexp:(off+len+new.length)*r.sz=off*r.sz+len*r.sz+new.length*r.sz:=ah
     have hsp:=Dd.jU h3 K (a:=off+len) ae;have D:(l'.take (off+len)++(new++l'.drop (off+len+new.length))).length=l'.length:=by simp;omega
     rcases O.2 b n h1 with⟨_,g6,o,g5,rfl⟩|⟨e0,ek,g6,g7⟩
     ·simp only[zz]at g6;have hw:wr h b (off*r.sz+len*i.size) cs=some (h.put b<|.cells (Cn ((off+len)*r.sz) cs bs) e fz):=by
       grind [MG,yc]
      have P:zi (len+new.length) k=true:=(by simp_all);refine⟨.sl b (off*r.sz) (len+new.length) k o,h.put b<|.cells (Cn ((off+len)*r.sz) cs bs) e fz,F,ρ,.inl ?_,?_,E.set ho h1 h2 rfl rfl (o':=.arr false e r _) ⟨_,fz,rfl,hsp,h4,D.trans h5⟩,zk,rfl,rfl,zd _,fun c _=>?_⟩
      ·simp only[zz,P,we,hw,z8,EW]
      ·simp only[PR];refine⟨O.1,fun b' n' hb'=>.inl ?_⟩;grind
      ·rw[H.BT];by_cases e:c=b
       ·grind [Fg]
       grind
     ·cases ek;subst e0;have hn0:new.length=0:=ae
      have S:new=[]:=ah;subst S;have hcs:cs=[]:=(by grind [z6]);subst hcs;have hlp:Cn ((off+0)*r.sz) [] bs=bs:=(by grind [N8]);have W:∀c,(h.put b<|.cells (Cn ((off+0)*r.sz) [] bs) e fz).get c=h.get c:=by
       intro c;rw[hlp,H.BT];grind
      have hset:=E.set ho h1 h2 rfl rfl (o':=.arr false e r _) (x':=.cells (Cn ((off+0)*r.sz) [] bs) e fz) ⟨_,fz,rfl,hsp,h4,D.trans h5⟩;have L:SR B h0 F ρ st.nx (DP st.ob id<|.arr false e r<|l'.take (off+0)++([]++l'.drop (off+0+0))) h:=
       SR.congr (st:=⟨st.n,st.fr,DP st.ob id _,st.nx⟩) hset ah rfl
      have hpr:∀w,(w=.esl\/∃A,w=.sl b A 0 0 0/\A<=off*r.sz)->PR F ρ st.nx (.sl id r.sz off (Nat.add 0 0)<|some 0) w:=by
       grind [PR]
      rcases g7 with rfl|⟨A,rfl,hoff'⟩
      ·exact⟨.esl,h,F,ρ,.inl rfl,hpr _<|.inl rfl,L,zk,rfl,rfl,zd _,(by simp)⟩
      ·have hob:A<=bs.length:=by
        omega
       have hw:wr h b (A+0*i.size) []=some (h.put b<|.cells (Cn (A+0*i.size) [] bs) e fz):=MG h2 ae h4 rfl;have Y:∀c,(h.put b<|.cells (Cn (A+0*i.size) [] bs) e fz).get c=h.get c:=by
        simp_all [N8]
       refine⟨.sl b A 0 0 0,h.put b<|.cells (Cn (A+0*i.size) [] bs) e fz,F,ρ,.inl ?_,hpr _<|.inr ⟨A,rfl,hoff'⟩,SR.congr (st:=⟨st.n,st.fr,DP st.ob id _,st.nx⟩) L Y rfl,zk,rfl,rfl,zd _,ah⟩;simp_all [zi,EW]
    simp only[B4,ze,w5]at d;obtain⟨⟨⟨⟨k1,k2⟩,k3⟩,k4⟩,rfl,rfl⟩:=d;subst k2;obtain⟨cs,g1,K,J⟩:=head k1;obtain⟨b,n,z,h1,h2,⟨bs,fz,rfl,h3,h4,h5⟩,h6,_⟩:=E.at ho;have hFb:=h6 rfl;simp only[PR]at O;have hB:=(E.own id b n h1).2;have hPb:b∉h0.pin:=fun hp=>(E.pn b hp).2.2 id n h1
    have hidN:=ae;obtain⟨_,_,o,g5,rfl⟩:len<=len/\0+len<=n/\∃o,(o=0\/o=r.sz)/\x=.sl b (0*r.sz) len len o:=by
     rcases O.2 b n h1 with g|⟨_,e,_⟩
     ·exact g
     grind
    have hbl:bs.length=len*i.size:=by rw[h3.1,k3,e4]
    have I:∀j oj m,AN (F9 st.ob id) j=some oj->Bq ρ id none j≠some (b,m):=by
     intro j oj m hj hjr;rw[Di]at hj;split at hj
     ·cases hj
     ·rename_i hne;simp only[Bq,hne,vf]at hjr;exact hne<|E.inj j id oj _ b m n hj ho hjr h1
    have M:=E.del id;have U:Le F ρ st.nx F (Bq ρ id none) st.nx:=Le.Jb id;have hnew:Dd F r (l'++new) (bs++cs):=h3.append K;have D:(l'++new).length=len+new.length:=ah
    have hone:cs.all V.one=true:=K.TV;rw[J];simp only;by_cases Z:new.length=0
    ·
     have S:new=[]:=ah;have hcs:cs=[]:=z6.1 (by rw[K.1,Z,z7]);subst hcs;have P:zi (len+new.length) len=true:=(by simp_all);have hw:wr h b (0*r.sz+len*i.size) []=some (h.put b<|.cells (Cn (0*r.sz+len*i.size) [] bs) e fz):=MG h2 ah h4 rfl;have W:∀c,(h.put b<|.cells (Cn (0*r.sz+len*i.size) [] bs) e fz).get c=h.get c:=by
      simp_all [N8]
     refine⟨.sl b (0*r.sz) (len+new.length) len o,h.put b<|.cells (Cn (0*r.sz+len*i.size) [] bs) e fz,F,Bq (Bq ρ id none) st.nx<|some (b,n),.inl ?_,?_,?_,U.trans<|Le.new _,rfl,rfl,zd _,ah⟩
     ·simp only[P,we,hw,z8,EW]
     ·unfold PR;refine⟨Nat.lt_succ_self _,fun b' n' hb=>.inl ?_⟩;simp_all [Bq]
     ·refine SR.gD (ob:=F9 st.ob id) ?_ (x:=.cells bs e fz) ah I hFb hB hPb rfl ⟨bs,fz,rfl,?_,h4,?_⟩
      ·exact SR.congr (st:=⟨st.n,st.fr,F9 st.ob id,st.nx⟩) M W rfl
      ·grind
      omega
    ·
     have P:zi (len+new.length) len=false:=by
      cases hb:zi (len+new.length) len with
      |false=>rfl
      |true=>have:=zu hb;omega
     have b2:zi ((3*(len+new.length)+2000)*i.bytes) 562949953421312=true:=Nat.ble_eq_true_of_le k4;have hsrc:src h i.size (.sl b (0*r.sz) len len o) len=some bs:=by
      show rd h b (0*r.sz) (len*i.size)=_;rw[rd_some h2 ae<|fun u hu=>h3.ok u ah];grind
     simp only[P,b2,wg,we,hsrc];have fin:∀ {G:H},SR B h0 F (Bq ρ id none) st.nx (F9 st.ob id) G->G.nx=h.nx->(∀c,c≠b->G.get c=h.get c)->
       OK B h0 F ρ st h [id] (EW<|some (.sl h.nx 0 (len+new.length) (len+new.length) i.size,G.push<|.cells (bs++cs) e (0,0))) (.sl st.nx r.sz 0 (Nat.add len new.length) none) ((st.FE id).push<|.arr false e r<|l'++new):=by
      intro G hr1 hnx hg;have hp:=hr1.push (o:=.arr false e r<|l'++new) (x:=.cells (bs++cs) e (0,0)) (n:=len+new.length) rfl ⟨_,_,rfl,hnew,zd _,D⟩;refine⟨_,_,F,_,.inl rfl,?_,hp,U.trans<|Le.new _,rfl,rfl,by simp_all,fun c hc=>?_⟩
      ·rw[<-hnx];exact Og<|.inr e4
      ·rw[H.Cw,wc ae];grind
     rcases g5 with rfl|rfl
     ·exact fin M rfl (fun _ _=>rfl)
     ·have b3:zf r.sz 0=false:=by
       rw[<-e4];cases hb:zf i.size 0 with
       |false=>rfl
       |true=>simp_all
      have b4:(zf (0*r.sz) 0&&zf r.sz i.size&&zf e e&&zi fz.2 fz.1&&cs.all V.one)=true:=by
       simp_all
      simp only[b3,wg,h2,b4,we];exact fin (M.kill I hFb hB hPb) rfl (by simp_all)
theorem EN:∀ {s:Sh} {x:s.T} {v:V},DV F s x v->PR F ρ N (BU s x) v
 | .pair a b,x,v,h=>by obtain⟨cs,rfl,c⟩:=h.1 rfl;simp_all [BU,PR,CF]
 | .unit,x,v,h=>by obtain⟨cs,rfl,c⟩:=h.1 rfl;simp_all [DC,BU,PR]
 | .int _,x,v,h=>by have:=h.2 rfl;unfold BU PR;omega
 | .bool,x,v,h=>by have:=h.2 rfl;unfold BU PR;omega
 | .str,x,v,h=>by have:=h.2 rfl;unfold BU PR;omega
 | .list _,x,v,h=>by have:=h.2 rfl;unfold BU PR;omega
 | .nlist _,x,v,h=>by have:=h.2 rfl;unfold BU PR;omega
 | .fnv,x,v,h=>by
  have:=h.2 rfl;simp only[DC,zq,ve]at this;subst this;unfold BU;cases (x:Option Fn)<;>simp[PR]
 | .ptr s,x,v,h=>by
  have:=h.2 rfl;grind [DC,BU,PR]
theorem oW{s:Sh}{p:PV}{x:s.T}{v:V}(c:PR F ρ N p v)(b:asV s p=some x):DV F s x v:=by
 unfold asV at b;cases a:(M9 p==s.Nf)with
 |false=>grind
 |true=>
  rw[a]at b;refine⟨fun e=>?_,fun e=>?_⟩
  ·rw[e]at a;cases p<;>simp only[M9]at a<;>try (cases a;done)
   obtain⟨cs,rfl,d⟩:=c;exact⟨cs,rfl,CM d b⟩
  ·rw[e]at a;have:p.cells=[p]:=by cases p<;>first|rfl|(simp[M9]at a)
   rw[this]at b;exact CM (by simpa using c) b
theorem cJ{T:BX}{t:TypeId}{s:Sh}(h:sG T t=some s):(∃k,s=.int k/\T.und t=some (.int k))\/(s=.str/\T.und t=some .string)\/(s=.bool/\T.und t=some .bool):=by
 unfold sG at h;grind
theorem Vz{T:BX}{t:TypeId}{s:Sh}(a:sG T t=some s){p:PV}{x:s.T}{v:V}(c:PR F ρ N p v)(b:qC s p=some x):DV F s x v:=by
 have:=Gj c b;rcases cJ a with⟨k,rfl,_⟩|⟨rfl,_⟩|⟨rfl,_⟩<;>exact⟨fun e=>(by cases e),fun _=>this⟩
theorem Se{T:BX}{t:TypeId}{s:Sh}(c:sG T t=some s){x:s.T}{v:V}(e:DV F s x v):∃d,T.und t=some d/\IL T t d v=true/\(∀es,Ka T t v es=K3 T t v es 0)/\∀y u,DV F s y u->fP T t v u=some (tP s x y):=by
 rcases cJ c with⟨k,rfl,a⟩|⟨rfl,a⟩|⟨rfl,a⟩<;>
 ·have b:=e.2 rfl;simp only[DC,zq,ve]at b;subst b;refine⟨_,a,rfl,fun _=>rfl,fun y u g=>?_⟩;have i:=g.2 rfl;simp_all [DC,fP,tP]
theorem OF{T:BX}{t:TypeId}{ks vs:Sh}(L:sG T t=some ks){k:ks.T}{p:V}(w:DV F ks k p):∀ {l:List (ks.T×vs.T)} {es:List (V×V×Nat)},MR F ks vs l es->∀i,∃r,K3 T t p es i=some r/\
  (match r with
   |none=>M8 ks vs k l=none/\Rg ks vs k l=l/\∀x g c,DV F vs x g->MR F ks vs (RV ks vs k x l) (es++[(p,g,c)])
   |some (j,u)=>(∃v,M8 ks vs k l=some v/\DV F vs v u)/\i<=j/\MR F ks vs (Rg ks vs k l) (es.eraseIdx<|j-i)/\∀x g,DV F vs x g->MR F ks vs (RV ks vs k x l) (Vx es (j-i) p g)):=by
 intro l es K;induction K with
 |nil=>intro i;exact⟨none,rfl,rfl,rfl,fun x g c m=>.cons w m .nil⟩
 |@cons a b l O G n es q y P M=>
  intro i;obtain⟨d,_,_,_,s⟩:=Se L w;have s:=s a O q;unfold K3;rw[s];cases o:tP ks k a with
  |true=>
   refine⟨some (i,G),rfl,(by grind [M8]),zd _,?_,fun x g m=>?_⟩
   ·simp_all [Rg]
   ·simp only[Nat.sub_self,RV,o,we,Vx,List.modify_zero_cons];exact .cons w m P
  |false=>
   obtain⟨r,I,A⟩:=M<|i+1;refine⟨r,I,?_⟩;cases r with
   |none=>
    obtain⟨E,D,z⟩:=A;refine⟨by simp_all [M8],by simp_all [Rg],fun x g c m=>?_⟩;simp only[RV,o,wg,List.cons_append];exact .cons q y<|z x g c m
   |some J=>
    obtain⟨j,u⟩:=J;obtain⟨⟨v,E,D⟩,z,k4,k5⟩:=A;have e:j-i=(j-(i+1))+1:=ae
    refine⟨(by simp_all [M8]),by omega,?_,fun x g m=>?_⟩
    ·rw[e];simp only[List.eraseIdx_cons_succ,Rg,o,wg];exact .cons q y k4
    ·rw[e];simp only[RV,o,wg,Vx,List.modify_succ_cons];exact .cons q y<|k5 x g m
theorem sF(b:SR B h0 F ρ st.nx st.ob h){t:TypeId}{v:PV}(a:(Vt C.T t st).To v st'):OK B h0 F ρ st h [] (EW<|II h none) v st':=by
 unfold Vt at a;split at a
 case h_2=>simp at a
 split at a
 case h_2=>simp at a
 rename_i ks vs c d;obtain⟨rfl,rfl⟩:=a;refine OK.new b (o:=.map ks vs []) (x:=.map [] 0) (n:=0) rfl ⟨[],0,rfl,.nil⟩ ?_;simp_all [PR,Bq]
theorem Zt(d:SR B h0 F ρ st.nx st.ob h){ks vs:Sh}{m:PV}{l:List (ks.T×vs.T)}{x:V}(j:PR F ρ st.nx m x)(a:hI st ks vs m=some l):∃es,entries h x=some es/\MR F ks vs l es:=by
 unfold hI at a;split at a
 ·cases a;subst j;exact⟨[],rfl,.nil⟩
 ·split at a
  case h_2=>cases a
  rename_i i c l' g;obtain⟨e,k⟩:=Ct a;obtain⟨rfl,rfl⟩:=e;obtain⟨b,n,o,h1,h2,⟨es,clk,rfl,h4⟩,_⟩:=d.at g;simp_all [PR,entries]
 grind
theorem cB{ks vs:Sh}{ok:Bool}{z:vs.T}{x:ks.T}:∀ {l:List (ks.T×vs.T)} {v:PV},(zX ks vs ok z x st l).To v st'->st=st'/\((M8 ks vs x l=none/\v=bif ok then .tup [BU vs z,.bl false]else BU vs z)\/∃w,M8 ks vs x l=some w/\v=bif ok then .tup [BU vs w,.bl true]else BU vs w)
 |[],v,d=>by
  unfold zX at d;simp only[B1]at d;exact⟨d.2,.inl ⟨rfl,d.1.symm⟩⟩
 |(a,b)::l,v,d=>by
  unfold zX at d;generalize e:tP ks x a=c at d;cases d with
  |tt d=>
   grind [B1,M8]
  |ff d=>
   obtain⟨g,i⟩:=cB d;grind [M8]
theorem bJ(b:SR B h0 F ρ st.nx st.ob h){t:TypeId}{p q:PV}{x y:V}(P:PR F ρ st.nx p x)(Y:PR F ρ st.nx q y){ok:Bool}{v:PV}(a:(SG C.T t p q ok st).To v st'):OK B h0 F ρ st h [] (Bx h<|EE C.T h t x y ok) v st':=by
 unfold SG at a;split at a
 case h_2=>simp at a
 rename_i kt e M;split at a
 case h_2=>simp at a
 rename_i ks vs i d U I;split at a
 case h_2=>simp at a
 rename_i k l z K L S;cases c:(vAg i.zv==vs.Nf)with
 |false=>simp_all
 |true=>
  rw[c]at a;have m:=Vz d Y K;obtain⟨es,J,W⟩:=Zt b P L;obtain⟨kd,g1,g2,g3,_⟩:=Se d m;obtain⟨r,r1,r2⟩:=OF d m W 0;have u:DV F vs z i.zv:=by
   have D:DC F vs z i.zv.cells:=CM (Ef (F:=F) (ρ:=ρ) (N:=st.nx) i.zero) S;refine⟨fun e=>?_,fun e=>?_⟩
   ·rw[e]at c;cases g:i.zv<;>rw[g]at c<;>simp only[vAg]at c<;>try (cases c;done)
    rw[g]at D;exact⟨_,rfl,D⟩
   ·rw[e]at c;have:i.zv.cells=[i.zv]:=by cases g:i.zv<;>rw[g]at c<;>first|rfl|(simp[vAg]at c)
    grind
  unfold EE;simp only[M,g1,J,g2,we,g3,r1];cases E:vs.qL with
  |true=>
   rw[E]at a;have s:=cB a;obtain⟨O,A⟩:=s;subst O;rcases A with⟨Z,g⟩|⟨w,R,g⟩
   ·cases r with
    |none=>
     simp only[I];cases ok with
     |true=>exact zo b rfl (by simp_all [PR,EN])
     |false=>exact zo b rfl (by grind [EN])
    |some G=>
     grind
   ·cases r with
    |none=>grind
    |some G=>
     obtain⟨⟨v',j,o⟩,_⟩:=r2;rw[R]at j;cases j;cases ok with
     |true=>exact zo b rfl (by simp_all [PR,EN])
     |false=>exact zo b rfl (by rw[g];exact EN o)
  |false=>
  rw[E]at a;obtain⟨rfl,rfl⟩:=a;cases r with
  |none=>
   obtain⟨j,_⟩:=r2;simp only[I,j,Option.getD_none,Option.isSome_none];cases ok with
   |true=>exact zo b rfl (by simp only[we,PR];simp_all [EN,DF])
   |false=>exact zo b rfl (EN u)
  |some G=>
   obtain⟨⟨v,j,o⟩,_⟩:=r2;simp only[j,zz,Option.isSome_some];cases ok with
   |true=>exact zo b rfl (by simp only[we,PR];simp_all [EN,DF])
   |false=>exact zo b rfl (EN o)
theorem aS(u:SR B h0 F ρ st.nx st.ob h){t:TypeId}{p q r:PV}{x y z:V}(L:PR F ρ st.nx p x)(K:PR F ρ st.nx q y)(I:PR F ρ st.nx r z){v:PV}(i:(SN C.T t p q r st).To v st'):
  ∃id,p=.mp id/\OK B h0 F ρ st h [id] (eE<|Hf C.T h t x y z) v st':=by
 unfold SN at i;split at i
 case h_2=>simp at i
 rename_i R e id P;split at i
 case h_2=>simp at i
 rename_i ks g vs l j A;split at i
 case h_2=>simp at i
 rename_i k l2 w D E G;obtain⟨e1,S⟩:=Ct E;simp only[Sh.list.injEq,Sh.pair.injEq,ve]at e1;subst e1;simp only[B1]at i;have m:=Vz j K D;have J:=oW I G;obtain⟨b,n,o,h1,h2,⟨es,clk,rfl,h4⟩,_⟩:=u.at A;have s:=L;simp only[PR]at s;obtain⟨kd,g1,g2,g3,_⟩:=Se j m;obtain⟨r',r1,r2⟩:=OF j m h4 0;have fin:∀d a,MR F g vs (RV g vs k w l) d->OK B h0 F ρ st h [id] (eE<|some<|h.put b<|.map d a) (.tup []) (st.setObj id<|.map g vs<|RV g vs k w l):=by
  intro d a M;refine⟨.tup [],_,F,ρ,.inr ⟨rfl,rfl⟩,by simp[PR],u.set A h1 h2 rfl rfl ⟨d,a,rfl,M⟩,zk,rfl,rfl,zd _,fun c _=>?_⟩;by_cases O:c=b
  ·grind
  simp_all
 unfold Hf;grind
theorem kO(m:SR B h0 F ρ st.nx st.ob h){ts:Array TypeId}{ps:List PV}{p:List V}(u:BD F ρ st.nx ps p){v:PV}(a:(R2 C.T ts ps st).To v st'):
  ∃id r,ps=.mp id::r/\OK B h0 F ρ st h [id] (EW<|Lt C.T h ts p) v st':=by
 unfold R2 at a;split at a
 case h_2=>simp at a
 rename_i t id q s;split at a
 case h_2=>simp at a
 split at a
 case h_2=>simp at a
 rename_i ks e vs l g j;split at a
 case h_2=>simp at a
 rename_i k l2 w A;obtain⟨e1,D⟩:=Ct A;simp only[Sh.list.injEq,Sh.pair.injEq,ve]at e1;subst e1;simp only[B1]at a;obtain⟨x,xs',rfl,hx1,y,xs'',rfl,hy,rfl⟩:=u;have i:=Vz g hy w;obtain⟨b,n,o,h1,h2,⟨es,clk,rfl,h4⟩,_⟩:=m.at j;obtain rfl:=hx1.2 b n h1;obtain⟨kd,g1,g2,g3,_⟩:=Se g i;obtain⟨r',r1,r2⟩:=OF g i h4 0;have fin:∀d,MR F e vs (Rg e vs k l) d->OK B h0 F ρ st h [id] (EW<|some (.tup [],h.put b<|.map d clk)) (.tup []) (st.setObj id<|.map e vs<|Rg e vs k l):=by
  intro d z;refine⟨.tup [],_,F,ρ,.inl rfl,by simp[PR],m.set j h1 h2 rfl rfl ⟨d,clk,rfl,z⟩,zk,rfl,rfl,zd _,fun c _=>?_⟩;by_cases E:c=b
  ·grind
  simp_all
 unfold Lt;grind
theorem SR.same(i:SR B h0 F ρ st.nx st.ob h){id b n:Nat}{o o':Obj}{x:O}(j:st.obj id=some o)(l:ρ id=some (b,n))(e:h.get b=some x)(k:o.frozen=false)(d:o'.frozen=false)
  (g:Wr F ρ st.nx n o' x):SR B h0 F ρ st.nx (DP st.ob id o') h:=by
 have a:∀c,h.get c=(h.put b x).get c:=by
  simp_all
 exact SR.congr (st:=⟨st.n,st.fr,DP st.ob id o',st.nx⟩) (i.set j l e k d g) a rfl
theorem pR(q:SR B h0 F ρ st.nx st.ob h){ts:Array TypeId}{ps:List PV}{G:List V}(r:BD F ρ st.nx ps G){v:PV}(d:(WS C.T ts ps st).To v st'):OK B h0 F ρ st h (Fg ps) (EW<|Fs C.T h ts G) v st':=by
 unfold WS at d;split at d
 case h_2=>simp at d
 rename_i t p u;obtain⟨x,_,rfl,r,rfl⟩:=r;split at d
 case h_2=>simp at d
 rename_i e L;split at d
 case h_3=>simp at d
 case h_1=>
  obtain⟨rfl,rfl⟩:=d;simp only[PR]at r;exact⟨.tup [],h,F,ρ,(by simp_all [Fs,EW]),by simp[PR],q,zk,rfl,rfl,zd _,(by simp)⟩
 rename_i id sz off len cap;split at d
 case h_2=>simp at d
 rename_i i m s l U A;cases E:(zf sz s.sz&&zl 0 i.zero.length&&zf i.zero.length s.sz&&Det.KU V.one i.zero)with
 |false=>simp_all
 |true=>
  rw[E]at d;simp only[ze,Fi]at E;obtain⟨⟨⟨D,S⟩,Y⟩,c4⟩:=E;have D:=zg D;subst D;simp only[we]at d;split at d
  case h_2=>simp at d
  rename_i z M;simp only[B4,w5]at d;obtain⟨K,rfl,rfl⟩:=d;obtain⟨b,n,y,h1,h2,⟨bs,fz,rfl,h3,h4,h5⟩,h6,_⟩:=q.at A;have w:DC F s z i.zero:=CM (Ef (F:=F) (ρ:=ρ) (N:=st.nx) i.zero) M;have g:=Dd.replicate w len;have j:=Dd.jU h3 g (a:=off) ah;rw[List.length_replicate]at j;have k:(l.take off++(zt len z++l.drop (off+len))).length=l.length:=ah
  have skip:Fs C.T h ts [x]=some (.tup [],h)->len=0->OK B h0 F ρ st h (Fg [.sl id s.sz off len cap]) (EW<|Fs C.T h ts [x]) (.tup []) (st.setObj id<|.arr false m s<|l.take off++(zt len z++l.drop (off+len))):=by
   intro P h0;subst h0;have el:l.take off++(zt 0 z++l.drop (off+0))=l:=by simp
   refine⟨.tup [],h,F,ρ,.inl (by rw[P];rfl),by simp[PR],q.same A h1 h2 rfl rfl (o':=.arr false m s _) ⟨bs,fz,rfl,?_,h4,?_⟩,zk,rfl,rfl,zd _,(by simp)⟩
   ·grind
   omega
  rcases r.2 b n h1 with⟨_,J,o,W,rfl⟩|⟨Z,ek,J,rfl|⟨I,rfl,_⟩⟩
  ·by_cases h0:len=0
   ·simp_all [Fs]
   ·have O:wr h b (off*s.sz) (E9 i.zero<|len*i.zero.length)=some (h.put b<|.cells (Cn (off*s.sz) ((zt len i.zero).flatten) bs) m fz):=by
     rw[HS];refine MG h2 ?_ h4 ?_
     ·rw[g.1,List.length_replicate, <-yc,h3.1];exact zm _ K
     grind
    have R:zf len 0=false:=by rw[Bm];simp[h0]
    refine⟨.tup [],h.put b<|.cells (Cn (off*s.sz) ((zt len i.zero).flatten) bs) m fz,F,ρ,.inl ?_,by simp[PR],q.set A h1 h2 rfl rfl (o':=.arr false m s _) ⟨_,fz,rfl,j,h4,k.trans h5⟩,zk,rfl,rfl,zd _,fun c _=>?_⟩
    ·simp only[Fs,u,L,R,wg,U,S,we,O,z8,EW]
    ·rw[H.BT];by_cases e:c=b
     ·grind [Fg]
     grind
  ·simp_all [Fs]
  simp_all [Fs]
theorem mT(e:SR B h0 F ρ st.nx st.ob h){t:TypeId}{p:PV}{x:V}(c:PR F ρ st.nx p x){v:PV}(a:(Wd C.T t p st).To v st'):OK B h0 F ρ st h [] (EW<|HQ C.T h t x) v st':=by
 unfold Wd at a;split at a
 case h_2=>simp at a
 rename_i s b;obtain⟨rfl,rfl⟩:=a;obtain rfl:=FQ c;have d:HQ C.T h t (.str s)=some (.ptr h.nx 0,h.push<|.siter s 0):=by simp[HQ,RD,b]
 rw[d];exact OK.new e (o:=.siter s 0) (n:=0) rfl rfl Km
theorem yN(d:SR B h0 F ρ st.nx st.ob h){p:PV}{x:V}(l:PR F ρ st.nx p x){i:Bool}{v:PV}(a:(gG p i st).To v st'):i=true/\∃id off,p=.ptr id off/\OK B h0 F ρ st h [id] (EW<|MN h x i) v st':=by
 unfold gG at a;split at a
 case h_2=>simp at a
 rename_i id;split at a
 case h_2=>simp at a
 rename_i s pos g;obtain⟨b,n,y,k,j,o,q,_⟩:=d.at g;subst o;obtain rfl:=l.2 b n k;refine⟨rfl,id,0,rfl,?_⟩;by_cases e:pos<s.length
 ·rw[w4 e]at a;cases a with
  |tt a=>
   obtain⟨rfl,rfl⟩:=a;have m:MN h (.ptr b 0) true=some (.tup [.bool true,i64 pos,.int .i32<|rune s pos],h.put b<|.siter s<|pos+sO s pos):=by
    simp only[MN,j,F4,w4 e,we];rfl
   refine⟨_,_,F,ρ,.inl (by rw[m];rfl),?_,d.set g k j rfl rfl (o':=.siter s _) rfl,zk,rfl,rfl,zd _,fun c _=>?_⟩
   ·simp[PR,DC,i64]
   ·rw[H.BT];grind
 ·rw[w8 e]at a;cases a with
  |ff a=>
   obtain⟨rfl,rfl⟩:=a;refine⟨.tup [.bool false],h,F,ρ,.inl ?_,by simp[PR],d,zk,rfl,rfl,zd _,(by simp)⟩;simp_all [MN,F4,w8,EW]
end
section
variable {B:Nat}{h0:H0}{F:Fz}{ρ:DZ}{N:Nat}{C:Ctx}{st st':AG}{h:H}
def vA:List PV->List Nat
 | .eptr id _ _ _::_=>[id]
 |_=>[]
theorem rO(d:SR B h0 F ρ st.nx st.ob h){ps:List PV}{e:List V}(c:BD F ρ st.nx ps e){v:PV}(a:(U9 ps st).To v st'):OK B h0 F ρ st h [] (Bx h<|NW e) v st':=by
 unfold U9 at a;split at a
 case h_2=>simp at a
 rename_i id sz off len;cases g:H7 (st.obj id)with
 |false=>simp_all
 |true=>
  rw[g]at a;simp only[we,B4,w5]at a;obtain⟨i,rfl,rfl⟩:=a;obtain⟨o,ho⟩:=Vu g;obtain⟨b,n,z,g1,_⟩:=d.at ho;obtain⟨x,_,rfl,c,rfl⟩:=c;simp only[PR]at c;obtain⟨_,_,o',_,rfl⟩:len<=len/\off+len<=n/\∃o,(o=0\/o=sz)/\x=.sl b (off*sz) len len o:=by
   grind
  refine zo d (v':=.ptr b<|off*sz) ?_ ?_
  ·have:zl 0 len=true:=by simp_all
   simp only[NW,this,we];rfl
  grind [PR]
theorem cY{k:IntKind}:∀ {l:List Int} {cs:List V},Dd F (.int k) l cs->cs=l.map (V.int k):=by
 intro l cs a;have g:cs.length=l.length:=by rw[a.1];simp[Sh.sz]
 apply List.ext_getElem
 ·grind
 ·intro i c d;have b:i<l.length:=ae
  have:=a.2 i b;have e:(cs.drop<|i*Sh.sz (.int k)).take (Sh.sz<|.int k)=[cs[i]]:=by
   rw[show Sh.sz (.int k)=1 from rfl,Nat.mul_one,zw c];rfl
  grind [DC]
theorem Po:∀ {l:List Int},Qt l=true->HN (l.map<|V.int .u8)=some (R3 l)
 |[],_=>rfl
 |x::l,h=>by
  unfold Qt at h;rw[ye,ze,ze,w5,w5]at h;have a:=Po (l:=l) h.2;grind [Nat.blt_eq,Sd,HN,R3]
theorem VY{l:List Int}(h:Qt l=true)(n:Nat):Qt (l.take n)=true:=by
 grind [Qt]
theorem wP(g:SR B h0 F ρ st.nx st.ob h){ts:Array TypeId}{ps:List PV}{G:List V}(D:BD F ρ st.nx ps G){v:PV}(a:(iB C.T ts.toList ps st).To v st'):OK B h0 F ρ st h (vA ps) (EW<|TL C.T h ts.toList G) v st':=by
 unfold iB at a;split at a
 case h_2=>simp at a
 rename_i R it id sz i n r;split at a
 case h_2=>simp at a
 rename_i e u s l hu I;split at a
 case h_2=>simp at a
 rename_i S t hi E;cases Y:(zf S.size 1&&zf e u)with
 |false=>simp_all
 |true=>
  rw[Y]at a;simp only[we,B4,ze,w5]at a;obtain⟨⟨⟨⟨⟨L,J⟩,k3⟩,k4⟩,K⟩,rfl,rfl⟩:=a;subst L;obtain⟨es,he⟩:=Ct E;have e2:s=.int .u8:=ah
  subst e2;have:t=l:=ah
  subst this;obtain⟨m,rfl⟩:=Int.eq_ofNat_of_zero_le<|Int.le_of_lt J;obtain⟨b,n',z,h1,h2,⟨cs,fz,rfl,h3,h4,h5⟩,h6,_⟩:=g.at I;have A:=h6 rfl;obtain⟨x,_,rfl,D,y,_,rfl,hy,rfl⟩:=D;obtain rfl:=C8 hy;obtain rfl:=D.2 b n' h1;have U:=(g.own id b n' h1).2;have w:b∉h0.pin:=fun M=>(g.pn b M).2.2 id n' h1
  have d:∀j oj m,AN (F9 st.ob id) j=some oj->Bq ρ id none j≠some (b,m):=by
   intro j oj m q o;rw[Di]at q;split at q
   ·cases q
   ·rename_i k;simp only[Bq,k,vf]at o;exact k<|g.inj j id oj _ b m n' q I o h1
  have p:=g.del id;have O:=cY h3;have W:cs.take m=(t.take m).map (V.int .u8):=by simp_all
  have hb:=Po<|VY K m;have Z:TL C.T h ts.toList [.ptr b<|0*sz+0,.int .i64 (m:Int)]=some (.str<|R3<|t.take m,h.kill b):=by
   rw[z7];rw[r];show(match C.T.und R,h.get b with
    |some (.pointer e),some (.cells cs u fz)=>(match C.T.inf e,HN (cs.take m)with
     |some i,some l=>bif zf i.size 1&&zf e u&&zl 0 m&&zi m cs.length&&zi m 9223372036854775807&&zi fz.2 fz.1 then some (V.str l,h.kill b)else none
     |_,_=>none)
    |_,_=>none)=_
   have c1:zl 0 m=true:=by simp_all
   have c2:zi m cs.length=true:=(by simp_all);have c3:zi m 9223372036854775807=true:=(by simp_all);have c4:zi fz.2 fz.1=true:=(by simp_all);grind
  rw[Z];refine⟨_,_,F,Bq ρ id none,.inl rfl,V9 _,p.kill d A U w,Le.Jb id,rfl,rfl,zd _,fun c _=>?_⟩;rw[H.Dv];by_cases P:c=b
  ·exact .inr ⟨id,zc.2 rfl,n',P▸h1⟩
  grind
end
section
variable {B:Nat}{h0:H0}{C:Ctx}{F F1 F':Fz}{ρ:DZ}{N:Nat}{st st':AG}{fr:Fr}{h h':H}
def PC(F:Fz)(p:PV)(v:V):Prop:=∀ρ N,PR F ρ N p v
def Kj(F:Fz)(ps:List PV)(vs:List V):Prop:=∀ρ N,BD F ρ N ps vs
theorem Le.Zr(a:∀b cs,F b=some cs->F1 b=some cs):Le F ρ N F1 ρ N:=⟨a,(by simp),zd _⟩
theorem PC.mono(a:∀b cs,F b=some cs->F1 b=some cs){p:PV}{v:V}(c:PC F p v):PC F1 p v:=fun ρ N=>(c ρ N).mono<|Le.Zr a
theorem Kj.cons{p:PV}{ps:List PV}{v:V}{vs:List V}(b:PC F p v)(a:Kj F ps vs):Kj F (p::ps) (v::vs):=fun ρ N=>(BB ..).2 ⟨b ρ N,a ρ N⟩
theorem Kj.dc{s:Sh}{ps:List PV}{vs:List V}{x:s.T}(b:Kj F ps vs)(a:Dg s ps=some x):DC F s x vs:=CM (b (fun _=>none) 0) a
theorem PC.BU:∀ {s:Sh} {x:s.T} {cs:List V},DC F s x cs->(s.Nf=true->PC F (BU s x) (.agg cs))/\(s.Nf=false->∀v,cs=[v]->PC F (BU s x) v)
 | .pair a b,x,cs,h=>⟨fun _ ρ N=>by simp_all [yh,PR,CF],fun e=>by cases e⟩
 | .unit,x,cs,h=>⟨fun _ ρ N=>by simp_all [DC,yh,PR],fun e=>by cases e⟩
 | .int _,x,cs,h=>(by grind [yh,PR,Sh.Nf,PC])
 | .bool,x,cs,h=>(by grind [yh,PR,Sh.Nf,PC])
 | .str,x,cs,h=>(by grind [yh,PR,Sh.Nf,PC])
 | .list _,x,cs,h=>(by grind [yh,PR,Sh.Nf,PC])
 | .nlist _,x,cs,h=>(by grind [yh,PR,Sh.Nf,PC])
 | .fnv,x,cs,h=>⟨fun e=>(by cases e),fun _ v c ρ N=>by
   subst c;simp only[DC,zq,ve]at h;subst h;unfold yh;cases (x:Option Fn)<;>simp[PR]⟩
 | .ptr s,x,cs,h=>(by grind [DC,yh,PR,Sh.Nf,PC])
theorem SR.AaX{ob c:Ob}(a:SR B h0 F ρ N ob h)(d:∀j,AN c j=AN ob j):SR B h0 F ρ N c h:=
 ⟨fun id o g=>a.obj id o<|d id▸g,fun id id' o o' b n n' e k=>a.inj id id' o o' b n n' (d id▸e) ah,a.frz,a.own,fun id i=>a.dead id ah,a.old,a.lt,a.le,a.fo,a.gl,a.pn⟩
theorem vU{s:Sh}{l:List s.T}{cs:List V}{b:Nat}(j:F b=some cs)(d:Dd F s l cs){off len:Nat}(e:off+len<=l.length){cap o:Nat}(c:len<=cap)(g:o=0\/o=s.sz):
  DC F (.list s) ((l.drop off).take len) [.sl b (off*s.sz) len cap o]:=by
 have a:((l.drop off).take len).length=len:=ah
 refine⟨_,rfl,.inr ⟨b,off*s.sz,cap,o,cs,by rw[a],by omega,j,?_,g,fun i k=>?_⟩⟩
 ·rw[a,d.1, <-yc];simp_all [zm]
 grind [Dd]
theorem Kt(st:AG)(p:PV):(Bv st p).nx=st.nx/\(Bv st p).fr=st.fr/\(Bv st p).n=st.n:=by
 unfold Bv;split
 ·split<;>exact⟨rfl,rfl,rfl⟩
 simp
theorem Dl:∀(ps:List PV) (st:AG),(Bk ps st).nx=st.nx/\(Bk ps st).fr=st.fr/\(Bk ps st).n=st.n
 |[],_=>⟨rfl,rfl,rfl⟩
 |p::ps,st=>by
  obtain⟨c,a,b⟩:=Dl ps<|Bv st p;grind [Kt,Bk]
theorem IS:∀(ps a:List PV) (st:AG),Bk (ps++a) st=Bk a (Bk ps st)
 |[],_,_=>rfl
 |p::ps,a,st=>IS ps a<|Bv st p
def DW:Option Obj->Option Obj->Prop
 |some (.arr _ e s l),o=>∃fz,o=some (.arr fz e s l)
 |a,b=>b=a
theorem DW.refl(o:Option Obj):DW o o:=by
 cases o with
 |none=>rfl
 |some o=>cases o<;>first|rfl|exact⟨_,rfl⟩
theorem MI(st:AG)(p:PV)(j:Nat):DW (st.obj j) ((Bv st p).obj j):=by
 unfold Bv;split
 case h_2=>exact DW.refl _
 split
 case h_2=>exact DW.refl _
 rename_i id _ _ _ _ _ fz e s l a;show DW (AN st.ob j)<|AN (DP st.ob id<|.arr true e s l) j;rw[G9 _ _ _ _<|by show(st.obj id).isSome=true;grind];split
 ·rename_i e1;subst e1;show DW (st.obj j) _;rw[a];exact⟨_,rfl⟩
 ·exact DW.refl _
theorem iD{st st':AG}(h:∀id,DW (st.obj id)<|st'.obj id)(p:PV):Cd st' p=Cd st p:=by
 cases p<;>try rfl
 case fn f a c=>cases a<;>cases c<;>rfl
 unfold Cd;rename_i id sz off len cap;have:=h id;cases b:st.obj id with
 |none=>rw[b]at this;simp only[b,show st'.obj id=none from this]
 |some o=>
  rw[b]at this;cases o with
  |arr fz e s l=>
   obtain⟨fz',d⟩:=this;grind
  |box _=>simp only[b,show st'.obj id=_ from this]
  |tbox _ _=>simp only[b,show st'.obj id=_ from this]
  |map _ _ _=>simp only[b,show st'.obj id=_ from this]
  |siter _ _=>simp only[b,show st'.obj id=_ from this]
  |lp _ _ _ _ _ _ _ _=>simp only[b,show st'.obj id=_ from this]
theorem Me{st st':AG}(h:∀id,DW (st.obj id)<|st'.obj id):∀ps:List PV,Ds st' ps=Ds st ps
 |[]=>rfl
 |p::ps=>by unfold Ds;rw[iD h p,Me h ps]
theorem DW.trans{a b c:Option Obj}(d:DW a b)(g:DW b c):DW a c:=by
 cases a with
 |none=>have:b=none:=d;grind
 |some o=>
  cases o with
  |arr fz e s l=>obtain⟨fz',rfl⟩:=d;exact g
  |box _=>have:b=_:=d;grind
  |tbox _ _=>have:b=_:=d;grind
  |map _ _ _=>have:b=_:=d;grind
  |siter _ _=>have:b=_:=d;grind
  |lp _ _ _ _ _ _ _ _=>have:b=_:=d;grind
theorem MM:∀(ps:List PV) (st:AG) (id:Nat),DW (st.obj id)<|(Bk ps st).obj id
 |[],_,_=>DW.refl _
 |p::ps,st,id=>(MI st p id).trans<|MM ps (Bv st p) id
theorem UF{st st':AG}(h:∀id,DW (st.obj id)<|st'.obj id)(s:Sh)(p:PV):GL st' s p=GL st s p:=by
 grind [GL,Me]
theorem LH{st st':AG}(h:∀id,DW (st.obj id)<|st'.obj id):∀(l:List Sh) (ps:List PV),CV st' l ps=CV st l ps
 |[],[]=>rfl
 |[],_::_=>rfl
 |[a],[p]=>UF h a p
 |[a],[]=>rfl
 |[a],_::_::_=>rfl
 |a::b::l,[]=>rfl
 |a::b::l,p::ps=>by unfold CV;rw[UF h a p,LH h (b::l) ps]
theorem MH(r:SR B h0 F ρ st.nx st.ob h){p:PV}{v:V}(hp:PR F ρ st.nx p v):
  ∃F1,SR B h0 F1 ρ (Bv st p).nx (Bv st p).ob h/\(∀b cs,F b=some cs->F1 b=some cs)/\∀x,Cd st p=some (true,x)->PC F1 x v:=by
 have same:∀ {q:PV},(∀x,Cd st q=some (true,x)->PC F x v)->Bv st q=st->∃F1,SR B h0 F1 ρ (Bv st q).nx (Bv st q).ob h/\(∀b cs,F b=some cs->F1 b=some cs)/\∀x,Cd st q=some (true,x)->PC F1 x v:=
  fun E h2=>⟨F,by grind,fun _ _ h=>h,E⟩
 cases p with
 |sl id sz off len cap=>
  cases J:st.obj id with
  |none=>grind [Cd,Bv]
  |some o=>
   cases o with
   |box _=>grind [Cd,Bv]
   |tbox _ _=>grind [Cd,Bv]
   |map _ _ _=>grind [Cd,Bv]
   |siter _ _=>grind [Cd,Bv]
   |lp _ _ _ _ _ _ _ _=>grind [Cd,Bv]
   |arr fz e s l=>
    obtain⟨b,n,x,E,h2,⟨cs,fz',rfl,R,h5,h6⟩,h7,h8⟩:=r.at J;have W:Bv st (.sl id sz off len cap)=st.setObj id (.arr true e s l):=by simp[Bv,J]
    have A:∀j,AN (DP st.ob id<|.arr true e s l) j=if j=id then some (.arr true e s l)else AN st.ob j:=(by grind [G9,AG.obj])
    have fin:∀ {G:Fz},G b=some cs->(∀b cs,F b=some cs->G b=some cs)->∀x,Cd st (.sl id sz off len cap)=some (true,x)->PC G x v:=by
     intro G hG P x t ρ' N';simp only[Cd,J]at t;cases u:zf sz s.sz with
     |false=>grind
     |true=>
      rw[u]at t;simp only[we,zh,zn,w5]at t;obtain⟨D,rfl⟩:=t;have u:=zg u;subst u;unfold PR;rcases hp.2 b n E with⟨M,O,o,Z,rfl⟩|⟨rfl,rfl,Z,rfl|⟨I,rfl,k4⟩⟩
      ·exact vU hG (R.mono P) D M Z
      ·simp[DC]
      ·simp only[List.take_zero,DC];refine⟨_,rfl,.inr ⟨b,I,0,0,cs,rfl,zd _,hG,?_,.inl rfl,(by simp)⟩⟩;simp only[List.length_nil,z7,Nat.add_zero];rw[R.1];exact zp k4 (by simp_all [zm])
    cases Y:fz with
    |true=>
     subst Y;obtain⟨cs',t',fz2,M,O⟩:=h8 rfl;refine⟨F,?_,fun _ _ h=>h,ah⟩;grind [SR.AaX,AG.setObj,AG.obj]
    |false=>
     have g:∀c cs',F c=some cs'->(fun c=>if c=b then some cs else F c) c=some cs':=by
      grind
     refine⟨fun c=>if c=b then some cs else F c,?_,g,ah⟩;rw[W];have D:Le F ρ st.nx (fun c=>if c=b then some cs else F c) ρ st.nx:=Le.Zr g;have z:∀k ok,AN (DP st.ob id<|.arr true e s l) k=some ok->∃o2,AN st.ob k=some o2:=by
      intro k ok hk;by_cases ek:k=id
      ·exact⟨_,ek▸J⟩
      grind
     refine⟨fun j oj d=>?_,fun i j oi oj c m m' hi d L U=>?_,fun c cs' K=>?_,r.own,fun j d=>?_,r.old,r.lt,r.le,fun c cs' K=>?_,r.gl,r.pn⟩
     ·have d:AN (DP st.ob id<|.arr true e s l) j=some oj:=d;rw[A]at d;by_cases T:j=id
      ·subst T;simp only[wm,zh]at d;subst d;refine⟨b,n,_,E,h2,⟨cs,fz',rfl,R.mono g,h5,h6⟩,fun e=>(by cases e),(by simp)⟩
      ·rw[wc T]at d;obtain⟨c,m,y,L,U,g3,g4,g5⟩:=r.obj j oj d;have hne:c≠b:=fun S=>T<|r.inj j id oj _ c m n d J L<|S▸E
       exact⟨c,m,y,L,U,g3.mono D,ah,ah⟩
     ·obtain⟨_,M⟩:=z i oi hi;obtain⟨_,O⟩:=z j oj d;exact r.inj i j _ _ c m m' M O L U
     ·split at K
      ·grind
      ·exact r.frz c cs' K
     ·have d:AN (DP st.ob id<|.arr true e s l) j=none:=d;rw[A]at d;split at d
      ·cases d
      ·exact r.dead j d
     ·split at K
      ·rename_i S;subst S;exact .inr (r.own id c n E).2
      ·exact r.fo c cs' K
 |dat s x=>exact same (fun y w ρ' N'=>by simp only[Cd,zh,zn,true_and]at w;grind [PR]) rfl
 |bl b=>exact same (fun y w ρ' N'=>by simp only[Cd,zh,zn,true_and]at w;grind [PR]) rfl
 |nil=>exact same (fun y w ρ' N'=>by simp only[Cd,zh,zn,true_and]at w;grind [PR]) rfl
 |Ei s x off=>exact same (fun y w ρ' N'=>by simp only[Cd,zh,zn,true_and]at w;grind [PR]) rfl
 |any|ub|yl _|nilp|nilm|nilf|nili|agg _|tup _|ptr _ _|eptr _ _ _ _|mp _=>exact same (fun x t=>by simp[Cd]at t) rfl
 |fn f a c=>cases a with
  |cons _ _=>exact same (fun x t=>by simp[Cd]at t) rfl
  |nil=>cases c with
   |cons _ _=>exact same (fun x t=>by simp[Cd]at t) rfl
   |nil=>exact same (fun y w ρ' N'=>by simp only[Cd,zh,zn,true_and]at w;grind [PR,BD]) rfl
theorem Ib:∀ {ps:List PV} {vs:List V} {st:AG} {F:Fz},SR B h0 F ρ st.nx st.ob h->BD F ρ st.nx ps vs->
  ∃F1,SR B h0 F1 ρ (Bk ps st).nx (Bk ps st).ob h/\(∀b cs,F b=some cs->F1 b=some cs)/\∀g,Ds st ps=some (true,g)->Kj F1 g vs
 |[],vs,st,F,e,j=>⟨F,e,fun _ _ h=>h,(by grind [Ds,Kj,BD])⟩
 |p::ps,vs,st,F,e,j=>by
  obtain⟨v,vs,rfl,r,m⟩:=j;obtain⟨F1,g1,g2,g3⟩:=MH e r;have i:BD F1 ρ (Bv st p).nx ps vs:=by rw[(Kt st p).1];exact m.mono<|Le.Zr g2
  obtain⟨l,o,k,s⟩:=Ib g1 i;refine⟨l,o,ah,fun g a=>?_⟩;unfold Ds at a;split at a
  case h_2=>cases a
  rename_i c x d q e1 e2;simp only[zh,zn,ze]at a;obtain⟨⟨rfl,rfl⟩,rfl⟩:=a;exact Kj.cons ((g3 x e1).mono k) (by grind [Me,MI])
theorem iC(p:SR B h0 F ρ st.nx st.ob h){t:TypeId}{n:Nat}{l:List (Nat×PV)}{l':List (Nat×V)}(D:zE F ρ st.nx l l'){v:PV}(a:(Rr C.T t n l st).To v st'):OK B h0 F ρ st h [] (EW<|Ey C.T h t n l') v st':=by
 unfold Rr at a;split at a
 case h_2=>simp at a
 rename_i e E;split at a
 case h_2=>simp at a
 rename_i i s L Y;cases r:(zi (Nat.mul n i.size) 16777216&&zl 0 i.zero.length&&zf i.zero.length i.size&&zf i.size s.sz)with
 |false=>rw[r]at a;simp at a
 |true=>
  rw[r]at a;simp only[ze]at r;obtain⟨⟨⟨I,K⟩,q⟩,J⟩:=r;simp only[we]at a;split at a
  case h_2=>simp at a
  rename_i cs k;split at a
  case h_2=>
   split at a
   case h_2=>simp at a
   rename_i c cs' P;split at a
   case h_2=>simp at a
   rename_i el d;simp only[B4]at a;obtain⟨rfl,rfl,rfl⟩:=a;have e3:=zg q;have e4:=zg J;have y:BD F ρ st.nx (Pr (i.zero.map VQ) n) (E9 i.zero<|n*i.size):=by
    grind [HS,J3]
   obtain⟨j,m,z⟩:=I8 p D y k;have b:j.length=n*s.sz:=by
    rw[<-e4];rw[Ml m];simp[E9]
   obtain⟨F1,R,U,S⟩:=Ib p z;obtain⟨w,O⟩:=Jg (S cs' P ρ st.nx) d b;have A:Ey C.T h t n l'=some (.sl h.nx 0 n n 0,h.push<|.cells j e (0,0)):=by
    have g:zi (n*i.size) 16777216=true:=I;simp only[Ey,E,L,g,K,q,Bool.and_self,we,m,IF]
   rw[A];obtain⟨G,W,M⟩:=Dl cs st;have u:=OK.new (F:=F1) (ρ:=ρ) (st:=Bk cs st) R (o:=.arr false e s el) (x:=.cells j e (0,0)) (n:=n) (v:=.sl (Bk cs st).nx s.sz 0 n none) (v':=.sl h.nx 0 n n 0) rfl ⟨_,_,rfl,ae,zd _,w⟩ (Og<|.inl rfl);obtain⟨v',h',F',ρ',q1,q2,q3,q4,q5,q6,q7,q8⟩:=u;rw[G]at q2;exact⟨v',h',F',ρ',q1,q2,q3,(by rw[G]at q4;exact(Le.Zr U).trans q4),q5.trans W,q6.trans M,q7,q8⟩
  rename_i el d;obtain⟨rfl,rfl⟩:=a;have e3:=zg q;have e4:=zg J;have y:BD F ρ st.nx (Pr (i.zero.map VQ) n) (E9 i.zero<|n*i.size):=by
   grind [HS,J3]
  obtain⟨j,m,z⟩:=I8 p D y k;have b:j.length=n*s.sz:=by
   rw[<-e4];rw[Ml m];simp[E9]
  obtain⟨w,O⟩:=Jg z d b;have A:Ey C.T h t n l'=some (.sl h.nx 0 n n 0,h.push<|.cells j e (0,0)):=by
   have g:zi (n*i.size) 16777216=true:=I;simp only[Ey,E,L,g,K,q,Bool.and_self,we,m,IF]
  rw[A];exact OK.new p (o:=.arr false e s el) (n:=n) rfl ⟨_,_,rfl,ae,zd _,w⟩ (Og<|.inl rfl)
end
section
variable {B:Nat}{h0:H0}{F:Fz}{ρ:DZ}{N:Nat}{C:Ctx}{st st':AG}{fr:Fr}{h h':H}
theorem DR{x:Operand}{k:PV->PO}{v:PV}:(v1 st x k).To v st'↔∃p,P1 st x=some p/\(k p).To v st':=by
 unfold v1;cases P1 st x with
 |none=>simp
 |some p=>simp
theorem eX(b:FP F ρ N st fr){x:Option Operand}{k:Option PV->PO}{v:PV}(a:(o1 st x k).To v st'):∃p y,U6 C fr x=some y/\U7 F ρ N p y/\(k p).To v st':=by
 cases x with
 |none=>exact⟨none,none,rfl,rfl,a⟩
 |some x=>
  obtain⟨p,d,c⟩:=DR.1 a;obtain⟨y,g1,g2⟩:=B0 (C:=C) b d;exact⟨some p,some y,by simp[U6,g1],⟨y,rfl,g2⟩,c⟩
theorem ZQ(d:SR B h0 F ρ st.nx st.ob h){b:Builtin}{ts:Array TypeId}{ps:List PV}{e:List V}(c:BD F ρ st.nx ps e){v:PV}(a:(ID C.T b ts ps st).To v st'):
  OK B h0 F ρ st h (match b with| .append| .clear=>Fg ps| .unsafeString=>vA ps|_=>[]) (EG C h b ts e) v st':=by
 unfold ID at a;split at a
 case h_8=>simp at a
 case h_7=>exact wP d c a
 case h_6=>exact rO d c a
 case h_5=>exact pR d c a
 case h_1=>exact Abg d c a
 case h_2=>exact aT d c a
 case h_3=>exact AaP (g:=iZ) d (by grind [iZ,imax]) c a
 case h_4=>exact AaP (g:=pZ) d (fun k x y=>by rfl) c a
theorem nQ(E:Rel B h0 F ρ st fr h){o:Oper}{v:PV}(e:(pop o.op C.T st).To v st'):
  ∃L,OK B h0 F ρ st h L (GA C fr h o) v st'/\∀sp J,G0 sp st o.op=some J->∀i∈L,i∈J:=by
 have nil:∀ {d:Option OR} {op:Op},OK B h0 F ρ st h [] d v st'->∃L,OK B h0 F ρ st h L d v st'/\∀sp J,G0 sp st op=some J->∀i∈L,i∈J:=ah;have g:∀ {x p},P1 st x=some p->∃y,ev C fr x=some y/\PR F ρ st.nx p y:=fun hp=>B0 E.fp hp
 unfold pop at e;rw[CS];unfold Gu;cases U:o.op<;>rw[U]at e<;>simp only[Jz,LY]at e<;>simp only
 case move x|assign x=>
  simp only[V1,QS]at e;obtain⟨G,rfl⟩:=e;obtain⟨y,D,A⟩:=g G;refine nil ?_;rw[D];exact zo E.sr rfl A
 case pick c a b=>
  simp only[iG,DR]at e;obtain⟨p,G,q,K,r,W,e⟩:=e;obtain⟨x,D,A⟩:=g G;obtain⟨y,g3,g4⟩:=g K;obtain⟨z,g5,g6⟩:=g W;obtain⟨t,rfl,R⟩:=wR E.sr A g4 g6 e;grind
 case alloc t=>exact nil<|sB E.sr e
 case box t x=>
  simp only[uD,DR]at e;obtain⟨p,G,e⟩:=e;obtain⟨y,D,A⟩:=g G;split at e
  case h_2=>simp at e
  rename_i cs V;cases Z:Det.KU (KT st) cs with
  |false=>simp_all
  |true=>
  rw[Z]at e;simp only[we,B1]at e;obtain⟨rfl,rfl⟩:=e;refine nil ?_;rw[D];exact AbB E.sr A V (by rw[<-Fi];exact Z)
 case build t ps=>
  simp only[Xg]at e;split at e
  case h_2=>simp at e
  rename_i l M;obtain⟨l',D,A⟩:=OO (C:=C) E.fp M;refine nil ?_;rw[D];exact nG E.sr A e
 case buildSlice t n ps=>
  simp only[U1]at e;split at e
  case h_2=>simp at e
  rename_i l M;obtain⟨l',D,A⟩:=OO (C:=C) E.fp M;refine nil ?_;rw[D];exact iC E.sr A e
 case load t x=>
  simp only[hO,DR]at e;obtain⟨p,G,e⟩:=e;obtain⟨y,D,A⟩:=g G;refine nil ?_;rw[D];exact bN E.sr A e
 case store t x y=>
  simp only[Xc,DR]at e;obtain⟨p,G,q,K,e⟩:=e;obtain⟨a,D,A⟩:=g G;obtain⟨b,g3,g4⟩:=g K;obtain⟨id,hid,R⟩:=mZ E.sr A g4 e;refine⟨[id],by grind,fun sp J O=>?_⟩;simp only[G0,G]at O;grind
 case nilCheck x=>
  simp only[OG,DR]at e;obtain⟨p,G,e⟩:=e;obtain⟨y,D,A⟩:=g G;rw[D];split at e
  case h_4=>simp at e
  case h_1=>
   rename_i id off;cases M:H7 (st.obj id)with
   |false=>simp_all
   |true=>
    rw[M]at e;simp only[we,B1]at e;obtain⟨rfl,rfl⟩:=e;obtain⟨b,n,k1⟩:=E.sr.live M;have I:=A;simp only[PR]at I;obtain rfl:=I.2 b n k1;exact nil<|zo E.sr rfl A
  case h_2=>
   rename_i id sz j off;cases M:H7 (st.obj id)with
   |false=>simp_all
   |true=>
    rw[M]at e;simp only[we,B1]at e;obtain⟨rfl,rfl⟩:=e;obtain⟨b,n,k1⟩:=E.sr.live M;have I:=A;simp only[PR]at I;obtain rfl:=I.2 b n k1;exact nil<|zo E.sr rfl A
  case h_3=>
   simp only[B1]at e;obtain⟨rfl,rfl⟩:=e;have I:=A;simp only[PR]at I;obtain⟨b,o',cs,rfl,_⟩:=I;exact nil<|zo E.sr rfl A
 case binOp op t x y t2=>
  simp only[tS,DR]at e;obtain⟨p,G,q,K,e⟩:=e;obtain⟨a,D,A⟩:=g G;obtain⟨b,g3,g4⟩:=g K;refine nil ?_;rw[D,g3];split at e
  case h_2=>exact Abt E.sr A g4 e
  rename_i r S;simp only[B1]at e;obtain⟨rfl,rfl⟩:=e;unfold sX at S;split at S
  case h_3=>cases S
  all_goals
   rename_i m hu;cases Y:(Xb x||Xb y)with
   |false=>grind
   |true=>
    rw[Y]at S;cases S;simp only[PR]at A g4;subst A g4;exact zo E.sr (by simp only[JG,nU,hu,Y,we,Bx])<|lO _
 case unOp op t x=>
  simp only[zY,DR]at e;obtain⟨p,G,e⟩:=e;obtain⟨y,D,A⟩:=g G;refine nil ?_;rw[D];exact Ab8 E.sr A e
 case convert s d x=>
  simp only[jR,DR]at e;obtain⟨p,G,e⟩:=e;obtain⟨y,D,A⟩:=g G;refine nil ?_;rw[D];exact xS E.sr A e
 case makeFunc f a b=>
  simp only[bT]at e;split at e
  case h_2=>simp at e
  rename_i x y hx hy;simp only[B1]at e;obtain⟨rfl,rfl⟩:=e;obtain⟨u,D,A⟩:=EU (C:=C) E.fp hx;obtain⟨w,g3,g4⟩:=EU (C:=C) E.fp hy;refine nil ?_;rw[D,g3];exact zo E.sr rfl (by unfold PR;grind)
 case makeMap t r=>
  simp only[YD]at e;split at e
  case h_2=>simp at e
  refine nil ?_;exact sF E.sr e
 case lookup t x i ok=>
  simp only[TW,DR]at e;obtain⟨p,G,q,K,e⟩:=e;obtain⟨a,D,A⟩:=g G;obtain⟨b,g3,g4⟩:=g K;refine nil ?_;rw[D,g3];exact bJ E.sr A g4 e
 case mapUpdate t m k x|insert t m k x=>
  simp only[Pn,DR]at e;obtain⟨p,G,q,K,r,W,e⟩:=e;obtain⟨a,D,A⟩:=g G;obtain⟨b,g3,g4⟩:=g K;obtain⟨c,g5,g6⟩:=g W;obtain⟨id,rfl,R⟩:=aS E.sr A g4 g6 e;grind [G0]
 case makeSlice t l c=>
  simp only[dH,DR]at e;obtain⟨p,G,q,K,e⟩:=e;obtain⟨a,D,A⟩:=g G;obtain⟨b,g3,g4⟩:=g K;refine nil ?_;rw[D,g3];exact yC E.sr A g4 e
 case slice t x lo hi mx=>
  simp only[Xq,DR]at e;obtain⟨p,G,e⟩:=e;obtain⟨a,D,A⟩:=g G;obtain⟨l,l',k1,k2,e⟩:=eX (C:=C) E.fp e;obtain⟨m,m',k3,k4,e⟩:=eX (C:=C) E.fp e;obtain⟨n,n',k5,k6,e⟩:=eX (C:=C) E.fp e;refine nil ?_;rw[D,k1,k3,k5];exact nP E.sr A k2 k4 k6 e
 case fieldAddr t x f=>
  simp only[Yc,DR]at e;obtain⟨p,G,e⟩:=e;obtain⟨y,D,A⟩:=g G;refine nil ?_;rw[D];exact sD E.sr A e
 case field t x f=>
  simp only[Xt,DR]at e;obtain⟨p,G,e⟩:=e;obtain⟨y,D,A⟩:=g G;refine nil ?_;rw[D];exact qU E.sr A e
 case indexAddr t x i=>
  simp only[XD,DR]at e;obtain⟨p,G,q,K,e⟩:=e;obtain⟨a,D,A⟩:=g G;obtain⟨b,g3,g4⟩:=g K;refine nil ?_;rw[D,g3];exact sJ E.sr A g4 e
 case index t x i=>
  simp only[X1,DR]at e;obtain⟨p,G,q,K,e⟩:=e;obtain⟨a,D,A⟩:=g G;obtain⟨b,g3,g4⟩:=g K;refine nil ?_;rw[D,g3];exact mH E.sr A g4 e
 case extract x i=>
  simp only[QN,DR]at e;obtain⟨p,G,e⟩:=e;obtain⟨y,D,A⟩:=g G;refine nil ?_;rw[D];exact Y8 E.sr A e
 case range t x=>
  simp only[WW,DR]at e;obtain⟨p,G,e⟩:=e;obtain⟨y,D,A⟩:=g G;refine nil ?_;rw[D];exact mT E.sr A e
 case next x i=>
  simp only[bO,DR]at e;obtain⟨p,G,e⟩:=e;obtain⟨y,D,A⟩:=g G;obtain⟨rfl,id,off,rfl,R⟩:=yN E.sr A e;grind [G0]
 case call c=>
  simp only[RK]at e;split at e
  case h_1=>simp at e
  rename_i args P;obtain⟨args',D,A⟩:=EU (C:=C) E.fp P;split at e
  case h_2=>simp at e
  case h_1=>
   rename_i b hb;split at e
   case h_1=>
    obtain⟨id,qs,rfl,R⟩:=kO E.sr A e;refine⟨[id],by rw[hb,D];exact R,fun sp J O=>?_⟩;grind [G0]
   case h_2=>
   have:=ZQ E.sr A e;grind [G0,Fg,vA]
end
section
variable {B:Nat}{h0:H0}{F:Fz}{ρ:DZ}{N:Nat}{X:AX}{st st':AG}{fr:Fr}{h h':H}{Q:PV->Ob->Prop}{n:Nat}
@[simp] theorem CD(st:AG)(t:Nat)(p:PV)(s:Nat):(st.set t p).get s=if s=t then p else st.get s:=by
 unfold AG.get AG.set;grind [PM.CD]
theorem Rel.set(a:Rel B h0 F ρ st fr h){t:Nat}{p:PV}{x:V}(b:PR F ρ st.nx p x):Rel B h0 F ρ (st.set t p) ⟨fr.n,fr.m.set t<|some x⟩ h:=by
 refine⟨⟨a.fp.n,fun s=>?_⟩,a.sr⟩;rw[CD];unfold Fr.get;simp only[PM.CD];split
 ·exact b
 ·exact a.fp.slot s
theorem Rel.note(a:Rel B h0 F ρ st fr h){t:Nat}{p:PV}(b:PR F ρ st.nx p (fr.get t)):Rel B h0 F ρ (st.set t p) fr h:=by
 refine⟨⟨a.fp.n,fun s=>?_⟩,a.sr⟩;rw[CD];split
 ·rename_i e;subst e;exact b
 ·exact a.fp.slot s
theorem Rel.put(b:Rel B h0 F ρ st fr h){d:Option Nat}{p:PV}{x:V}(g:PR F ρ st.nx p x)(a:st.put d p=some st'):∃fr',fr.put d x=some fr'/\Rel B h0 F ρ st' fr' h/\st'.nx=st.nx/\st'.ob=st.ob:=by
 unfold AG.put at a;unfold Fr.put;cases d with
 |none=>grind
 |some t=>
  simp only at a ⊢;have e:st.n=fr.n:=b.fp.n;rw[e]at a;cases c:zl t fr.n with
  |false=>grind
  |true=>
   rw[c]at a;simp only[we,zh]at a;subst a;exact⟨_,rfl,b.set g,rfl,rfl⟩
structure C5(B:Nat)(h0:H0)(F:Fz)(ρ:DZ)(N:Nat)(h:H)(st':AG)(fr':Fr)(h':H)(F':Fz)(ρ':DZ):Prop where
 rel:Rel B h0 F' ρ' st' fr' h'
 le:Le F ρ N F' ρ' st'.nx
 nx:h.nx<=h'.nx
theorem C5.refl(a:Rel B h0 F ρ st fr h):C5 B h0 F ρ st.nx h st fr h F ρ:=⟨a,zk,zd _⟩
theorem C5.trans{F' i:Fz}{ρ' d:DZ}{c:AG}{fr' e:Fr}{g:H}(a:C5 B h0 F ρ N h st' fr' h' F' ρ')(b:C5 B h0 F' ρ' st'.nx h' c e g i d):C5 B h0 F ρ N h c e g i d:=
 ⟨b.rel,a.le.trans b.le,zp a.nx b.nx⟩
def Abj(X:AX)(ρ:DZ)(h:H)(args':List V):yI->Cl->Prop
 | .fn g,c=>c=.fn g args'/\X.C.prim g=none/\∃i,X.C.fn g=some i
 | .rnd id,c=>∃b n ls,ρ id=some (b,n)/\h.get b=some (.loop ls)/\args'.length=ls.ps.size/\c=.rnd b ls (GP ls.ps.toList args' ls.fr)
inductive MV (X:AX) (ρ:DZ) (h:H) (args':List V):yI->List (V×H)->Prop where
 |A5 {g:yI} {c:Cl} {l:List (V×H)} {M:Nat}:Abj X ρ h args' g c->(∀m,M<=m->Det.A5 X.C m c h=some l)->MV X ρ h args' g l
 |prim {g:FuncId} {q:List V->H->Option (V×H)} {x:V×H}:X.C.prim g=some q->q args' h=some x->MV X ρ h args' (.fn g) [x]
def EY(B:Nat)(h0:H0)(X:AX)(nd:Bool)(call:FM):Prop:=
 ∀ {Q:PV->Ob->Prop} {n:Nat} {g:yI} {args:List PV} {st:AG} {k:PV->AG->Tr},Ev X Q n (call g args st k)->∀ {F:Fz} {ρ:DZ} {fr:Fr} {h:H} {args':List V},Rel B h0 F ρ st fr h->BD F ρ st.nx args args'->
  ∃l,MV X ρ h args' g l/\(nd=false->∃x,l=[x])/\
   ∀x∈l,∃n',n'<=n/\∃r st',Ev X Q n' (k r st')/\∃F' ρ',PR F' ρ' st'.nx r x.1/\C5 B h0 F ρ st.nx h st' fr x.2 F' ρ'/\(∀a,g=.fn a->∀sp,X.sp a=some sp->∀b,b<h.nx->x.2.get b=h.get b)
theorem Ev.EB{c:Bool}{a b:Tr}(d:Ev X Q n (.ite c a b)):(c=true/\Ev X Q n a)\/(c=false/\Ev X Q n b):=by
 cases d with
 |ite e g=>
  grind
theorem Ev.UQ{a b:Tr}(c:Ev X Q n (.both a b)):Ev X Q n a/\Ev X Q n b:=by
 cases c with
 |both d e=>grind
theorem Ev.Ay:¬Ev X Q n .fail:=fun h=>by cases h
theorem Ev.W3{v:PV}{ob:Ob}(a:Ev X Q n (.leaf v ob)):Q v ob:=by
 cases a with
 |leaf h=>exact h
theorem Mz(m:Rel B h0 F ρ st fr h){ops:Array Oper}{o:Oper}{yes no:AG->Tr}(a:Ev X Q n (guarded ops o st yes no)):
  ∃g,Rel B h0 F ρ g fr h/\g.nx=st.nx/\g.ob=st.ob/\((A9 fr ops o=true/\Ev X Q n (yes g))\/(A9 fr ops o=false/\Ev X Q n (no g))):=by
 unfold guarded at a;unfold A9;cases s:o.guard with
 |none=>grind
 |some r=>
  obtain⟨j,i⟩:=r;rw[s]at a;simp only at a ⊢;cases u:(ops[j]?).bind (·.dst)with
  |none=>grind [Ev.Ay]
  |some t=>
   rw[u]at a;simp only at a ⊢;rw[show st.n=fr.n from m.fp.n]at a;cases p:zl t fr.n with
   |false=>grind [Ev.Ay]
   |true=>
    rw[p]at a;have k:=m.fp.slot t;split at a
    case h_1=>
     rename_i b e;rw[e]at k;rw[N7 k];grind
    case h_2=>
     rename_i b e;rw[e]at k;have q:=Lc k;have note:∀c:Bool,b=c->Rel B h0 F ρ (st.set t<|.bl c) fr h:=by
      rintro c rfl;exact m.note (by rw[q];rfl)
     cases i with
     |true=>
      rcases a.EB with⟨d,a⟩|⟨d,a⟩
      ·exact⟨_,note true d,rfl,rfl,ah⟩
      ·exact⟨_,note false d,rfl,rfl,ah⟩
     |false=>
      rcases a.EB with⟨d,a⟩|⟨d,a⟩
      ·exact⟨_,note true d,rfl,rfl,ah⟩
      ·exact⟨_,note false d,rfl,rfl,ah⟩
    case h_5=>grind [Ev.Ay]
    case h_4=>
     rename_i e;rw[e]at k;obtain⟨b,q⟩:=k;have note:∀c:Bool,b=c->Rel B h0 F ρ (st.set t<|.bl c) fr h:=by
      rintro c rfl;exact m.note (by rw[q];rfl)
     obtain⟨v,w⟩:=a.UQ;cases b with
     |true=>
      cases i with
      |true=>exact⟨_,note true rfl,rfl,rfl,ah⟩
      |false=>exact⟨_,note true rfl,rfl,rfl,ah⟩
     |false=>
      cases i with
      |true=>exact⟨_,note false rfl,rfl,rfl,ah⟩
      |false=>exact⟨_,note false rfl,rfl,rfl,ah⟩
    case h_3=>
     rename_i l e;rw[e]at k;simp only[PR]at k;grind
theorem Ji{d:Option Nat}{k:AG->Tr}:∀ {m:PO},Ev X Q n (QY d k m)->∃u s i,m.To u s/\s.put d u=some i/\Ev X Q n (k i)
 | .bad,g=>wh g Ev.Ay
 | .val u s,g=>by
  simp only[QY]at g;split at g
  ·rename_i s1 o;exact⟨u,s,s1,.val,o,g⟩
  grind [Ev.Ay]
 | .ite c a b,g=>by
  rcases g.EB with⟨rfl,e⟩|⟨rfl,e⟩
  ·obtain⟨u,s,s1,l,j⟩:=Ji e;exact⟨u,s,s1,.tt l,j⟩
  ·obtain⟨u,s,s1,l,j⟩:=Ji e;exact⟨u,s,s1,.ff l,j⟩
inductive mN (X:AX) (fr:Fr) (h:H) (o:Oper):List (V×H)->Prop where
 |val {x:V} {h':H}:GA X.C fr h o=some (.val x h')->mN X fr h o [(x,h')]
 |skip {h':H}:GA X.C fr h o=some (.skip h')->mN X fr h o [(.tup [],h')]
 |alts {l:List (V×H)}:GA X.C fr h o=some (.alts l)->mN X fr h o l
 |call {g:FuncId} {args:List V} {l:List (V×H)} {M:Nat}:GA X.C fr h o=some (.enter g args)->(∀m,M<=m->A5 X.C m (.fn g args) h=some l)->mN X fr h o l
 |round {b:Nat} {ls:LS} {f:Fr} {l:List (V×H)} {M:Nat}:GA X.C fr h o=some (.round b ls f)->(∀m,M<=m->A5 X.C m (.rnd b ls f) h=some l)->mN X fr h o l
theorem HD{nd:Bool}{call:FM}(j:EY B h0 X nd call)(A:Rel B h0 F ρ st fr h){o:Oper}{k:AG->Tr}(P:Ev X Q n (HG X.C.T call o st k)):
  ∃l,mN X fr h o l/\((nd=false->(∃x,l=[x])/\∀l',GA X.C fr h o≠some (.alts l'))/\((∀id a,Mg st o.op≠ .yes (.rnd id) a)->∀b ls f,GA X.C fr h o≠some (.round b ls f)))/\∀x∈l,∃n',n'<=n/\∃d,Ev X Q n' (k d)/\∃F' ρ' fr',fr.put o.dst x.1=some fr'/\C5 B h0 F ρ st.nx h d fr' x.2 F' ρ'/\
   ∀p,G0 X.sp st o.op=some p->∀b,b<h.nx->x.2.get b=h.get b\/∃id∈p,∃m,ρ id=some (b,m):=by
 unfold HG at P;split at P
 case h_2=>grind [Ev.Ay]
 case h_1=>
  rename_i g args y;unfold Mg at y;split at y
  case h_2=>cases y
  rename_i c V;split at y
  case h_2=>cases y
  rename_i f M;split at y
  case h_3=>cases y
  case h_2=>
   rename_i id ps R E;cases y;obtain⟨fv,f1,S⟩:=B0 (C:=X.C) A.fp R;obtain⟨av,a1,a2⟩:=EU (C:=X.C) A.fp E;simp only[PR]at S;obtain⟨l,hcd,hnd,hall⟩:=j P A a2;obtain⟨hcd1,U⟩:=hcd;obtain⟨b,m,ls,c1,c2,c3,rfl⟩:=hcd1;have e:GA X.C fr h o=some (.round b ls<|GP ls.ps.toList av ls.fr):=by
    simp_all [CS,Gu,HW]
   refine⟨l,.round e U,⟨ah,fun hno=>?_⟩,fun x J=>?_⟩
   ·grind [Mg]
   obtain⟨n',Z,r,st',w,F',ρ',W,I,hsp⟩:=hall x J;split at w
   case h_2=>grind [Ev.Ay]
   rename_i d z;obtain⟨fr',D,O,L,g4⟩:=I.rel.put W z;refine⟨n',Z,d,w,F',ρ',fr',D,⟨O,by rw[L];exact I.le,I.nx⟩,fun p v b hb=>?_⟩;grind [G0]
  rename_i g' first cap ps R E
  cases y;obtain⟨fv,f1,S⟩:=B0 (C:=X.C) A.fp R;obtain⟨av,a1,a2⟩:=EU (C:=X.C) A.fp E;simp only[PR]at S;obtain⟨fa,fb,rfl,f3,f4⟩:=S;have G:BD F ρ st.nx (first++ps++cap) (fa++av++fb):=(f3.append a2).append f4;obtain⟨l,hcd,hnd,hall⟩:=j P A G;have K:mN X fr h o l/\(∀l',GA X.C fr h o≠some (.alts l'))/\∀b ls f,GA X.C fr h o≠some (.round b ls f):=by
   cases hcd with
   |A5 y U=>
    obtain⟨rfl,Y,i,hfn⟩:=y;have e:GA X.C fr h o=some (.enter g'<|fa++av++fb):=by
     simp_all [CS,Gu,HW]
    exact⟨.call e U,ah,ah⟩
   |prim hq J=>
    rename_i q x;have e:GA X.C fr h o=some (.val x.1 x.2):=by
     grind [CS,Gu,HW,EW]
    exact⟨.val e,ah,ah⟩
  refine⟨l,K.1,ah,fun x J=>?_⟩;obtain⟨n',Z,r,st',w,F',ρ',W,I,hsp⟩:=hall x J;split at w
  case h_2=>grind [Ev.Ay]
  rename_i d z;obtain⟨fr',D,O,L,g4⟩:=I.rel.put W z;refine⟨n',Z,d,w,F',ρ',fr',D,⟨O,by rw[L];exact I.le,I.nx⟩,fun p v b hb=>?_⟩;simp only[V,G0,M,R]at v;grind
 case h_3=>
  obtain⟨u,s,d,h1,h2,h3⟩:=Ji P;obtain⟨tch,⟨v',h',F',ρ',D,O,L,g4,g5,g6,g7,g8⟩,htch⟩:=nQ (C:=X.C) A h1;have hrs:Rel B h0 F' ρ' s fr h':=⟨⟨by rw[g6];exact A.fp.n,fun t=>by
   have:s.get t=st.get t:=by unfold AG.get;rw[g5]
   rw[this];exact(A.fp.slot t).mono g4⟩,L⟩
  obtain⟨fr',k1,k2,k3,k4⟩:=hrs.put O h2;refine⟨[(v',h')],?_,ah,fun x J=>?_⟩
  ·rcases D with D|⟨D,rfl⟩
   ·exact .val D
   ·exact .skip D
  ·cases zc.1 J;refine⟨n,zd _,d,h3,F',ρ',fr',k1,⟨k2,by grind,g7⟩,fun p v b hb=>?_⟩;grind
theorem yX{α a:Type}{f:α->Option (List a)}{x:α}:bl [x] f=f x:=by
 grind [bl]
theorem I5{α d:Type}{f:Nat->Nat->α->Option (List d)}{P:d->Prop}{nd:Bool}{l:List α}(c:nd=false->∃x,l=[x])(h:∀a∈l,∃r M,(∀m,M<=m->∀q,M<=q->f m q a=some r)/\(nd=false->∃x,r=[x])/\∀y∈r,P y):
  ∃r M,(∀m,M<=m->∀q,M<=q->bl l (f m q)=some r)/\(nd=false->∃x,r=[x])/\∀y∈r,P y:=by
 cases nd with
 |false=>
  obtain⟨x,rfl⟩:=c rfl;simp_all [yX]
 |true=>
  clear c;suffices hs:∃r M,(∀m,M<=m->∀q,M<=q->bl l (f m q)=some r)/\∀y∈r,P y by
   simp_all
  induction l with
  |nil=>exact⟨[],0,fun _ _ _ _=>rfl,(by simp)⟩
  |cons a l g=>
   obtain⟨r,M,j,_,e⟩:=h a (by simp);obtain⟨r2,M2,h3,h4⟩:=g (by simp_all);cases l with
   |nil=>exact⟨r,M,(by grind [bl]),e⟩
   |cons b l=>
    refine⟨r++r2,max M M2,fun m k q i=>?_,fun y o=>?_⟩
    ·grind [bl]
    grind
theorem Pc{d:Option Nat}{P:Fr×H->Prop}:∀ {l:List (V×H)},(∀x∈l,∃fr',fr.put d x.1=some fr'/\P (fr',x.2))->∃r,Hn fr d l=some r/\(∀y∈r,P y)/\((∃x,l=[x])->∃y,r=[y])
 |[],_=>⟨[],rfl,(by simp),(by simp)⟩
 |x::l,h=>by
  obtain⟨fr',c,e⟩:=h x (by simp);obtain⟨r,h3,h4,_⟩:=Pc (l:=l) (fun y b=>h y ah);refine⟨(fr',x.2)::r,?_,fun y b=>?_,fun⟨z,a⟩=>?_⟩
  ·grind [Hn]
  ·grind
  ·cases a;cases h3;simp
theorem mN.Ace{l:List (V×H)}{o:Oper}{ops:Array Oper}(a:mN X fr h o l)(p:A9 fr ops o=true){P:Fr×H->Prop}(e:∀x∈l,∃fr',fr.put o.dst x.1=some fr'/\P (fr',x.2)):
  ∃r M,(∀m,M<=m->step1 X.C (A5 X.C m) ops o fr h=some r)/\((∃x,l=[x])->∃y,r=[y])/\∀y∈r,P y:=by
 obtain⟨r,q,d,c⟩:=Pc e;cases a with
 |@val x h' a=>
  obtain⟨fr',k,i⟩:=e _<|zc.2 rfl;exact⟨[(fr',h')],0,(by simp_all [step1,Iw]),(by simp),ah⟩
 |@skip h' a=>
  obtain⟨fr',k,i⟩:=e _<|zc.2 rfl;exact⟨[(fr',h')],0,(by simp_all [step1,Iw]),(by simp),ah⟩
 |alts a=>exact⟨r,0,(by simp_all [step1,Iw]),c,d⟩
 |@call g args l M a j=>exact⟨r,M,(by simp_all [step1,Iw]),c,d⟩
 |@round b ls f l M a j=>exact⟨r,M,(by simp_all [step1,Iw]),c,d⟩
theorem aE{T:BX}{h:H}{s d:TypeId}{b off:Nat}:FG T h s d (.ptr b off)=none:=by
 simp_all [FG]
theorem kY(j:Rel B h0 F ρ st fr h){o:Oper}{v:PV}(a:yT X.C.T st o.op=some v):OK B h0 F ρ st h [] (Iw X.C fr h o) v st:=by
 have fin:∀ {s d:TypeId} {x:Operand} {b off:Nat} {u:V},o.op=.convert s d x->ev X.C fr x=some (.ptr b off)->Ei X.C.T h s d (.ptr b off)=some u->PR F ρ st.nx v u->OK B h0 F ρ st h [] (Iw X.C fr h o) v st:=by
  intro s d x b off u c l g w;have r:GA X.C fr h o=none:=by
   rw[CS];unfold Gu;rw[c];simp only[l,aE];rfl
  refine zo j.sr (v':=u) ?_ w;grind [Iw]
 unfold yT at a;split at a
 case h_2=>cases a
 rename_i s d x c;split at a
 case h_3=>cases a
 case h_1=>
  rename_i t id off D A m;split at a
  case h_2=>cases a
  rename_i i tb cs E p;cases k:(zl 0 i.size&&zl off (Det.Fm cs))with
  |false=>grind
  |true=>
   rw[k]at a;cases a;obtain⟨y,l,g⟩:=B0 (C:=X.C) j.fp m;obtain⟨b,n,z,k1,k2,⟨bs,fz,rfl,k4,_⟩,_⟩:=j.sr.at p;have q:=g;obtain rfl:=q.2 b n k1;refine fin c l ?_ g;unfold Ei;rw[DE,k4.len]at k;grind
 case h_2=>
  rename_i u id off D A m;split at a
  case h_2=>cases a
  rename_i i e cs E p;cases k:(zl 0 i.size&&zi i.size (Det.Fm cs)&&zf e u&&zf off 0)with
  |false=>grind
  |true=>
   rw[k]at a;cases a;obtain⟨y,l,g⟩:=B0 (C:=X.C) j.fp m;obtain⟨b,n,z,k1,k2,⟨bs,fz,rfl,k4,_⟩,_⟩:=j.sr.at p;have q:=g;obtain rfl:=q.2 b n k1;have h0:off=0:=by
    simp_all
   subst h0;refine fin c l (u:=.ptr b 0) ?_ g;unfold Ei;rw[DE,k4.len]at k;grind
theorem Ti(k:Rel B h0 F ρ st fr h){o:Oper}{v:PV}{c:AG}(a:RP X.C.T st o.op=some (v,c)):OK B h0 F ρ st h [] (Iw X.C fr h o) v c:=by
 unfold RP at a;split at a
 case h_2=>cases a
 rename_i s d x i;split at a
 case h_2=>cases a
 rename_i e l t r g;split at a
 case h_2=>cases a
 cases a;obtain⟨y,u,q⟩:=B0 (C:=X.C) k.fp g;obtain rfl:=FQ q;have m:GA X.C fr h o=none:=by
  rw[CS];unfold Gu;rw[i];simp only[u,FG,t,r];rfl
 have g:Iw X.C fr h o=EW (some (.sl h.nx 0 l.length l.length 1,h.push<|.cells (l.map fun b=>.int .u8<|.ofNat b.toNat) e (0,0))):=by
  simp_all [Ei,Iw,RX]
 rw[g];refine OK.new k.sr (o:=.arr false e (.int .u8)<|l.map fun b=>(b.toNat:Int)) (n:=l.length) rfl ⟨l.map fun b=>V.int .u8<|.ofNat b.toNat,(0,0),rfl,⟨by simp[Sh.sz],fun j w=>?_⟩,zd _,by simp⟩ ?_
 ·have p:j<l.length:=ah
  have e1:((l.map fun b=>V.int .u8<|.ofNat b.toNat).drop<|j*1).take 1=[V.int .u8<|.ofNat (l[j]).toNat]:=by
   simp_all [zw]
  grind [DC,Sh.sz]
 simp_all [PR,Bq]
theorem Wy(c:Rel B h0 F ρ st fr h){o:Oper}{v:PV}{a:AG}(b:Wx X.C.T st o.op=some (v,a)):OK B h0 F ρ st h [] (Iw X.C fr h o) v a:=by
 grind [Wx,Ti,kY]
theorem UG{nd:Bool}{call:FM}(e:EY B h0 X nd call){ops:Array Oper}:∀ {l:List Oper} {n:Nat} {st:AG} {F:Fz} {ρ:DZ} {fr:Fr} {h:H} {k:AG->Tr},Rel B h0 F ρ st fr h->Ev X Q n (prun X.C.T call ops l st k)->
  ∃r M,(∀m,M<=m->Sj X.C (A5 X.C m) ops l fr h=some r)/\(nd=false->∃x,r=[x])/\∀x∈r,∃n',n'<=n/\∃b,Ev X Q n' (k b)/\∃F' ρ',C5 B h0 F ρ st.nx h b x.1 x.2 F' ρ'
 |[],n,st,F,ρ,fr,h,k,O,c=>⟨[(fr,h)],0,fun _ _=>rfl,(by simp),fun x hx=>by cases zc.1 hx;exact⟨n,zd _,st,c,F,ρ,C5.refl O⟩⟩
 |o::d,n,st,F,ρ,fr,h,k,O,c=>by
  unfold prun at c;obtain⟨b,g,e1,e2,s⟩:=Mz O c;have fin:∀ {l:List (Fr×H)},(∃M,∀m,M<=m->step1 X.C (A5 X.C m) ops o fr h=some l)->(nd=false->∃x,l=[x])->
    (∀y∈l,∃n',n'<=n/\∃a,Ev X Q n' (prun X.C.T call ops d a k)/\∃F' ρ',C5 B h0 F ρ st.nx h a y.1 y.2 F' ρ')->
    ∃r M,(∀m,M<=m->Sj X.C (A5 X.C m) ops (o::d) fr h=some r)/\(nd=false->∃x,r=[x])/\∀x∈r,∃n',n'<=n/\∃b,Ev X Q n' (k b)/\∃F' ρ',C5 B h0 F ρ st.nx h b x.1 x.2 F' ρ':=by
   rintro l ⟨M1,R⟩ w hl;obtain⟨r,M,K,G,L⟩:=I5 (f:=fun m _ (x:Fr×H)=>Sj X.C (A5 X.C m) ops d x.1 x.2) (P:=fun x=>∃n',n'<=n/\∃b,Ev X Q n' (k b)/\∃F' ρ',C5 B h0 F ρ st.nx h b x.1 x.2 F' ρ') w fun y E=>by
    obtain⟨n1,hn1,a,Y,F1,ρ1,i⟩:=hl y E;obtain⟨r,M,K,L,G⟩:=UG e i.rel Y;refine⟨r,M,ah,L,fun z hz=>?_⟩;obtain⟨n2,hn2,st3,he3,F2,ρ2,hwent2⟩:=G z hz;exact⟨n2,ae,st3,he3,F2,ρ2,i.trans hwent2⟩
   refine⟨r,max M M1,fun m hm=>?_,G,L⟩;simp only[Sj,R m ae];exact K m ae m ae
  rcases s with⟨D,c⟩|⟨D,c⟩
  ·unfold uY at c;split at c
   case h_1=>
    rename_i v q hb;split at c
    case h_2=>grind [Ev.Ay]
    rename_i a j;obtain⟨v',h',F',ρ',p,I,S,g4,g5,g6,g7,g8⟩:=Wy g hb;have U:Rel B h0 F' ρ' q fr h':=⟨⟨by rw[g6];exact g.fp.n,fun t=>by
     have:q.get t=b.get t:=by unfold AG.get;rw[g5]
     rw[this];exact(g.fp.slot t).mono g4⟩,S⟩
    have V:∃u,PR F' ρ' q.nx v u/\∀fr',fr.put o.dst u=some fr'->∀m,step1 X.C (A5 X.C m) ops o fr h=some [(fr',h')]:=by
     rcases p with p|⟨p,rfl⟩
     ·exact⟨v',I,fun fr' J m=>by simp only[step1,D,we,p,J]⟩
     ·exact⟨.tup [],I,fun fr' J m=>by simp only[step1,D,we,p,J]⟩
    obtain⟨u,hu,DU⟩:=V;obtain⟨fr',J,k2,k3,k4⟩:=U.put hu j;refine fin (l:=[(fr',h')]) ⟨0,ah⟩ (by simp) fun y E=>?_
    cases zc.1 E;exact⟨n,zd _,a,c,F',ρ',k2,by grind,g7⟩
   obtain⟨l,A,hnd,Z⟩:=HD e g c;obtain⟨r,M,K,L,G⟩:=A.Ace (ops:=ops) (P:=fun y=>∃n',n'<=n/\∃a,Ev X Q n' (prun X.C.T call ops d a k)/\∃F' ρ',C5 B h0 F ρ st.nx h a y.1 y.2 F' ρ') D ah;exact fin ⟨M,K⟩ ah G
  ·unfold LF at c;split at c
   case h_2=>grind [Ev.Ay]
   rename_i a j;obtain⟨W,p,I,S,g4⟩:=g.put (x:=.tup []) (by simp[PR]) j;refine fin (l:=[(W,h)]) ⟨0,fun m _=>by simp only[step1,D,wg,p]⟩ (by simp) fun y E=>?_
   cases zc.1 E;exact⟨n,zd _,a,c,F,ρ,I,by rw[S,e1];exact zk,zd _⟩
mutual
theorem Mx:∀v:V,yf v v=true
 | .bool b=>by simp[yf]
 | .int k n=>by simp[yf]
 | .str s=>by simp[yf]
 | .nilp=>rfl
 | .ptr a i=>by simp[yf]
 | .nils=>rfl
 | .sl a b c d e=>by simp[yf]
 | .esl=>rfl
 | .es0=>rfl
 | .junk=>rfl
 | .nilm=>rfl
 | .map a=>by simp[yf]
 | .yld a=>by simp[yf]
 | .nilf=>rfl
 | .nili=>rfl
 | .fn f a b=>by simp only[yf,Fu a,Fu b,zy,wk]
 | .iface t x=>by simp only[yf,Mx x,zy];simp
 | .agg a=>by exact Fu a
 | .tup a=>by exact Fu a
theorem Fu:∀vs:List V,V.JF vs vs=true
 |[]=>rfl
 |v::vs=>by simp only[V.JF,Mx v,Fu vs,zy]
end
theorem fL{T:BX}{t:TypeId}{a x:V}(c:EH T h t a=some x):∃b off o,a=.ptr b off/\h.get b=some o/\(∀g:H,g.get b=h.get b->EH T g t a=some x)/\
  ∀(g:H) cs j e t2 k,h.get b=some (.cells cs j e)->g.get b=some (.cells cs t2 k)->EH T g t a=some x:=by
 unfold EH at c;split at c
 case h_2=>cases c
 rename_i b off d i e1 e2;have p:∃o,h.get b=some o:=by
  cases l:h.get b with
  |some o=>simp
  |none=>
   grind [rd]
 obtain⟨o,m⟩:=p;refine⟨b,off,o,rfl,m,fun g l=>?_,fun g cs j e t2 k r q=>?_⟩
 ·simp_all [EH,rd]
 ·unfold EH;grind [rd]
def RN(C:Ctx)(F:Fz)(bl:List Nat)(h:H)(fr:Fr)(o:Oper)(x:V):Prop:=
 ∀g:H,(∀b cs,F b=some cs->∃t fz,g.get b=some (.cells cs t fz))->(∀b∈bl,g.get b=h.get b)->∃z,GA C fr g o=some (.val x z)
theorem WQ:∀ {s:Sh} {x:s.T} {cs:List V} {b:Nat},DC F s x cs->V.map b∉cs
 | .int _,_,_,_,h,hm=>by grind [DC]
 | .bool,_,_,_,h,hm=>by grind [DC]
 | .str,_,_,_,h,hm=>by grind [DC]
 | .list s,l,_,_,h,hm=>by
  simp only[DC]at h;grind
 | .pair a b,x,_,_,h,hm=>by
  obtain⟨c,d,rfl,g,e⟩:=h;rcases List.mem_append.1 hm with hm|hm
  ·exact WQ g hm
  ·exact WQ e hm
 | .unit,_,_,_,h,hm=>by grind [DC]
 | .fnv,x,_,_,h,hm=>by simp only[DC]at h;grind
 | .ptr _,x,_,_,h,hm=>by simp only[DC]at h;grind
 | .nlist s,l,_,_,h,hm=>by
  simp only[DC]at h;grind
theorem Wv{s:Sh}{x:s.T}{b:Nat}(a:PR F ρ N (.dat s x) (.map b)):False:=by
 exact WQ a<|zc.2 rfl
theorem Wk{b:Nat}(a:PR F ρ N .nil (.map b)):False:=by
 grind [PR]
theorem fG(i:SR B h0 F ρ st.nx st.ob h){o:Oper}{c:Call}(e:o.op=.call c)(d:c.callee=.builtin .len){id sz off len:Nat}{cap:Option Nat}(g:LG st c.args.toList=some [.sl id sz off len cap]){u:PV}{s:AG}
  (a:(pop o.op X.C.T st).To u s) {b:Nat} (k:PR F ρ st.nx (.sl id sz off len cap) (.map b)):False:=by
 rw[e]at a;simp only[pop,RK,g,d,ID,rK,T2,List.map_cons,List.map_nil,lz]at a;split at a;split at a
 case h_3=>
  cases j:H7 (st.obj id)with
  |false=>simp_all
  |true=>
   obtain⟨b',n,l⟩:=i.live j;grind [PR]
 all_goals first|(simp at a;done)|grind|(cases he)
theorem PT{T:BX}{ts:Array TypeId}{a:V}{g:H}(c:∀b,a≠ .map b)(h:H):Fy T g ts [a]=Fy T h ts [a]:=by
 unfold Fy;grind
theorem Z8(I:Rel B h0 F ρ st fr h){o:Oper}{x:V}(D:GA X.C fr h o=some (.val x h)){l:List Nat}(J:pO st o.op=some l)(Z:∃u s,(pop o.op X.C.T st).To u s):
  ∃bl,RN X.C F bl h fr o x/\∀b∈bl,b<h.nx/\∃id∈l,id<st.nx/\∀y,ρ id=some y->y.1=b:=by
 unfold pO at J;rw[CS]at D;unfold Gu at D;split at J
 case h_5=>cases J
 case h_4 t y i ok q=>
  simp only[q]at D;have m:∀g,GA X.C fr g o=(match ev X.C fr y,ev X.C fr i with|some v,some u=>Bx g (EE X.C.T g t v u ok)|_,_=>none):=(by grind [CS,Gu]);cases O:ev X.C fr y with
  |none=>grind
  |some a=>
   cases hi:ev X.C fr i with
   |none=>grind
   |some u=>
    rw[O,hi]at D;simp only at D;obtain⟨x',A,E⟩:=Gf D;cases E;have G:∀g:H,entries g a=entries h a->EE X.C.T g t a u ok=some x:=by
     grind [EE]
    split at J
    case h_3=>cases J
    case h_1=>
     rename_i id K;obtain⟨Y,w,p⟩:=B0 (C:=X.C) I.fp K;rw[O]at w;cases w;have hent:∃es,entries h a=some es:=by
      grind [EE]
     obtain⟨es,E⟩:=hent;cases J;by_cases R:∃b,a=.map b
     ·obtain⟨b,rfl⟩:=R;have L:∃ob,h.get b=some ob:=by
       cases P:h.get b with
       |none=>simp[entries,P]at E
       |some ob=>simp
      obtain⟨ob,L⟩:=L;simp only[PR]at p;refine⟨[b],fun g _ P=>⟨g,?_⟩,fun b' U=>?_⟩
      ·rw[m,O,hi];simp only;rw[G g<|by simp_all [entries]];rfl
      ·cases zc.1 U;refine⟨I.sr.lt b ob L,id,(by simp),p.1,fun z hz=>?_⟩;grind
     ·refine⟨[],fun g _ P=>⟨g,?_⟩,(by simp)⟩;rw[m,O,hi];simp only;rw[G g ?_];rfl;cases a<;>first|rfl|grind
    case h_2=>
     rename_i K;obtain⟨Y,w,p⟩:=B0 (C:=X.C) I.fp K;rw[O]at w;cases w;simp only[PR]at p;subst p;cases J;refine⟨[],fun g _ P=>⟨g,?_⟩,(by simp)⟩;rw[m,O,hi];simp only;rw[G g rfl];rfl
 case h_1 t y q=>
  simp only[q]at D;have m:∀g,GA X.C fr g o=(match ev X.C fr y with|some v=>Bx g (EH X.C.T g t v)|none=>none):=(by grind [CS,Gu]);cases O:ev X.C fr y with
  |none=>grind
  |some a=>
   rw[O]at D;simp only at D;obtain⟨x',A,E⟩:=Gf D;cases E;obtain⟨b,off,ob,rfl,L,G,hfz⟩:=fL A;have hblt:=I.sr.lt b ob L;have live:∀id,id<st.nx->(∀z,ρ id=some z->z.1=b)->l=[id]->∃bl,RN X.C F bl h fr o x/\∀b∈bl,b<h.nx/\∃id∈l,id<st.nx/\∀y,ρ id=some y->y.1=b:=by
    rintro id hlt hid rfl;refine⟨[b],fun g _ P=>⟨g,?_⟩,fun b' U=>?_⟩
    ·rw[m,O];simp only;rw[G g ah];rfl
    simp_all
   split at J
   case h_4=>cases J
   case h_1=>
    rename_i id W K;obtain⟨Y,w,p⟩:=B0 (C:=X.C) I.fp K;grind [PR]
   case h_2=>
    rename_i id sz j W K;obtain⟨Y,w,p⟩:=B0 (C:=X.C) I.fp K;grind [PR]
   case h_3=>
    rename_i s y' W K;obtain⟨Y,w,p⟩:=B0 (C:=X.C) I.fp K;rw[O]at w;cases w;simp only[PR]at p;obtain⟨b',o',cs,E,hF,_⟩:=p;cases E;obtain⟨t1,f1,k1⟩:=I.sr.frz b cs hF;refine⟨[],fun g P _=>⟨g,?_⟩,(by simp)⟩;obtain⟨t2,f2,k2⟩:=P b cs hF;rw[m,O];simp only;rw[hfz g cs t1 f1 t2 f2 k1 k2];rfl
 case h_2 s d y q=>
  simp only[q]at D;have m:∀g,GA X.C fr g o=(match ev X.C fr y with|some v=>Bx g (FG X.C.T g s d v)|none=>none):=(by grind [CS,Gu]);have fin:∀a,ev X.C fr y=some a->(∀g,FG X.C.T g s d a=FG X.C.T h s d a)->∃bl,RN X.C F bl h fr o x/\∀b∈bl,b<h.nx/\∃id∈l,id<st.nx/\∀y,ρ id=some y->y.1=b:=by
   intro a ha P;rw[ha]at D;simp only at D;obtain⟨x',A,E⟩:=Gf D;cases E;exact⟨[],fun g _ _=>⟨g,by rw[m,ha];simp only;rw[P,A];rfl⟩,(by simp)⟩
  split at J
  case h_3=>cases J
  case h_1=>
   rename_i k z K;obtain⟨Y,w,p⟩:=B0 (C:=X.C) I.fp K;simp only[PR,DC,zq,ve]at p;subst p;exact fin _ w fun g=>by
    unfold FG;grind
  case h_2=>
   rename_i z K;obtain⟨Y,w,p⟩:=B0 (C:=X.C) I.fp K;simp only[PR,DC,zq,ve]at p;subst p;exact fin _ w fun g=>by
    unfold FG;grind
 case h_3 c q=>
  simp only[q]at D;split at J
  case h_5=>cases J
  case h_4=>
   rename_i id r M;obtain⟨AdK,w,p⟩:=EU (C:=X.C) I.fp M;simp only[BD]at p;obtain⟨a,as',rfl,p,rfl⟩:=p;have m:∀g,GA X.C fr g o=Bx g (Fy X.C.T g c.argTypes [a]):=fun g=>by rw[CS];unfold Gu;simp only[q,r,w];rfl
   simp only[r,w,EG]at D;obtain⟨x',A,E⟩:=Gf D;cases E;cases J;by_cases R:∃b,a=.map b
   ·obtain⟨b,rfl⟩:=R;simp only[PR]at p;by_cases L:∃ob,h.get b=some ob
    ·obtain⟨ob,L⟩:=L;refine⟨[b],fun g _ P=>⟨g,?_⟩,fun b' U=>?_⟩
     ·rw[m];have:Fy X.C.T g c.argTypes [.map b]=Fy X.C.T h c.argTypes [.map b]:=by
       unfold Fy;grind
      rw[this,A];rfl
     ·cases zc.1 U;refine⟨I.sr.lt b ob L,id,(by simp),p.1,fun z hz=>?_⟩;grind
    ·have hnone:h.get b=none:=by
      cases P:h.get b with
      |none=>rfl
      |some ob=>grind
     refine⟨[],fun g _ _=>⟨g,?_⟩,(by simp)⟩;obtain⟨uu,s,S⟩:=Z;exfalso;rw[q]at S;simp only[pop,RK,M,r,ID,rK,T2,List.map_cons,List.map_nil,lz]at S;split at S
     case h_2=>simp at S
     rename_i t x _ E;cases E;split at S
     case h_5=>
      rename_i E;cases E;split at S
      case h_2=>simp at S
      rename_i ks vs l ho;obtain⟨b1,n1,o1,q1,q2,_⟩:=I.sr.at ho;grind
     all_goals first|(simp at S;done)|grind|(cases E)
   ·refine⟨[],fun g _ _=>⟨g,?_⟩,(by simp)⟩;rw[m,PT ah h,A];rfl
  all_goals
   rename_i r M;obtain⟨AdK,w,p⟩:=EU (C:=X.C) I.fp M;obtain⟨a,as',rfl,p,rfl⟩:=p;have m:∀g,GA X.C fr g o=Bx g (Fy X.C.T g c.argTypes [a]):=fun g=>by rw[CS];unfold Gu;simp only[q,r,w];rfl
   simp only[r,w,EG]at D;have hnm:∀b,a≠ .map b:=by
    intro b e;subst e;first
     |exact Wv p
     |exact Wk p
     |(obtain⟨u,s,S⟩:=Z
       exact fG I.sr q r M S p)
   obtain⟨x',A,E⟩:=Gf D;cases E;refine⟨[],fun g _ _=>⟨g,?_⟩,fun b L=>by cases L⟩;rw[m];rw[PT hnm h,A];rfl
structure iW(C:Ctx)(F:Fz)(ρ:DZ)(N:Nat)(h:H)(r:Nat×Option (List Nat))(c:Rc):Prop where
 i:c.i=r.1
 k:∀l,r.2=some l->∃bl,RN C F bl h c.f c.o c.v/\∀b∈bl,b<h.nx/\∃id∈l,id<N/\∀y,ρ id=some y->y.1=b
def WL(C:Ctx)(F:Fz)(ρ:DZ)(N:Nat)(h:H):Rs->List Rc->Prop
 |[],l=>l=[]
 |r::a,l=>∃c cs,l=c::cs/\iW C F ρ N h r c/\WL C F ρ N h a cs
theorem iW.mono{F':Fz}{ρ':DZ}{N':Nat}{r:Nat×Option (List Nat)}{c:Rc}(j:iW X.C F ρ N h r c)(e:Le F ρ N F' ρ' N')(w:h.nx<=h'.nx)
  (A:∀l,r.2=some l->∀b,b<h.nx->(∃id∈l,id<N/\∀y,ρ id=some y->y.1=b)->h'.get b=h.get b):iW X.C F' ρ' N' h' r c:=by
 refine⟨j.i,fun l d=>?_⟩;obtain⟨bl,o,s⟩:=j.k l d;refine⟨bl,fun g q x=>o g (fun b cs t=>q b cs<|e.fz b cs t)<|fun b a=>?_,fun b a=>?_⟩
 ·grind
 ·obtain⟨z,id,p,m,u⟩:=s b a;exact⟨ae,id,p,Nat.lt_of_lt_of_le m e.n,fun y v=>u y<|e.at m v⟩
theorem WL.mono{F':Fz}{ρ':DZ}{N':Nat}(g:Le F ρ N F' ρ' N')(e:h.nx<=h'.nx)(j:∀b,b<h.nx->h'.get b=h.get b):∀ {d:Rs} {cs:List Rc},WL X.C F ρ N h d cs->WL X.C F' ρ' N' h' d cs
 |[],_,a=>a
 |r::d,_,a=>by
  obtain⟨c,cs,rfl,k,i⟩:=a;exact⟨c,cs,rfl,k.mono g e ah,WL.mono g e j i⟩
theorem WL.apart{F':Fz}{ρ':DZ}{fr':Fr}{anc:Nat->Nat->Bool}{i:Nat}{t:Option (List Nat)}(o:Rel B h0 F ρ st fr h)(j:C5 B h0 F ρ st.nx h st' fr' h' F' ρ')
  (E:∀d,t=some d->∀b,b<h.nx->h'.get b=h.get b\/∃id∈d,∃m,ρ id=some (b,m)):
  ∀ {p:Rs} {cs:List Rc},WL X.C F ρ st.nx h p cs->yd anc i st t p=true->cs.all (still X.C anc i h')=true/\WL X.C F' ρ' st'.nx h' (behind st t p) cs
 |[],_,v,_=>by
  cases v;exact⟨rfl,rfl⟩
 |r::p,_,v,A=>by
  obtain⟨c,cs,rfl,q,P⟩:=v;unfold yd at A;rw[ye,ze]at A;obtain⟨h3,h4⟩:=WL.apart o j E P (by exact A.2);have key:(S7 r.2 t&&La st r.2)=true->∀l,r.2=some l->∀b,b<h.nx->(∃id∈l,id<st.nx/\∀y,ρ id=some y->y.1=b)->h'.get b=h.get b:=by
   rintro s l g b I ⟨id,x,G,J⟩;simp only[ze,g]at s;have a:=List.all_eq_true.1 s.2 id x;obtain⟨w,K,e1⟩:=o.sr.live a;obtain rfl:w=b:=J _ e1;cases t with
   |none=>
    grind [S7]
   |some d=>
    rcases E d rfl w I with e|⟨id',T,m,e2⟩
    ·exact e
    ·obtain⟨o1,L⟩:=Il a;have D:∃u,AN st.ob id'=some u:=by
      cases O:AN st.ob id' with
      |some u=>simp
      |none=>rw[o.sr.dead id' O]at e2;cases e2
     obtain⟨u,D⟩:=D;obtain rfl:=o.sr.inj id id' o1 u w K m L D e1 e2;grind [Nat.beq_refl,S7]
  refine⟨?_,c,cs,rfl,?_,h4⟩
  ·rw[ye,h3,zy];unfold still;rw[q.i];cases M:anc i r.1 with
   |true=>rfl
   |false=>
    have g:∃l,r.2=some l:=by
     cases S:r.2 with
     |some l=>simp
     |none=>grind [S7]
    obtain⟨l,g⟩:=g;obtain⟨bl,x,G⟩:=q.k l g;obtain⟨z,hz⟩:=x h' (fun b cs R=>j.rel.sr.frz b cs<|j.le.fz b cs R) ah;grind [Mx]
  ·show iW X.C F' ρ' st'.nx h' (bif S7 r.2 t&&La st r.2 then r else(r.1,none)) c;cases s:(S7 r.2 t&&La st r.2)with
   |true=>exact q.mono j.le j.nx<|key s
   |false=>
    exact⟨q.i,(by simp)⟩
theorem SE{C:Ctx}{o:Oper}(g:CC o=true){r:OR}(a:GA C fr h o=some r):∃ob f,lV C fr o=some (ob,f)/\r=.val (f h.nx) (h.push ob):=by
 rw[CS]at a;unfold Gu at a;unfold CC at g;unfold lV;split at g
 case h_4=>cases g
 case h_1 t b=>
  simp only[b]at a ⊢;unfold Gv at a;cases d:C.T.inf t with
  |none=>rw[d]at a;cases a
  |some i=>rw[d]at a;cases a;exact⟨_,_,rfl,rfl⟩
 case h_2 t x b=>
  simp only[b]at a ⊢;cases c:ev C fr x with
  |none=>rw[c]at a;cases a
  |some y=>rw[c]at a;cases a;exact⟨_,_,rfl,rfl⟩
 case h_3 t n ps b=>
  simp only[b]at a ⊢;cases c:WA C fr ps.toList with
  |none=>grind
  |some y=>
   rw[c]at a;simp only at a ⊢;unfold Ey at a;unfold VR;split at a
   case h_2=>cases a
   rename_i e l;simp only[l];split at a
   case h_2=>cases a
   rename_i i d;simp only[d];cases k:(zi (n*i.size) 16777216&&zl 0 (i.zero.length)&&zf i.zero.length i.size)with
   |false=>rw[k]at a;cases a
   |true=>
    rw[k]at a;split at a
    case h_2=>cases a
    rename_i cs j;cases a;simp only[j];exact⟨_,_,rfl,rfl⟩
theorem AbL{T:BX}{call:FM}{st:AG}{o:Oper}{k:AG->Tr}(a:Eh o=true):HG T call o st k=QY o.dst k (pop o.op T st):=by
 grind [Mg,Eh,HG]
theorem vY{call:FM}(b:EY B h0 X false call)(j:Rel B h0 F ρ st fr h){o:Oper}(m:Eh o=true){k:AG->Tr}(i:Ev X Q n (HG X.C.T call o st k)):
  ∃n',n'<=n/\∃a,Ev X Q n' (k a)/\∃F' ρ' x fr',GA X.C fr h o=some (.val x h)/\fr.put o.dst x=some fr'/\C5 B h0 F ρ st.nx h a fr' h F' ρ'/\∃u s,(pop o.op X.C.T st).To u s:=by
 obtain⟨l,d,g,c⟩:=HD b j i;obtain⟨⟨⟨x,h'⟩,rfl⟩,_⟩:=g.1 rfl;obtain⟨n',hn,a,he1,F',ρ',fr',hput,hw,_⟩:=c _<|zc.2 rfl;have p:∃u s,(pop o.op X.C.T st).To u s:=by
  grind [AbL,Ji]
 cases d with
 |val e=>
  grind [rd_val]
 |skip e=>grind [rd_val]
 |call e _=>grind [rd_val]
 |round e _=>grind [rd_val]
 |alts e=>grind
theorem OU{call:FM}(r:EY B h0 X false call){ops:Array Oper}{anc:Nat->Nat->Bool}:∀ {L:List Nat} {n:Nat} {st:AG} {F:Fz} {ρ:DZ} {fr:Fr} {h:H} {k:AG->Tr} {J:Rs} {cs:List Rc},Rel B h0 F ρ st fr h->WL X.C F ρ st.nx h J cs->
  Ev X Q n (JS X.C.T X.sp call ops anc L st J k)->
  ∃n',n'<=n/\∃j,Ev X Q n' (k j)/\∃F' ρ' fr' h',C5 B h0 F ρ st.nx h j fr' h' F' ρ'/\∃M,∀m,M<=m->∃cs',UZ X.C (A5 X.C m) ops anc L ⟨fr,h,cs⟩=some ⟨fr',h',cs'⟩
 |[],n,st,F,ρ,fr,h,k,J,cs,hr,_,c=>⟨n,zd _,st,c,F,ρ,fr,h,C5.refl hr,0,fun _ _=>⟨cs,rfl⟩⟩
 |i::is,n,st,F,ρ,fr,h,k,J,cs,hr,E,c=>by
  unfold JS at c;cases ho:ops[i]? with
  |none=>grind [Ev.Ay]
  |some o=>
   rw[ho]at c;simp only at c;obtain⟨j,u,e1,e2,P⟩:=Mz hr c;rw[<-e1]at E;have fin:∀ {n1:Nat} {e:AG} {F1:Fz} {v:DZ} {s:Fr} {K:H} {rs2:Rs} {cs2:List Rc},n1<=n->C5 B h0 F ρ st.nx h e s K F1 v->WL X.C F1 v e.nx K rs2 cs2->Ev X Q n1 (JS X.C.T X.sp call ops anc is e rs2 k)->
     (∃M,∀m,M<=m->∃x,HU X.C (A5 X.C m) ops anc i ⟨fr,h,cs⟩=some (x,⟨s,K,cs2⟩))->
     ∃n',n'<=n/\∃j,Ev X Q n' (k j)/\∃F' ρ' fr' h',C5 B h0 F ρ st.nx h j fr' h' F' ρ'/\∃M,∀m,M<=m->∃cs',UZ X.C (A5 X.C m) ops anc (i::is) ⟨fr,h,cs⟩=some ⟨fr',h',cs'⟩:=by
    rintro n1 e F1 v s K rs2 cs2 w Z q p ⟨M1,hM1⟩;obtain⟨n2,hn2,st3,he3,F2,ρ2,fr2,h2,hw2,M2,hM2⟩:=OU r Z.rel q p;refine⟨n2,ae,st3,he3,F2,ρ2,fr2,h2,Z.trans hw2,max M1 M2,fun m hm=>?_⟩;obtain⟨x,hx⟩:=hM1 m ae;obtain⟨cs',hcs'⟩:=hM2 m ae;grind [UZ]
   rcases P with⟨Z,c⟩|⟨Z,c⟩
   ·cases R:Eh o with
    |true=>
     rw[R]at c;simp only[we]at c;obtain⟨n1,w,e,p,F1,v,x,s,z,d,a,hto⟩:=vY r u R c;rw[e1]at a;have q:WL X.C F1 v e.nx h J cs:=E.mono (by rw[e1];exact a.le) ae (by simp);cases Y:P9 o with
     |false=>
      rw[Y]at p;refine fin (cs2:=cs) w a q p ⟨0,fun m _=>⟨x,?_⟩⟩;unfold HU;grind
     |true=>
      rw[Y]at p;refine fin (cs2:=⟨i,o,fr,x⟩::cs) (rs2:=(i,pO j o.op)::J) w a ⟨_,_,rfl,⟨rfl,fun l hl=>?_⟩,q⟩ p ⟨0,fun m _=>⟨x,?_⟩⟩
      ·obtain⟨bl,W,U⟩:=Z8 u z hl hto;refine⟨bl,fun g hg V=>W g (fun b cs hF=>hg b cs<|a.le.fz b cs hF) V,fun b V=>?_⟩;obtain⟨j1,id,j2,j3,j4⟩:=U b V;rw[e1]at j3;exact⟨j1,id,j2,Nat.lt_of_lt_of_le j3 a.le.n,fun y hy=>j4 y<|a.le.at j3 hy⟩
      ·unfold HU;grind
    |false=>
     rw[R]at c;simp only[wg]at c;cases O:CC o with
     |true=>
      rw[O]at c;simp only[we]at c;obtain⟨l,A,S,D⟩:=HD r u c;obtain⟨⟨⟨x,K⟩,rfl⟩,hna⟩:=S.1 rfl;obtain⟨n1,w,e,p,F1,v,s,d,a,_⟩:=D _<|zc.2 rfl;rw[e1]at a;simp only at d a;have hv:∃ob f,lV X.C fr o=some (ob,f)/\x=f h.nx/\K=h.push ob:=by
       cases A with
       |val z=>obtain⟨ob,f,W,U⟩:=SE O z;grind
       |skip z=>grind [SE]
       |call z _=>grind [SE]
       |round z _=>grind [SE]
       |alts z=>grind
      obtain⟨ob1,f,W,rfl,rfl⟩:=hv;have q:WL X.C F1 v e.nx (h.push ob1) J cs:=E.mono (by rw[e1];exact a.le) (by simp) (fun b V=>by simp[Nat.ne_of_lt V]);refine fin (cs2:=cs) w a q p ⟨0,fun m _=>⟨f h.nx,?_⟩⟩;unfold HU;grind
     |false=>
      rw[O]at c;simp only[wg]at c;cases G:(yd anc i j (G0 X.sp j o.op) J&&gF j o.op)with
      |false=>grind [Ev.Ay]
      |true=>
       rw[G]at c;simp only[we]at c;simp only[ze]at G;obtain⟨I,hnr⟩:=G;obtain⟨l,A,S,D⟩:=HD r u c;obtain⟨⟨⟨x,K⟩,rfl⟩,hna⟩:=S.1 rfl;obtain⟨n1,w,e,p,F1,v,s,d,a,htch⟩:=D _<|zc.2 rfl;simp only at d a htch;obtain⟨W,U⟩:=WL.apart u a htch E I;rw[e1]at a;refine fin w a U p ?_;have hh:∃M,∀m,M<=m->DU X.C (A5 X.C m) fr h o=some (x,K):=by
        cases A with
        |val z=>exact⟨0,(by grind [DU])⟩
        |skip z=>exact⟨0,(by grind [DU])⟩
        |alts z=>grind
        |round z _=>grind [gF]
        |@call g args _ M z hM=>exact⟨M,(by grind [DU])⟩
       obtain⟨M,hM⟩:=hh;refine⟨M,fun m hm=>⟨x,?_⟩⟩;unfold HU;grind
   ·cases hv:CI o with
    |false=>
     rw[hv]at c;unfold LF at c;split at c
     case h_2=>grind [Ev.Ay]
     rename_i e d;obtain⟨s,g1,g2,g3,g4⟩:=u.put (x:=.tup []) (by simp[PR]) d;refine fin (cs2:=cs) ae ⟨g2,by rw[g3,e1];exact zk,zd _⟩ ah c ⟨0,fun m _=>⟨.tup [],?_⟩⟩;unfold HU;grind
    |true=>
     rw[hv]at c;cases I:yd anc i j (some []) J with
     |false=>grind [Ev.Ay]
     |true=>
      rw[I]at c;unfold LF at c;split at c
      case h_2=>grind [Ev.Ay]
      rename_i e d;obtain⟨s,g1,g2,g3,g4⟩:=u.put (x:=.tup []) (by simp[PR]) d;have a:C5 B h0 F ρ j.nx h e s h F ρ:=⟨g2,by rw[g3];exact zk,zd _⟩;obtain⟨W,U⟩:=WL.apart (t:=some []) u a (by simp) E I;rw[e1]at a;refine fin ae a U c ⟨0,fun m _=>⟨.tup [],?_⟩⟩;unfold HU;grind
theorem ZX{call:FM}(c:EY B h0 X false call){ops:Array Oper}{k:AG->Tr}(i:Rel B h0 F ρ st fr h)(e:Ev X Q n (JS X.C.T X.sp call ops (En ops).a (En ops).ord st [] k)):
  ∃n',n'<=n/\∃b,Ev X Q n' (k b)/\∃F' ρ' fr' h',C5 B h0 F ρ st.nx h b fr' h' F' ρ'/\∃M,∀m,M<=m->Ih X.C (A5 X.C m) ops fr h=some (fr',h'):=by
 obtain⟨n',j,b,d,F',ρ',fr',h',g,M,l⟩:=OU (cs:=[]) c i (by rfl) e;refine⟨n',j,b,d,F',ρ',fr',h',g,M,fun m o=>?_⟩;grind [Ih]
end
section
variable {B:Nat}{h0:H0}{F:Fz}{ρ ρ':DZ}{N N':Nat}{f:Nat->Option Nat}
mutual
theorem OJ(d:∀i j,i<N->f i=some j->j<N'/\ρ' j=ρ i):∀ {p:PV} {v:V},PR F ρ N p v->PR F ρ' N' (H4 f p) v
 | .any,_,_=>by simp[H4,PR]
 | .bl _,_,h=>by grind [H4,PR]
 | .ub,_,h=>by grind [H4,PR]
 | .dat _ _,_,h=>by grind [H4,PR]
 | .nil,_,h| .nilp,_,h| .nilm,_,h| .nilf,_,h| .nili,_,h=>by simpa only[H4,PR]using h
 | .Ei _ _ _,_,h=>by grind [H4,PR]
 | .agg l,_,h=>by obtain⟨cs,rfl,c⟩:=h;exact⟨cs,rfl,Eo d c⟩
 | .tup l,_,h=>by obtain⟨cs,rfl,c⟩:=h;exact⟨cs,rfl,Eo d c⟩
 | .fn g a b,_,h=>by obtain⟨x,y,rfl,c,e⟩:=h;exact⟨x,y,rfl,Eo d c,Eo d e⟩
 | .ptr i o,_,h=>by
  grind [H4,PR]
 | .eptr i _ _ _,_,h=>by
  grind [H4,PR]
 | .sl i _ _ _ _,_,h=>by
  grind [H4,PR]
 | .yl i,_,h=>by
  grind [H4,PR]
 | .mp i,_,h=>by
  grind [H4,PR]
theorem Eo(a:∀i j,i<N->f i=some j->j<N'/\ρ' j=ρ i):∀ {ps:List PV} {vs:List V},BD F ρ N ps vs->BD F ρ' N' (JN f ps) vs
 |[],_,h=>by simpa [JN]using h
 |p::ps,_,h=>by
  obtain⟨v,vs,rfl,c,b⟩:=h;simp only[JN,BB];exact⟨OJ a c,Eo a b⟩
end
theorem QE(f:PV->PV):∀(sl:List (Nat×PV)) (m a:PM PV),(∀t,a.get t=(m.get t).map f)->∀t,((sl.map fun x=>(x.1,f x.2)).foldl (fun m x=>m.set x.1<|some x.2) a).get t=((sl.foldl (fun m x=>m.set x.1<|some x.2) m).get t).map f
 |[],_,_,h,t=>h t
 |x::sl,m,a,h,t=>by
  refine QE f sl _ _ (fun t=>?_) t;grind [PM.CD]
theorem Vh(f:PV->PV)(a:f .any=.any)(sl:List (Nat×PV))(t:Nat):Py (sl.map fun x=>(x.1,f x.2)) t=f (Py sl t):=by
 unfold Py ED;rw[QE f sl .leaf .leaf (by simp) t];cases (sl.foldl (fun m x=>m.set x.1<|some x.2) PM.leaf).get t with
 |none=>grind
 |some x=>rfl
theorem iA(b:∀i j,i<N->f i=some j->j<N'/\ρ' j=ρ i){n:Nat}{o:Obj}{x:O}(h:Wr F ρ N n o x):Wr F ρ' N' n (OQ f o) x:=by
 cases o with
 |arr fz e s l=>exact h
 |box ps=>grind [Eo,Wr,OQ]
 |tbox t ps=>grind [Eo,Wr,OQ]
 |lp g r ps asg body s n sl=>
  obtain⟨ls,u,c,q,k,d,m,a⟩:=h;refine⟨ls,u,c,q,k,d,m,fun t=>?_⟩;rw[Vh (H4 f)<|by rfl];exact OJ b<|a t
 |map ks vs l=>exact h
 |siter s p=>exact h
theorem Tx(o:Obj):(OQ f o).frozen=o.frozen:=by cases o<;>rfl
theorem Jm{st:AG}{base:Nat}:∀(n:Nat) (c acc:List Nat),(∀i∈acc,base<=i/\(st.obj i).isSome=true)->acc.Nodup->(∀i∈IT st base n c acc,base<=i/\(st.obj i).isSome=true)/\(IT st base n c acc).Nodup
 |0,_,acc,b,a=>⟨b,a⟩
 |n+1,[],acc,b,a=>⟨b,a⟩
 |n+1,i::c,acc,b,a=>by
  unfold IT;cases l:(zl i base||acc.any (zf i))with
  |true=>exact Jm n c acc b a
  |false=>
   cases e:st.obj i with
   |none=>exact Jm n c acc b a
   |some o=>
    have k:base<=i:=by
     grind [Dw]
    have d:i∉acc:=by
     grind [Nat.beq_refl]
    refine Jm n _ _ (fun j g=>?_) ?_
    ·grind
    grind
theorem OH{base:Nat}:∀(b:List Nat) (n i j:Nat),b.Nodup->Pk base b n i=some j->(∃k,b[k]?=some i/\j=n+k)\/(i∉b/\i<base/\j=i)
 |[],n,i,j,_,h=>by
  unfold Pk at h;cases m:zl i base with
  |false=>grind
  |true=>simp_all
 |a::b,n,i,j,g,h=>by
  unfold Pk at h;rw[Bm]at h;by_cases e:i=a
  ·simp_all
  ·simp only[e,decide_false,wg]at h;have c:=List.nodup_cons.1 g;rcases OH b (Nat.add n 1) i j c.2 h with⟨k,l,d⟩|⟨l,d,o⟩
   ·exact .inl ⟨k+1,by grind,by grind⟩
   grind
theorem XZ(f:Nat->Option Nat)(base:Nat):∀(l:Ob) (j:Nat),AN (low f base l) j=if j<base then(AN l j).map (OQ f)else none
 |[],j=>by simp[low,AN]
 |(i,o)::l,j=>by
  simp only[low];have c:=XZ f base l j;by_cases a:i<base
  ·rw[Dw a];simp only[we,AN,Bm];grind
  ·have:zl i base=false:=by
    cases b:zl i base with
    |false=>rfl
    |true=>exact wh (zu b) a
   rw[this];simp only[wg,AN,Bm];grind
theorem Tz{st:AG}(f:Nat->Option Nat):∀(a:List Nat) (n:Nat) (b:Ob) (j:Nat),(∀i∈a,(st.obj i).isSome=true)->AN (kept st f a n b) j=(if n<=j/\j<n+a.length then(a[j-n]?).bind fun i=>(st.obj i).map (OQ f)else AN b j)
 |[],n,b,j,_=>by simp_all [kept,wc]
 |i::a,n,b,j,h=>by
  obtain⟨o,c⟩:=Option.isSome_iff_exists.1 (h i (by simp));unfold kept;rw[c];rw[Tz f a (Nat.add n 1) _ j ah];by_cases d:n+1<=j/\j<n+1+a.length
  ·grind
  ·simp only[AN,Bm];grind
theorem Gc:∀(vs:List (Nat×PV)) (m:PM PV) (t:Nat) (p:PV),(vs.foldl (fun m x=>m.set x.1<|some x.2) m).get t=some p->(t,p)∈vs\/m.get t=some p
 |[],m,t,p,h=>.inr h
 |x::vs,m,t,p,h=>by
  rcases Gc vs _ t p h with h1|h1
  ·grind
  grind [PM.CD]
theorem Y6{st:AG}{fr:Fr}{h:H}(e:Rel B h0 F ρ st fr h)(base:Nat)(L:List Nat)(_hb:base<=st.nx):
  ∃ρ',Rel B h0 F ρ' (canon base L st) fr h/\base<=(canon base L st).nx/\∀id,id<base->ρ' id=ρ id:=by
 generalize u:IT st base 100 (JT ((L.map fun t=>(t,st.get t)).map (·.2))++Pw base st.ob) []=ids;have D:=Jm (st:=st) (base:=base) 100 (JT ((L.map fun t=>(t,st.get t)).map (·.2))++Pw base st.ob) [] (by simp) List.nodup_nil;rw[u]at D;obtain⟨U,J⟩:=D;let g:=Pk base ids base
 let l:DZ:=fun id=>if id<base then ρ id else(ids[id-base]?).bind ρ
 have z:∀id,id<base->l id=ρ id:=ah;have y:∀k i,ids[k]?=some i->l (base+k)=ρ i:=by
  grind
 have E:canon base L st=AE st.n ((L.map fun t=>(t,st.get t)).map fun x=>(x.1,H4 g x.2)) (kept st g ids base<|low g base st.ob) (base+ids.length):=by
  rw[show g=Pk base ids base from rfl, <-u];rfl
 have O:∀i j,i<st.nx->g i=some j->j<base+ids.length/\l j=ρ i:=by
  intro i j _ G;rcases OH ids base i j J G with⟨k,h1,rfl⟩|⟨_,r,rfl⟩
  ·grind
  grind
 have A:∀j,AN (kept st g ids base<|low g base st.ob) j=if j<base then(AN st.ob j).map (OQ g)else(ids[j-base]?).bind fun i=>(st.obj i).map (OQ g):=by
  intro j;rw[Tz g ids base _ j ah,XZ];grind
 have src:∀j o',AN (kept st g ids base<|low g base st.ob) j=some o'->∃i o,AN st.ob i=some o/\o'=OQ g o/\l j=ρ i/\j<base+ids.length/\((j<base/\i=j)\/(base<=j/\ids[j-base]?=some i/\base<=i)):=by
  intro j o' q;rw[A]at q;by_cases h1:j<base
  ·rw[wd h1,zj]at q;grind
  ·rw[wc h1]at q;cases w:ids[j-base]? with
   |none=>grind
   |some i=>
    rw[w]at q;simp only[Option.bind_some,zj]at q;obtain⟨o,r,rfl⟩:=q;have V:=(zx.1 w).1;have:=y (j-base) i w;rw[show base+(j-base)=j from by omega]at this;exact⟨i,o,r,rfl,this,by omega,ah⟩
 refine⟨l,?_,by rw[E];show base<=base+ids.length;omega,z⟩;rw[E];refine⟨⟨e.fp.n,fun t=>?_⟩,⟨fun j o' q=>?_,fun i j oi oj c m W Y q h1 r=>?_,e.sr.frz,fun id b m d=>?_,fun j q=>?_,e.sr.old,e.sr.lt,e.sr.le,e.sr.fo,e.sr.gl,fun c E=>?_⟩⟩
 ·generalize I:((L.map fun t=>(t,st.get t)).map fun x=>(x.1,H4 g x.2))=vs;show PR F l (base+ids.length) (((ED vs).get t).getD .any)<|fr.get t;cases S:(ED vs).get t with
  |none=>grind [PR]
  |some p=>
   rcases Gc vs .leaf t p S with h1|h1
   ·rw[<-I]at h1;simp only[List.map_map,yg,Function.comp]at h1;obtain⟨s,_,r⟩:=h1;cases r;exact OJ O (e.fp.slot _)
   simp_all
 ·obtain⟨i,o,h1,rfl,r,h3,_⟩:=src j o' q;obtain⟨b,m,x,k1,k2,k3,k4⟩:=e.sr.obj i o h1;exact⟨b,m,x,r.trans k1,k2,iA O k3,by rw[Tx];exact k4⟩
 ·obtain⟨a,o,M,_,P,_,K⟩:=src i oi Y;obtain⟨a',o',g4,_,g5,_,g6⟩:=src j oj q;rw[P]at h1;rw[g5]at r;have R:=e.sr.inj a a' o o' c m W M g4 h1 r;rcases K with⟨e1,e2⟩|⟨e1,e2,e3⟩<;>rcases g6 with⟨T,Z⟩|⟨T,Z,f3⟩
  ·omega
  ·omega
  ·omega
  grind [List.getElem?_inj]
 ·have d:(if id<base then ρ id else(ids[id-base]?).bind ρ)=some (b,m):=d;by_cases h1:id<base
  ·rw[wd h1]at d;exact⟨by show id<base+ids.length;omega,(e.sr.own id b m d).2⟩
  ·rw[wc h1]at d;cases w:ids[id-base]? with
   |none=>grind
   |some i=>
    rw[w]at d;have:=(zx.1 w).1;exact⟨by show id<base+ids.length;omega,(e.sr.own i b m d).2⟩
 ·have v:AN (kept st g ids base<|low g base st.ob) j=none:=q;rw[A]at v;show(if j<base then ρ j else(ids[j-base]?).bind ρ)=none;by_cases h1:j<base
  ·rw[wd h1]at v ⊢;exact e.sr.dead j (by simp_all)
  ·rw[wc h1]at v ⊢;cases w:ids[j-base]? with
   |none=>rfl
   |some i=>
    grind [Option.map_eq_none_iff]
 ·obtain⟨M,P,K⟩:=e.sr.pn c E;grind
end
section
variable {B:Nat}{h0:H0}{X:AX}{F:Fz}{ρ:DZ}{N:Nat}{h:H}
theorem Z3(h0:H0)(a b:List Nat):(h0.pins a).pins b=h0.pins (b++a):=by unfold H0.pins;simp
theorem SR.eG{ob:Ob}{ps:List Nat}(a:SR B (h0.pins ps) F ρ N ob h):SR B h0 F ρ N ob h:=
 ⟨a.obj,a.inj,a.frz,a.own,a.dead,a.old,a.lt,a.le,a.fo,a.gl,fun b c=>a.pn b<|List.mem_append_right _ c⟩
theorem SR.mark{ob:Ob}(a:SR B h0 F ρ N ob h):SR B (h0.pins [h.nx]) F ρ N ob (h.push<|.defd true):=by
 have k:∀b y,h.get b=some y->b≠h.nx:=fun b y r=>by have:=a.lt b y r;omega
 have i:∀b y,h.get b=some y->(h.push<|.defd true).get b=some y:=(by simp_all);refine⟨fun j oj p=>?_,a.inj,fun c cs d=>?_,a.own,a.dead,fun c d l=>?_,fun c s d=>?_,?_,a.fo,a.gl,fun c d=>?_⟩
 ·obtain⟨c,m,y,E,x,D⟩:=a.obj j oj p;grind
 ·obtain⟨t,fz,w⟩:=a.frz c cs d;grind
 ·have:=a.le;rw[H.Cw,wc ae];exact a.old c d l
 ·rw[H.Cw]at d;by_cases e:c=h.nx
  ·simp_all
  ·rw[wc e]at d;have:=a.lt c s d;show c<h.nx+1;omega
 ·have:=a.le;show B<=h.nx+1;omega
 ·rcases List.mem_append.1 d with d|d
  ·cases zc.1 d;refine⟨by simp,a.le,fun id n e=>?_⟩;by_cases g:∃o,AN ob id=some o
   ·obtain⟨o,q⟩:=g;obtain⟨c,m,y,v,u,_⟩:=a.obj id o q;grind
   ·have:AN ob id=none:=by
     cases z:AN ob id with
     |none=>rfl
     |some o=>grind
    rw[a.dead id this]at e;cases e
  ·obtain⟨v,u,A⟩:=a.pn c d;grind
theorem SR.Yw{ob:Ob}(a:SR B h0 F ρ N ob h){b:Nat}{x y:O}(w:∀id o n,AN ob id=some o->ρ id≠some (b,n))(u:F b=none)(t:h0.ZP B b)(v:b∉h0.pin)(p:h.get b=some x):SR B h0 F ρ N ob (h.put b y):=by
 refine⟨fun j oj q=>?_,a.inj,fun c cs d=>?_,a.own,a.dead,fun c d g=>?_,fun c r d=>?_,a.le,a.fo,a.gl,fun c d=>?_⟩
 ·obtain⟨c,m,y,k,s,i⟩:=a.obj j oj q;have:c≠b:=ah;exact⟨c,m,y,k,by simp_all,i⟩
 ·have:c≠b:=ah;rw[H.BT,wc this];exact a.frz c cs d
 ·have:c≠b:=NN t d g;rw[H.BT,wc this];exact a.old c d g
 ·rw[H.BT]at d;split at d
  ·rename_i e;subst e;exact a.lt _ _ p
  ·exact a.lt c r d
 ·obtain⟨k,s,i⟩:=a.pn c d;have l:c≠b:=ah;simp_all
theorem SR.leave{ob:Ob}:∀ {ps:List Nat} {h:H},ps.Nodup->(∀b∈ps,b∉h0.pin)->SR B (h0.pins ps) F ρ N ob h->∃c,FF ps h=some c/\SR B h0 F ρ N ob c/\c.nx=h.nx/\∀b,b∉ps->c.get b=h.get b
 |[],h,_,_,a=>⟨h,rfl,a,rfl,fun _ _=>rfl⟩
 |p::ps,h,e,u,a=>by
  obtain⟨i,l,r⟩:=a.pn p (by simp[H0.pins]);rw[List.nodup_cons]at e;have d:SR B ((h0.pins ps).pins [p]) F ρ N ob h:=by exact a
  have g:SR B (h0.pins ps) F ρ N ob (h.put p<|.defd false):=by
   refine SR.Yw d.eG ah ?_ (.inl l) ?_ i
   ·cases j:F p with
    |none=>rfl
    |some cs=>obtain⟨t,fz,k⟩:=a.frz p cs j;grind
   grind [H0.pins]
  obtain⟨c,q,m,o,s⟩:=SR.leave e.2 ah g;simp_all [FF]
theorem iK{st:AG}{fr:Fr}(d:Rel B h0 F ρ st fr h)(base:Nat)(x:Nat×Sh):∃F1 A,Rel B h0 F1 A (qG base x st) fr h/\(qG base x st).nx=st.nx/\(∀id,id<base->A id=ρ id)/\∀b cs,F b=some cs->F1 b=some cs:=by
 have q:=d.fp.slot x.1;unfold qG;split
 case h_1=>
  rename_i u;rw[u]at q;exact⟨F,ρ,d.note (by rw[q];simp[PR,DC]),rfl,fun _ _=>rfl,fun _ _ h=>h⟩
 case h_4=>grind
 case h_3=>
  rename_i id u;cases T:zi base id with
  |false=>grind
  |true=>
  have T:=zu T;split
  case h_2=>grind
  rename_i ps w;split
  case h_2=>grind
  rename_i v W;rw[u]at q;obtain⟨b,n,y,G,h2,h3,h7,-⟩:=d.sr.at w;obtain⟨cs,t,fz,rfl,h4,h5⟩:=h3;have Z:F b=none:=h7 rfl;have a:∀c cs',F c=some cs'->(fun c=>if c=b then some cs else F c) c=some cs':=by
   grind
  have E:=(CM h4 W);have R:=E.len;have p:Le F ρ st.nx (fun c=>if c=b then some cs else F c) (Bq ρ id none) st.nx:=(Le.Zr a).trans<|Le.Jb id;have r:Le F (Bq ρ id none) st.nx (fun c=>if c=b then some cs else F c) (Bq ρ id none) st.nx:=Le.Zr a;have g:=d.sr.del id;have S:∀j m,Bq ρ id none j=some (b,m)->∀oj,AN (F9 st.ob id) j=some oj->False:=by
   intro j m o oj i;rw[Di]at i;split at i
   ·cases i
   ·rename_i V;simp only[Bq,V,vf]at o;exact V<|d.sr.inj j id oj _ b m n i w o G
  have K:SR B h0 (fun c=>if c=b then some cs else F c) (Bq ρ id none) st.nx (F9 st.ob id) h:=by
   refine⟨fun j oj i=>?_,g.inj,fun c cs' D=>?_,g.own,g.dead,g.old,g.lt,g.le,fun c cs' D=>?_,g.gl,g.pn⟩
   ·obtain⟨c,m,z,o,I,L,g4,g5⟩:=g.obj j oj i;exact⟨c,m,z,o,I,L.mono r,ah,ah⟩
   ·split at D
    ·grind
    ·exact g.frz c cs' D
   ·split at D
    ·rename_i Y;subst Y;exact .inr (d.sr.own id c n G).2
    ·exact g.fo c cs' D
  have k:Rel B h0 (fun c=>if c=b then some cs else F c) (Bq ρ id none) (st.FE id) fr h:=⟨⟨d.fp.n,fun t=>(d.fp.slot t).mono p⟩,K⟩;refine⟨_,_,k.note ?_,rfl,fun j i=>by unfold Bq;grind,a⟩;have M:=q.2 b n G;exact⟨b,0,cs,by rw[M],by simp,by omega,by rw[yb,zr ae];exact E.mono a⟩
 rename_i id sz off len cap u;split
 case h_2=>grind
 rename_i fz e s l w;cases hz:zf sz s.sz with
 |false=>grind
 |true=>
 rw[u]at q;obtain⟨F1,o,I,L⟩:=MH d.sr q;have J:Bv st (.sl id sz off len cap)=st.setObj id (.arr true e s l):=by simp[Bv,w]
 rw[J]at o;have p:Le F ρ st.nx F1 ρ st.nx:=⟨I,(by simp),zd _⟩;have U:off+len<=l.length:=by
  obtain⟨b,n,y,G,_,⟨_,_,_,_,_,h6⟩,-⟩:=d.sr.at w;grind [PR]
 have P:Cd st (.sl id sz off len cap)=some (true,.dat (.list s)<|(l.drop off).take len):=by
  simp_all [Cd]
 have O:=L _ P;have k:Rel B h0 F1 ρ (st.setObj id<|.arr true e s l) fr h:=⟨⟨d.fp.n,fun t=>(d.fp.slot t).mono p⟩,o⟩;exact⟨F1,ρ,k.note<|O ρ _,rfl,fun _ _=>rfl,I⟩
theorem Ug{fr:Fr}(base:Nat):∀(l:List (Nat×Sh)) {st:AG} {F:Fz} {ρ:DZ},Rel B h0 F ρ st fr h->∃F1 a,Rel B h0 F1 a (lR base l st) fr h/\(lR base l st).nx=st.nx/\(∀id,id<base->a id=ρ id)/\∀b cs,F b=some cs->F1 b=some cs
 |[],st,F,ρ,c=>⟨F,ρ,c,rfl,fun _ _=>rfl,fun _ _ h=>h⟩
 |x::l,st,F,ρ,c=>by
  obtain⟨F1,a,e,g,d,i⟩:=iK c base x;obtain⟨F2,ρ2,h4,h5,h0'',h6⟩:=Ug base l e;grind [lR]
theorem OD{st:AG}{fr:Fr}{base:Nat}(e:Rel B h0 F ρ st fr h)(f:FuncId)(r:Nat)(j:base<=st.nx):
  ∃F1 ρ',Rel B h0 F1 ρ' (Mr X f r base st) fr h/\base<=(Mr X f r base st).nx/\(∀id,id<base->ρ' id=ρ id)/\∀b cs,F b=some cs->F1 b=some cs:=by
 obtain⟨F1,a,c,g,d,i⟩:=Ug base (X.fz f r) e;obtain⟨ρ',g1,g2,g3⟩:=Y6 c base (X.pl f r) ae;grind [Mr]
def Gz(B:Nat)(h0:H0)(X:AX)(base n:Nat)(Q:PV->Ob->Prop)(k:DX->AG->Tr)(F:Fz)(ρ:DZ)(h:H)(nd:Bool)(run:Nat->Nat->Option (List Det.X))(ds:List Nat):Prop:=
 ∃l M,(∀m,M<=m->∀q,M<=q->run m q=some l)/\(nd=false->∃x,l=[x])/\∀x∈l,∃ps,(x.ds=ps++ds/\ps.Nodup/\∀b∈ps,h.nx<=b)/\∃n',n'<=n/\∃a,Ev X Q n' (k x.e a)/\∃F' ρ',Rel B (h0.pins ps) F' ρ' a x.fr x.h/\base<=a.nx/\Le F ρ base F' ρ' base/\h.nx<=x.h.nx
theorem Le.low{F F':Fz}{ρ ρ':DZ}{N N' base:Nat}(a:Le F ρ N F' ρ' N')(b:base<=N):Le F ρ base F' ρ' base:=
 ⟨a.fz,fun id h=>a.rho id ae,zd _⟩
theorem NT{nd ro:Bool}{d:Nat}{f:FuncId}{base:Nat}{rv:Option Nat}{ct:Bool}(hrv:ro=false->rv=none/\ct=true)(hcall:∀h0,EY B h0 X nd<|B8 X nd d)(hcallD:∀h0,EY B h0 X false<|B8 X false d){Q:PV->Ob->Prop}:∀(n:Nat) (c:Code) {h0:H0} {st:AG} {k:DX->AG->Tr} {F:Fz} {ρ:DZ} {fr:Fr} {h:H} (ds:List Nat),base<=st.nx->Rel B h0 F ρ st fr h->
  Ev X Q n (exec X (B8 X nd d) (B8 X false d) nd ro d f base c st k)->Gz B h0 X base n Q k F ρ h nd (fun m q=>Bj X.C (A5 X.C m) rv ct q c fr h ds) ds:=by
 intro n;induction n using Nat.strongRecOn with
 |_ n IH=>
 have one:∀ {h0:H0} {e:DX} {st:AG} {k:DX->AG->Tr} {F:Fz} {ρ:DZ} {fr:Fr} {h:H} {ds:List Nat} {c:Code},base<=st.nx->Rel B h0 F ρ st fr h->Ev X Q n (k e st)->(∀m q,1<=q->Bj X.C (A5 X.C m) rv ct q c fr h ds=some [⟨e,fr,h,ds⟩])->
   Gz B h0 X base n Q k F ρ h nd (fun m q=>Bj X.C (A5 X.C m) rv ct q c fr h ds) ds:=by
  intro h0 e st k F ρ fr h ds c A D v hd;exact⟨[⟨e,fr,h,ds⟩],1,ah,(by simp),fun x K=>by
   cases zc.1 K;exact⟨[],(by simp),n,zd _,st,v,F,ρ,D,A,zk,zd _⟩⟩
 have E:∀ {q:Nat},1<=q->∃q',q=q'+1:=fun h=>⟨_,(Nat.succ_pred_eq_of_pos h).symm⟩
 have chain:∀ {h0:H0} {F:Fz} {ρ:DZ} {h:H} {ds:List Nat} {k k2:DX->AG->Tr} {n1:Nat} {run:Nat->Nat->Option (List Det.X)} {run2:Nat->Nat->Det.X->Option (List Det.X)},n1<=n->Gz B h0 X base n1 Q k2 F ρ h nd run ds->
   (∀(x:Det.X) (ps:List Nat),∀n1',n1'<=n1->∀u,Ev X Q n1' (k2 x.e u)->∀F' ρ',Rel B (h0.pins ps) F' ρ' u x.fr x.h->base<=u.nx->Gz B (h0.pins ps) X base n Q k F' ρ' x.h nd (fun m q=>run2 m q x) x.ds)->
   Gz B h0 X base n Q k F ρ h nd (fun m q=>match run m q with|some l=>bl l (run2 m q)|none=>none) ds:=by
  rintro h0 F ρ h ds k k2 n1 run run2 Y ⟨l,M,h1,h2,h3⟩ hnext;obtain⟨r,M2,g1,g2,g3⟩:=I5 (f:=run2) (P:=fun x=>∃ps,(x.ds=ps++ds/\ps.Nodup/\∀b∈ps,h.nx<=b)/\∃n',n'<=n/\∃u,Ev X Q n' (k x.e u)/\∃F' ρ',Rel B (h0.pins ps) F' ρ' u x.fr x.h/\base<=u.nx/\Le F ρ base F' ρ' base/\h.nx<=x.h.nx) h2 fun x K=>by
   obtain⟨ps1,⟨k0,kn,kl⟩,n',k1,u,k2',F',ρ',k3,k4,k5,k6⟩:=h3 x K;obtain⟨r,M,j1,j2,j3⟩:=hnext x ps1 n' k1 u k2' F' ρ' k3 k4;refine⟨r,M,j1,j2,fun y hy=>?_⟩;obtain⟨ps2,⟨i0,i0n,i0l⟩,n2,i1,T,i2,F2,R,i3,i4,i5,i6⟩:=j3 y hy;refine⟨ps2++ps1,⟨by grind,?_,fun b A=>?_⟩,n2,i1,T,i2,F2,R,by grind [Z3],i4,k5.trans i5,ae⟩
   ·rw[List.nodup_append];refine⟨i0n,kn,fun a ha b A e=>?_⟩;have h1:=i0l a ha;have h2:=k3.sr.lt b _ (k3.sr.pn b<|List.mem_append_left _ A).1;omega
   grind
  exact⟨r,max M M2,ah,g2,g3⟩
 have Z:∀ {h0:H0} {F:Fz} {ρ:DZ} {h:H} {ds:List Nat} {k:DX->AG->Tr} {run run':Nat->Nat->Option (List Det.X)},Gz B h0 X base n Q k F ρ h nd run ds->(∀m q,run' m (q+1)=run m q)->Gz B h0 X base n Q k F ρ h nd run' ds:=by
  rintro h0 F ρ h ds k run run' ⟨l,M,h1,h2,h3⟩ v;refine⟨l,M+1,fun m hm q U=>?_,h2,h3⟩;obtain⟨q',rfl⟩:=E (show 1<=q by omega);grind
 intro c;induction c with
 |skip=>
  intro h0 st k F ρ fr h ds A D v;exact one A D v (fun m q U=>by obtain⟨q',rfl⟩:=E U;rfl)
 |label l=>
  intro h0 st k F ρ fr h ds A D v;exact one A D v (fun m q U=>by obtain⟨q',rfl⟩:=E U;rfl)
 |exit i=>
  intro h0 st k F ρ fr h ds A D v;exact one A D v (fun m q U=>by obtain⟨q',rfl⟩:=E U;rfl)
 |ret=>
  intro h0 st k F ρ fr h ds A D v;exact one A D v (fun m q U=>by obtain⟨q',rfl⟩:=E U;rfl)
 |region id ops dr=>
  intro h0 st k F ρ fr h ds A D v;unfold exec at v;cases dr with
  |true=>
   simp only[we]at v;cases hst:(!ro||HT ops (En ops))with
   |false=>grind [Ev.Ay]
   |true=>
   rw[hst]at v;simp only[we]at v;have hdd:∀call,(bif ct then Ih X.C call ops fr h else UO X.C call ops fr h)=Ih X.C call ops fr h:=by
    intro call;cases hro:ro with
    |false=>grind
    |true=>
     rw[hro]at hst;have hst:HT ops (En ops)=true:=hst;simp_all [UO]
   obtain⟨n',hn,u,w,F',ρ',fr',h',J,M,hM⟩:=ZX (hcallD h0) D v;refine⟨[⟨.normal,fr',h',ds⟩],M+1,fun m hm q U=>?_,(by simp),fun x K=>?_⟩
   ·obtain⟨q',rfl⟩:=E (show 1<=q by omega);have:=hM m ae;simp only[Bj,we];grind
   ·cases zc.1 K;exact⟨[],(by simp),n',hn,u,w,F',ρ',J.rel,zp A J.le.n,J.le.low A,J.nx⟩
  |false=>
   simp only[wg]at v;obtain⟨r,M,hM,hone,hall⟩:=UG (hcall h0) D v;refine⟨r.map fun x=>⟨.normal,x.1,x.2,ds⟩,M+1,fun m hm q U=>?_,fun e=>?_,fun x K=>?_⟩
   ·obtain⟨q',rfl⟩:=E (show 1<=q by omega);simp only[Bj,wg,hM m ae]
   ·obtain⟨y,rfl⟩:=hone e;simp
   ·obtain⟨y,hy,rfl⟩:=yg.1 K;obtain⟨n',hn,u,w,F',ρ',J⟩:=hall y hy;exact⟨[],(by simp),n',hn,u,w,F',ρ',J.rel,zp A J.le.n,J.le.low A,J.nx⟩
 |seq a b iha ihb=>
  intro h0 st k F ρ fr h ds A D v;unfold exec at v;refine Z (chain (run2:=fun m q x=>match x.e with| .normal=>Bj X.C (A5 X.C m) rv ct q b x.fr x.h x.ds|_=>some [x]) ae (iha ds A D v) fun x ps1 n1 Y u w F' ρ' L W=>?_)<|fun m q=>rfl;obtain⟨e,V,h1,I⟩:=x;cases e with
  |normal=>
   have rest:∀ {T:AG} {F2:Fz} {R:DZ} {n2:Nat},n2<=n->Rel B (h0.pins ps1) F2 R T V h1->base<=T.nx->(∀id,id<base->R id=ρ' id)->(∀b cs,F' b=some cs->F2 b=some cs)->Ev X Q n2 (exec X (B8 X nd d) (B8 X false d) nd ro d f base b T k)->
     Gz B (h0.pins ps1) X base n Q k F' ρ' h1 nd (fun m q=>Bj X.C (A5 X.C m) rv ct q b V h1 I) I:=by
    intro T F2 R n2 hn2 hr2 hb2 hρ2 hF2 G;have hl0:Le F' ρ' base F2 R base:=⟨hF2,ah,zd _⟩;have hc:Gz B (h0.pins ps1) X base n Q k F2 R h1 nd (fun m q=>Bj X.C (A5 X.C m) rv ct q b V h1 I) I:=by
     by_cases hlt:n2<n
     ·obtain⟨l,M,h1,h2,h3⟩:=IH n2 hlt b I hb2 hr2 G;exact⟨l,M,h1,h2,ah⟩
     grind
    obtain⟨l,M,h1,h2,h3⟩:=hc;exact⟨l,M,h1,h2,fun x K=>by
     obtain⟨ps,k0,n3,k1,st3,k2,F3,ρ3,k3,k4,k5,k6⟩:=h3 x K;exact⟨ps,k0,n3,k1,st3,k2,F3,ρ3,k3,k4,hl0.trans k5,k6⟩⟩
   simp only at w;cases hct:X.ct f (BC b)with
   |false=>grind
   |true=>
    rw[hct]at w;simp only[we]at w;cases w with
    |cut w=>
     obtain⟨F2,ρ0,hr0,hb0,hρ0,hF⟩:=OD L f (BC b) W;exact rest Y hr0 hb0 hρ0 hF w
  |exit i=>exact⟨[⟨.exit i,V,h1,I⟩],0,(by simp),(by simp),fun x K=>by cases zc.1 K;exact⟨[],(by simp),n1,Y,u,w,F',ρ',L,W,zk,zd _⟩⟩
  |ret=>exact⟨[⟨.ret,V,h1,I⟩],0,(by simp),(by simp),fun x K=>by cases zc.1 K;exact⟨[],(by simp),n1,Y,u,w,F',ρ',L,W,zk,zd _⟩⟩
 |cond x a b iha ihb=>
  intro h0 st k F ρ fr h ds A D v;unfold exec at v;have go:∀ {t:Bool} {u:AG},ev X.C fr x=some (.bool t)->Rel B h0 F ρ u fr h->base<=u.nx->Ev X Q n (bif t then exec X (B8 X nd d) (B8 X false d) nd ro d f base a u k else exec X (B8 X nd d) (B8 X false d) nd ro d f base b u k)->Gz B h0 X base n Q k F ρ h nd (fun m q=>Bj X.C (A5 X.C m) rv ct q (.cond x a b) fr h ds) ds:=by
   grind [Bj]
  split at v
  case h_4=>grind [Ev.Ay]
  case h_3=>
   rename_i ht;obtain⟨y,g1,g2⟩:=B0 (C:=X.C) D.fp ht;simp only[PR]at g2;obtain⟨t,rfl⟩:=g2;split at v
   case h_2=>grind [Ev.Ay]
   rename_i s;have hs:fr.get s=.bool t:=by simpa [ev]using g1
   obtain⟨w,G⟩:=v.UQ;cases t with
   |true=>exact go g1 (D.note<|by rw[hs];rfl) A w
   |false=>exact go g1 (D.note<|by rw[hs];rfl) A G
  case h_1=>
   rename_i t ht;obtain⟨y,g1,g2⟩:=B0 (C:=X.C) D.fp ht;obtain rfl:=N7 g2;grind
  case h_2=>
   rename_i t ht;obtain⟨y,g1,g2⟩:=B0 (C:=X.C) D.fp ht;obtain rfl:=Lc g2;split at v
   case h_1=>
    rename_i s;have hs:fr.get s=.bool t:=by simpa [ev]using g1
    rcases v.EB with⟨S,G⟩|⟨S,G⟩
    ·have S:t=true:=S;subst S;exact go g1 (D.note<|by rw[hs];rfl) A G
    ·have S:t=false:=S;subst S;exact go g1 (D.note<|by rw[hs];rfl) A G
   case h_2=>
    rcases v.EB with⟨S,G⟩|⟨S,G⟩
    ·grind
    grind
 |block id b ih=>
  intro h0 st k F ρ fr h ds A D v;unfold exec at v;obtain⟨l,M,h1,h2,h3⟩:=ih ds A D v;refine⟨l.map fun x=>match x.e with
    | .exit i=>bif zf i id then { x with e:=.normal }else x
    |_=>x,M+1,fun m hm q U=>?_,fun e=>?_,fun y hy=>?_⟩
  ·obtain⟨q',rfl⟩:=E (show 1<=q by omega);grind [Bj]
  ·grind
  grind
 |loop b ih=>
  intro h0 st k F ρ fr h ds A D v;unfold exec at v;cases v with
  |@loop n0 _ _ _ _ _ _ _ _ v=>
  obtain⟨F0,ρ0,hr0,hb0,hρ0,hF0⟩:=OD D f (BC b) A;have hl0:Le F ρ base F0 ρ0 base:=⟨hF0,ah,zd _⟩;unfold body at v;have hbody:=IH n0 (Nat.lt_succ_self _) b ds hb0 hr0 v;have hch:Gz B h0 X base (n0+1) Q k F0 ρ0 h nd (fun m q=>match Bj X.C (A5 X.C m) rv ct q b fr h ds with|some l=>bl l (fun x=>match x.e with| .normal=>Bj X.C (A5 X.C m) rv ct q (.loop b) x.fr x.h x.ds|_=>some [x])|none=>none) ds:=by
   refine chain (run2:=fun m q x=>match x.e with| .normal=>Bj X.C (A5 X.C m) rv ct q (.loop b) x.fr x.h x.ds|_=>some [x]) ae hbody fun x ps1 n1 Y u w F' ρ' L W=>?_
   obtain⟨e,V,h1,I⟩:=x;cases e with
   |normal=>
    have he1':Ev X Q n1 (exec X (B8 X nd d) (B8 X false d) nd ro d f base (.loop b) u k):=by unfold exec;exact w
    obtain⟨l,M,h1,h2,h3⟩:=IH n1 ae (.loop b) I W L he1';exact⟨l,M,h1,h2,ah⟩
   |exit i=>exact⟨[⟨.exit i,V,h1,I⟩],0,(by simp),(by simp),fun x K=>by cases zc.1 K;exact⟨[],(by simp),n1,by omega,u,w,F',ρ',L,W,zk,zd _⟩⟩
   |ret=>exact⟨[⟨.ret,V,h1,I⟩],0,(by simp),(by simp),fun x K=>by cases zc.1 K;exact⟨[],(by simp),n1,by omega,u,w,F',ρ',L,W,zk,zd _⟩⟩
  obtain⟨l,M,g1,g2,g3⟩:=Z (run':=fun m q=>Bj X.C (A5 X.C m) rv ct q (.loop b) fr h ds) hch<|fun m q=>rfl;refine⟨l,M,g1,g2,fun x K=>?_⟩;obtain⟨ps,k0,n2,k1,T,k2,F2,R,k3,k4,k5,k6⟩:=g3 x K;exact⟨ps,k0,n2,k1,T,k2,F2,R,k3,k4,hl0.trans k5,k6⟩
 |scope b ih=>
  intro h0 st k F ρ fr h ds A D v;unfold exec at v;exact Z (ih ds A D v)<|fun m q=>rfl
 |rangeFunc g ps a b _ _=>
  intro h0 st k F ρ fr h ds A D v;unfold exec at v;cases hro:ro with
  |true=>grind [Ev.Ay]
  |false=>
  rw[hro]at v;obtain⟨rfl,rfl⟩:=hrv hro;simp only[wg]at v;split at v
  case h_2=>grind [Ev.Ay]
  rename_i gf first cap hg
  obtain⟨pq,hprim⟩:∃pq,X.C.prim gf=pq:=⟨_,rfl⟩;cases pq with
  |some q0=>grind [Ev.Ay]
  |none=>
  rw[hprim]at v;simp only[Option.isSome_none,wg]at v;obtain⟨gv,g1,g2⟩:=B0 (C:=X.C) D.fp hg;simp only[PR]at g2;obtain⟨fa,fb,rfl,f1,f2⟩:=g2;have L:=D.sr.mark;have hr2:=L.push (o:=.lp f (BC b) ps a b .ready st.n<|Lf X f (BC b) st) (x:=.loop ⟨.ready,none,fr,ps,a,b,h.nx⟩) (n:=0) rfl
   ⟨_,rfl,rfl,rfl,rfl,⟨rfl,rfl⟩,D.fp.n.symm,fun t=>by
    have hl:=Le.new (F:=F) (ρ:=ρ) (N:=st.nx) ((h.push<|.defd true).nx,0);unfold Py Lf;cases hp:(ED<|(X.pl f<|BC b).map fun t=>(t,st.get t)).get t with
    |none=>simp[PR]
    |some p=>
     rcases Gc _ .leaf t p hp with h1|h1
     ·simp only[yg]at h1;obtain⟨s,_,h2⟩:=h1;cases h2;exact(D.fp.slot _).mono hl
     ·simp at h1⟩
  have hle2:Le F ρ st.nx F (Bq ρ st.nx<|some (h.nx+1,0)) (st.nx+1):=Le.new _;have hrel2:Rel B (h0.pins [h.nx]) F (Bq ρ st.nx<|some (h.nx+1,0)) (st.push<|.lp f (BC b) ps a b .ready st.n<|Lf X f (BC b) st) fr ((h.push<|.defd true).push<|.loop ⟨.ready,none,fr,ps,a,b,h.nx⟩):=
   ⟨⟨D.fp.n,fun t=>(D.fp.slot t).mono hle2⟩,hr2⟩
  have hargs:BD F (Bq ρ st.nx<|some (h.nx+1,0)) (st.push<|.lp f (BC b) ps a b .ready st.n<|Lf X f (BC b) st).nx (first++[.yl st.nx]++cap) (fa++[.yld<|h.nx+1]++fb):=by
   refine((f1.mono hle2).append ?_).append<|f2.mono hle2;simp only[BB,DH,ve,PR];exact⟨ae,(by grind [Bq])⟩
  obtain⟨l,hcd,hone,hall⟩:=hcall _ v hrel2 hargs;obtain⟨i,M,hfn,hM⟩:∃i M,X.C.fn gf=some i/\∀m,M<=m->A5 X.C m (.fn gf<|fa++[.yld<|h.nx+1]++fb) ((h.push<|.defd true).push<|.loop ⟨.ready,none,fr,ps,a,b,h.nx⟩)=some l:=by
   cases hcd with
   |A5 hc hM=>obtain⟨rfl,_,i,hfn⟩:=hc;exact⟨i,_,hfn,hM⟩
   |prim U _=>grind
  have hdc:HW X.C ((h.push<|.defd true).push<|.loop ⟨.ready,none,fr,ps,a,b,h.nx⟩) (.fn (.func gf) fa fb) [.yld<|h.nx+1]=some (.enter gf<|fa++[.yld<|h.nx+1]++fb):=by
   grind [HW]
  have fin:∀x∈l,∃(r:List Det.X) (M:Nat),(∀m:Nat,M<=m->∀q:Nat,M<=q->(match x.2.get (h.nx+1)with
      |some (.loop ls)=>match ls.st,ls.pend with
       | .busy,_=>none
       |_,none=>some [⟨.normal,fr,x.2.put (h.nx+1)<|.loop { ls with st:=.exhausted },h.nx::ds⟩]
       |_,some c=>Bj X.C (A5 X.C m) none false q c fr (x.2.put (h.nx+1)<|.loop { ls with st:=.exhausted }) (h.nx::ds)
      |_=>none)=some r)/\(nd=false->∃x,r=[x])/\∀y∈r,∃ps,(y.ds=ps++ds/\ps.Nodup/\∀b∈ps,h.nx<=b)/\∃n',n'<=n/\∃u,Ev X Q n' (k y.e u)/\∃F' ρ',Rel B (h0.pins ps) F' ρ' u y.fr y.h/\base<=u.nx/\Le F ρ base F' ρ' base/\h.nx<=y.h.nx:=by
   intro x K;obtain⟨n1,Y,r,st',w,F',ρ',_,J,_⟩:=hall x K;split at w
   case h_2=>grind [Ev.Ay]
   rename_i f' r' ps' asg' body' s n' sl hob;obtain⟨bb,nn,y,k1,k2,⟨ls,rfl,-,-,-,hlp,-⟩,-⟩:=J.rel.sr.at hob;have hN:st.nx<st.nx+1:=ae;have kk:Bq ρ st.nx (some (h.nx+1,0)) st.nx=some (bb,nn):=J.le.at hN k1;simp only[Bq,wm,zh,zn]at kk;obtain⟨rfl,rfl⟩:=kk;have hpin:∀p∈(h0.pins [h.nx]).pin,h.nx+1≠p:=fun p hp e=>(J.rel.sr.pn p hp).2.2 _ _<|e▸k1
   have hdel:=J.rel.sr.del st.nx;have hput:∀z:O,Rel B (h0.pins [h.nx]) F' (Bq ρ' st.nx none) (st'.FE st.nx) fr (x.2.put (h.nx+1) z):=by
    intro z;have hl:Le F' ρ' st'.nx F' (Bq ρ' st.nx none) st'.nx:=Le.Jb _;refine⟨⟨J.rel.fp.n,fun t=>(J.rel.fp.slot t).mono hl⟩,?_⟩;refine hdel.Yw (fun id o m ho e=>?_) ?_ (J.rel.sr.own _ _ _ k1).2 (fun hp=>hpin _ hp rfl) k2
    ·rw[Di]at ho;split at ho
     ·cases ho
     ·rename_i hne;simp only[Bq,hne,vf]at e;exact hne<|J.rel.sr.inj id st.nx o _ _ m 0 ho hob e k1
    ·cases hF:F' (h.nx+1)with
     |none=>rfl
     |some cs=>obtain⟨t,fz,g⟩:=J.rel.sr.frz _ cs hF;rw[k2]at g;cases g
   have hbase:base<=(st'.FE st.nx).nx:=zp A<|zp (Nat.le_succ _) J.le.n;have hLe:Le F ρ base F' (Bq ρ' st.nx none) base:=by
    refine(hle2.low A).trans<|(J.le.low<|zp A<|Nat.le_succ _).trans ?_;exact(Le.Jb (F:=F') (ρ:=ρ') (N:=base) st.nx)
   have hnx:h.nx<=x.2.nx:=zp (by show h.nx<=h.nx+1+1;omega) J.nx;have done:∀ {e:DX} {z:O},Ev X Q n1 (k e<|st'.FE st.nx)->∃ps,((⟨e,fr,x.2.put (h.nx+1) z,h.nx::ds⟩:Det.X).ds=ps++ds/\ps.Nodup/\∀b∈ps,h.nx<=b)/\∃n',n'<=n/\∃u,Ev X Q n' (k e u)/\∃F' ρ',Rel B (h0.pins ps) F' ρ' u fr (x.2.put (h.nx+1) z)/\base<=u.nx/\Le F ρ base F' ρ' base/\h.nx<=(x.2.put (h.nx+1) z).nx:=by
    intro e z G;exact⟨[h.nx],⟨rfl,(by simp),fun b A=>by cases zc.1 A;exact zd _⟩,n1,Y,_,G,F',_,hput z,hbase,hLe,hnx⟩
   obtain⟨lst,lpend,lfr,lps,lasg,lbody,ldb⟩:=ls;simp only at hlp;split at w
   case h_1=>
    obtain⟨rfl,rfl⟩:=hlp;exact⟨[⟨.normal,fr,x.2.put (h.nx+1)<|.loop ⟨.exhausted,none,lfr,lps,lasg,lbody,ldb⟩,h.nx::ds⟩],0,fun m _ q _=>(by simp only[k2]),fun _=>⟨_,rfl⟩,fun y hy=>by cases zc.1 hy;exact done w⟩
   case h_2=>
    obtain⟨rfl,rfl⟩:=hlp;exact⟨[⟨.ret,fr,x.2.put (h.nx+1)<|.loop ⟨.exhausted,some .ret,lfr,lps,lasg,lbody,ldb⟩,h.nx::ds⟩],1,fun m _ q U=>(by obtain⟨q',rfl⟩:=E U;simp only[k2,Bj]),fun _=>⟨_,rfl⟩,fun y hy=>by cases zc.1 hy;exact done w⟩
   case h_3=>
    rename_i j;obtain⟨rfl,rfl⟩:=hlp;exact⟨[⟨.exit j,fr,x.2.put (h.nx+1)<|.loop ⟨.exhausted,some<|.exit j,lfr,lps,lasg,lbody,ldb⟩,h.nx::ds⟩],1,fun m _ q U=>(by obtain⟨q',rfl⟩:=E U;simp only[k2,Bj]),fun _=>⟨_,rfl⟩,fun y hy=>by cases zc.1 hy;exact done w⟩
   case h_4=>exact wh w Ev.Ay
  obtain⟨r,M2,j1,j2,j3⟩:=I5 hone fin;refine⟨r,max M M2+1,fun m hm q U=>?_,j2,j3⟩;obtain⟨q',rfl⟩:=E (show 1<=q by omega);have h1:=hM m ae;have h2:=j1 m ae q' ae;simp only[Bj,Rl,g1];show(match HW X.C ((h.push<|.defd true).push<|.loop ⟨.ready,none,fr,ps,a,b,h.nx⟩) (.fn (.func gf) fa fb) [.yld<|h.nx+1]with|some (.enter f args)=>_|_=>none)=_;rw[hdc];simp only[h1];exact h2
 |goto l=>intro h0 st k F ρ fr h ds A D v;exact wh v Ev.Ay
 |refuse s=>intro h0 st k F ρ fr h ds A D v;exact wh v Ev.Ay
end
end Go.Pe
