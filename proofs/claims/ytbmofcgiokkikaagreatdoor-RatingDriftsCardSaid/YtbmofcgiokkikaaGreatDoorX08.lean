import Derived.Test.YtbmofcgiokkikaaGreatDoorX07
/- A part of a proof; no law is stated here. -/
noncomputable section
open List renaming mem_singleton -> zc, take_of_length_le -> zr, replicate -> zt, drop_eq_getElem_cons -> zw, getElem?_eq_some_iff -> zx, length_eq_zero_iff -> z6, drop_zero -> ya, all_cons -> yd, mem_map -> yf
open Nat renaming le_refl -> zd, beq -> zf, eq_of_beq_eq_true -> zg, ble -> zi, blt -> zl, mul_le_mul_right -> zm, le_trans -> zp, le_of_ble_eq_true -> zu, zero_mul -> z7, add_mul -> yb
open Bool renaming and_eq_true -> ze, and_true -> zy
open Option.some renaming injEq -> zh
open Option renaming map_eq_some_iff -> zj, getD_some -> zz, map_some -> z8
open Go.Pe.Le renaming refl -> zk
open Prod.mk renaming injEq -> zn
open Go.Pe.OK renaming pure -> zo
open List.cons renaming injEq -> zq
open Go.Pe renaming apart -> yc, Ce -> yg
open Go.Det.V renaming beq -> ye
namespace Go.Pe
open Go.Det
section
variable {B:Nat}{h0:H0}{F:Fz}{ρ:Ez}{N:Nat}{C:Ctx}{st st':AQ}{fr:Fr}{h h':H}
theorem SR.rI{ob:Ob}(hr:SR B h0 F ρ N ob h){o:Obj}{x:O}{b n:Nat}(S:h.get b=some x)(r:∀id o m,AR ob id=some o->ρ id≠some (b,m))(V:F b=none)(R:h0.fO B b)(M:b∉h0.pin)(P:o.frozen=false)
  (Z:Yd F (BC ρ N<|some (b,n)) (N+1) n o x):SR B h0 F (BC ρ N<|some (b,n)) (N+1) ((N,o)::ob) h:=by
 have D:Le F ρ N F (BC ρ N<|some (b,n)) (N+1):=Le.new _;have a:∀j,AR ((N,o)::ob) j=if j=N then some o else AR ob j:=by
  simp only[AR,Bx];grind
 refine⟨fun j oj d=>?_,fun i j oi oj c m u v d g q=>?_,hr.frz,fun id c m l=>?_,fun j d=>?_,hr.old,hr.lt,hr.le,hr.fo,hr.gl,fun c z=>?_⟩
 ·rw[a]at d;by_cases e:j=N
  ·grind [BC]
  ·rw[wc e]at d;obtain⟨c,m,y,g,q,J,G⟩:=hr.obj j oj d;exact⟨c,m,y,by simp[BC,e,g],q,J.mono D,G⟩
 ·rw[a]at v d;have key:∀k ok m,(if k=N then some o else AR ob k)=some ok->BC ρ N (some (b,n)) k=some (c,m)->(k=N/\c=b)\/(k≠N/\AR ob k=some ok/\ρ k=some (c,m)/\c≠b):=by
   intro k ok m U p;by_cases e:k=N
   ·simp_all [BC]
   ·simp only[BC,e,vg]at p;grind
  rcases key i oi m v g with⟨I,s⟩|⟨I,s,w,W⟩<;>rcases key j oj u d q with⟨E,t⟩|⟨E,t,A,Y⟩
  ·omega
  ·omega
  ·omega
  ·exact hr.inj i j oi oj c m u s t w A
 ·unfold BC at l;split at l
  ·grind
  ·have:=hr.own id c m l;grind
 ·rw[a]at d;by_cases e:j=N
  ·grind
  ·rw[wc e]at d;simp[BC,e,hr.dead j d]
 ·obtain⟨T,K,L⟩:=hr.pn c z;grind [BC]
theorem Re{off:Nat}{cs:List V}(h:off<=cs.length):CL off [] cs=cs:=by
 apply List.ext_getElem?;simp_all [HT,wc]
theorem VN{off:Nat}{vs cs:List V}(h:off+vs.length<=cs.length):CL off vs cs=cs.take off++(vs++cs.drop (off+vs.length)):=by
 apply List.ext_getElem?;intro j;rw[HT h];grind
theorem DN.uR{s:Sh}{l new:List s.T}{cs e:List V}{a:Nat}(h:DN F s l cs)(d:DN F s new e)(g:a+new.length<=l.length):
  DN F s (l.take a++(new++l.drop (a+new.length))) (CL (a*s.sz) e cs):=by
 have k:=h.1;have i:=d.1;have j:(a+new.length)*s.sz<=l.length*s.sz:=zm _ g;rw[VN ah];have b:=h.part (off:=0) (len:=a) ae;have c:=h.part (off:=a+new.length) (len:=l.length-(a+new.length)) ae;rw[z7,ya,ya]at b;rw[zr (by simp),zr<|by simp_all [Nat.sub_mul]]at c;rw[i, <-yb];exact b.append<|d.append c
def Gk:List PV->List Nat
 | .sl id _ _ _ _::_=>[id]
 |_=>[]
theorem fR{s b:Sh}{x:b.T}{c:Bool}{l:List s.T}(d:Qv st s (.dat b x)=some (c,l)):c=true:=by
 unfold Qv at d;cases b with
 |list a=>
  grind [zj,Iv,lz]
 |nlist a=>
  grind [zj,Iv,lz]
 |str=>
  grind [zj,Iv,lz]
 |_=>cases d
theorem nO(hr:SR B h0 F ρ st.nx st.ob h){ts:Array TypeId}{ps:List PV}{xs:List V}(M:BT F ρ st.nx ps xs){v:PV}(d:(Ue C.T ts ps st).To v st'):OK B h0 F ρ st h (Gk ps) (FT<|Hj C.T h ts xs) v st':=by
 unfold Ue at d;split at d
 case h_2=>simp at d
 rename_i t tx p q hts htx;simp only[BT]at M;obtain⟨x,_,rfl,M,y,_,rfl,hy,rfl⟩:=M;split at d
 case h_2=>simp at d
 rename_i e ex hu hux;have hss:UB ex=true:=by
  cases hq:UB ex with
  |true=>rfl
  |false=>simp_all
 rw[hss]at d;simp only[we]at d;split at d
 case h_2=>simp at d
 rename_i i s hi hs;cases hc:(zl 0 i.bytes&&zl 0 i.size&&zf i.zero.length i.size&&zf i.size s.sz)with
 |false=>simp_all
 |true=>
  rw[hc]at d;simp only[ze]at hc;obtain⟨⟨⟨c1,c2⟩,c3⟩,c4⟩:=hc;have e4:=zg c4;simp only[we]at d;split at d
  case h_2=>simp at d
  rename_i c new hel;have head:c=true->∃cs,src h i.size y new.length=some cs/\DN F s new cs/\Hj C.T h ts [x,y]=(match x with
      | .nils=>bif zf new.length 0 then some (.nils,h)
       else bif zi ((3*new.length+2000)*i.bytes) 562949953421312 then some (.sl h.nx 0 new.length new.length i.size,JI h e cs)else none
      | .es0=>bif zf new.length 0 then some (.es0,h)
       else bif zi ((3*new.length+2000)*i.bytes) 562949953421312 then some (.sl h.nx 0 new.length new.length i.size,JI h e cs)else none
      | .esl=>bif zf new.length 0 then some (.esl,h)else none
      | .sl b off len cap o=>
       bif zi (len+new.length) cap then(wr h b (off+len*i.size) cs).map fun h'=>(.sl b off (len+new.length) cap o,h')
       else bif zi ((3*(len+new.length)+2000)*i.bytes) 562949953421312 then
        match src h i.size x len with
        |some old=>
         bif zf o 0 then some (.sl h.nx 0 (len+new.length) (len+new.length) i.size,JI h e<|old++cs)
         else
          match h.get b with
          |some (.cells _ te fz)=>
           bif zf off 0&&zf o i.size&&zf te e&&zi fz.2 fz.1&&cs.all V.one then some (.sl h.nx 0 (len+new.length) (len+new.length) i.size,(h.kill b).push<|.cells (old++cs) e (0,0))
           else none
          |_=>none
        |none=>none
       else none
      |_=>none):=by
   intro hc;obtain⟨g1,L,cs,I,g4⟩:=gD hr hy hel hc;rw[<-e4]at I;refine⟨cs,I,g4,?_⟩;have hcond:(zl 0 i.bytes&&zl 0 i.size&&zf i.zero.length i.size&&(zf i.size 1||Rk y))=true:=by
    grind
   have hint:isInt ex=false:=by cases ex<;>first|rfl|cases hss
   simp only[Hj,hts,htx,hu,hux,g1,hi,hint,hcond,we,I];cases x<;>rfl
  split at d
  case h_3=>simp at d
  case h_1=>
   simp only[PR]at M;subst M;have grow:c=true->0<new.length->(3*new.length+2000)*i.bytes<=sU->OK B h0 F ρ st h (Gk [PV.nil,q]) (FT<|Hj C.T h ts [.nils,y]) (.sl st.nx s.sz 0 new.length none) (st.push<|.arr false e s new):=by
    intro Z k2 k3;obtain⟨cs,g1,L,I⟩:=head Z;have P:zf new.length 0=false:=by grind [Bx]
    have b2:zi ((3*new.length+2000)*i.bytes) 562949953421312=true:=Nat.ble_eq_true_of_le k3;rw[I];simp only[P,b2,wg,we];exact OK.new hr (o:=.arr false e s new) (n:=new.length) rfl ⟨_,_,rfl,L,zd _,rfl⟩ (PN<|.inr e4)
   have same:c=true->new.length=0->OK B h0 F ρ st h (Gk [PV.nil,q]) (FT<|Hj C.T h ts [.nils,y]) .nil st:=by
    intro Z k2;obtain⟨cs,g1,L,I⟩:=head Z;have P:zf new.length 0=true:=by rw[k2];rfl
    rw[I];simp only[P,we];exact⟨.nils,h,F,ρ,.inl rfl,by simp[PR],hr,zk,rfl,rfl,zd _,(by simp)⟩
   split at d
   case h_1=>
    simp_all [Qv,Iv,lz]
   case h_2=>
    have hc':c=true:=by
     exact fR hel
    by_cases hn:0<new.length
    ·rw[w4 hn]at d;cases d with
     |tt d=>
      simp_all
    ·rw[w8 hn]at d;cases d with
     |ff d=>
      simp_all
   case h_3=>
    by_cases hn:0<new.length
    ·rw[w4 hn]at d;cases d with
     |tt d=>
      simp_all
    ·rw[w8 hn]at d;cases d with
     |ff d=>
      simp_all
   simp_all
  case h_2=>
   rename_i id sz off len cap;split at d
   case h_2=>simp at d
   rename_i e' r l ho;split at d
   case h_2=>simp at d
   rename_i l' hl';obtain⟨ecast,hcast⟩:=CR hl';have es:r=s:=ah
   subst es;have:l'=l:=ah
   subst this;cases O:(zf e e'&&zf sz r.sz)with
   |false=>simp_all
   |true=>
    rw[O]at d;simp only[ze]at O;have ee:=zg O.1;have esz:=zg O.2;subst ee;subst esz;simp only[we]at d;split at d
    case h_2=>
     rename_i k;simp only[Cr,ze,w5]at d;obtain⟨⟨⟨Z,k2⟩,k3⟩,rfl,rfl⟩:=d;obtain⟨cs,g1,L,I⟩:=head Z;obtain⟨b,n,z,h1,h2,⟨bs,fz,rfl,h3,h4,h5⟩,h6,_⟩:=hr.at ho;simp only[PR]at M;rw[I];have hone:cs.all V.one=true:=L.Xp;have hcl:cs.length=new.length*r.sz:=L.1;have hbl:=h3.1;have hle:(off+len+new.length)*r.sz<=l'.length*r.sz:=zm _ ae;have hexp:(off+len+new.length)*r.sz=off*r.sz+len*r.sz+new.length*r.sz:=ah
     have hsp:=DN.uR h3 L (a:=off+len) ae;have D:(l'.take (off+len)++(new++l'.drop (off+len+new.length))).length=l'.length:=by simp;omega
     rcases M.2 b n h1 with⟨_,g6,o,g5,rfl⟩|⟨e0,ek,g6,g7⟩
     ·simp only[zz]at g6;have hw:wr h b (off*r.sz+len*i.size) cs=some (h.put b<|.cells (CL ((off+len)*r.sz) cs bs) e fz):=by
       grind [Oj,yb]
      have P:zi (len+new.length) k=true:=(by simp_all);refine⟨.sl b (off*r.sz) (len+new.length) k o,h.put b<|.cells (CL ((off+len)*r.sz) cs bs) e fz,F,ρ,.inl ?_,?_,hr.set ho h1 h2 rfl rfl (o':=.arr false e r _) ⟨_,fz,rfl,hsp,h4,D.trans h5⟩,zk,rfl,rfl,zd _,fun c _=>?_⟩
      ·simp only[zz,P,we,hw,z8,FT]
      ·simp only[PR];refine⟨M.1,fun b' n' hb'=>.inl ?_⟩;grind
      ·rw[H.Cf];by_cases e:c=b
       ·grind [Gk]
       grind
     ·cases ek;subst e0;have hn0:new.length=0:=ae
      have U:new=[]:=ah;subst U;have hcs:cs=[]:=(by grind [z6]);subst hcs;have hlp:CL ((off+0)*r.sz) [] bs=bs:=(by grind [Re]);have R:∀c,(h.put b<|.cells (CL ((off+0)*r.sz) [] bs) e fz).get c=h.get c:=by
       intro c;rw[hlp,H.Cf];grind
      have hset:=hr.set ho h1 h2 rfl rfl (o':=.arr false e r _) (x':=.cells (CL ((off+0)*r.sz) [] bs) e fz) ⟨_,fz,rfl,hsp,h4,D.trans h5⟩;have G:SR B h0 F ρ st.nx (Ep st.ob id<|.arr false e r<|l'.take (off+0)++([]++l'.drop (off+0+0))) h:=
       SR.congr (st:=⟨st.n,st.fr,Ep st.ob id _,st.nx⟩) hset ah rfl
      have hpr:∀w,(w=.esl\/∃A,w=.sl b A 0 0 0/\A<=off*r.sz)->PR F ρ st.nx (.sl id r.sz off (Nat.add 0 0)<|some 0) w:=by
       grind [PR]
      rcases g7 with rfl|⟨A,rfl,Y⟩
      ·exact⟨.esl,h,F,ρ,.inl rfl,hpr _<|.inl rfl,G,zk,rfl,rfl,zd _,(by simp)⟩
      ·have hob:A<=bs.length:=by
        omega
       have hw:wr h b (A+0*i.size) []=some (h.put b<|.cells (CL (A+0*i.size) [] bs) e fz):=Oj h2 ae h4 rfl;have W:∀c,(h.put b<|.cells (CL (A+0*i.size) [] bs) e fz).get c=h.get c:=by
        simp_all [Re]
       refine⟨.sl b A 0 0 0,h.put b<|.cells (CL (A+0*i.size) [] bs) e fz,F,ρ,.inl ?_,hpr _<|.inr ⟨A,rfl,Y⟩,SR.congr (st:=⟨st.n,st.fr,Ep st.ob id _,st.nx⟩) G W rfl,zk,rfl,rfl,zd _,ah⟩;simp_all [zi,FT]
    simp only[Cr,ze,w5]at d;obtain⟨⟨⟨⟨Z,k2⟩,k3⟩,k4⟩,rfl,rfl⟩:=d;subst k2;obtain⟨cs,g1,L,I⟩:=head Z;obtain⟨b,n,z,h1,h2,⟨bs,fz,rfl,h3,h4,h5⟩,h6,_⟩:=hr.at ho;have hFb:=h6 rfl;simp only[PR]at M;have hB:=(hr.own id b n h1).2;have hPb:b∉h0.pin:=fun hp=>(hr.pn b hp).2.2 id n h1
    have hidN:=ae;obtain⟨_,_,o,g5,rfl⟩:len<=len/\0+len<=n/\∃o,(o=0\/o=r.sz)/\x=.sl b (0*r.sz) len len o:=by
     rcases M.2 b n h1 with g|⟨_,e,_⟩
     ·exact g
     grind
    have hbl:bs.length=len*i.size:=by rw[h3.1,k3,e4]
    have E:∀j oj m,AR (Hl st.ob id) j=some oj->BC ρ id none j≠some (b,m):=by
     intro j oj m hj hjr;rw[DO]at hj;split at hj
     ·cases hj
     ·rename_i hne;simp only[BC,hne,vg]at hjr;exact hne<|hr.inj j id oj _ b m n hj ho hjr h1
    have J:=hr.del id;have S:Le F ρ st.nx F (BC ρ id none) st.nx:=Le.Kp id;have hnew:DN F r (l'++new) (bs++cs):=h3.append L;have D:(l'++new).length=len+new.length:=ah
    have hone:cs.all V.one=true:=L.Xp;rw[I];simp only;by_cases hn:new.length=0
    ·
     have U:new=[]:=ah;have hcs:cs=[]:=z6.1 (by rw[L.1,hn,z7]);subst hcs;have P:zi (len+new.length) len=true:=(by simp_all);have hw:wr h b (0*r.sz+len*i.size) []=some (h.put b<|.cells (CL (0*r.sz+len*i.size) [] bs) e fz):=Oj h2 ah h4 rfl;have R:∀c,(h.put b<|.cells (CL (0*r.sz+len*i.size) [] bs) e fz).get c=h.get c:=by
      simp_all [Re]
     refine⟨.sl b (0*r.sz) (len+new.length) len o,h.put b<|.cells (CL (0*r.sz+len*i.size) [] bs) e fz,F,BC (BC ρ id none) st.nx<|some (b,n),.inl ?_,?_,?_,S.trans<|Le.new _,rfl,rfl,zd _,ah⟩
     ·simp only[P,we,hw,z8,FT]
     ·unfold PR;refine⟨Nat.lt_succ_self _,fun b' n' hb=>.inl ?_⟩;simp_all [BC]
     ·refine SR.rI (ob:=Hl st.ob id) ?_ (x:=.cells bs e fz) ah E hFb hB hPb rfl ⟨bs,fz,rfl,?_,h4,?_⟩
      ·exact SR.congr (st:=⟨st.n,st.fr,Hl st.ob id,st.nx⟩) J R rfl
      ·grind
      omega
    ·
     have P:zi (len+new.length) len=false:=by
      cases hb:zi (len+new.length) len with
      |false=>rfl
      |true=>have:=zu hb;omega
     have b2:zi ((3*(len+new.length)+2000)*i.bytes) 562949953421312=true:=Nat.ble_eq_true_of_le k4;have hsrc:src h i.size (.sl b (0*r.sz) len len o) len=some bs:=by
      show rd h b (0*r.sz) (len*i.size)=_;rw[rd_some h2 ae<|fun u hu=>h3.ok u ah];grind
     simp only[P,b2,wg,we,hsrc];have fin:∀ {K:H},SR B h0 F (BC ρ id none) st.nx (Hl st.ob id) K->K.nx=h.nx->(∀c,c≠b->K.get c=h.get c)->
       OK B h0 F ρ st h [id] (FT<|some (.sl h.nx 0 (len+new.length) (len+new.length) i.size,K.push<|.cells (bs++cs) e (0,0))) (.sl st.nx r.sz 0 (Nat.add len new.length) none) ((st.GF id).push<|.arr false e r<|l'++new):=by
      intro K hr1 hnx hg;have hp:=hr1.push (o:=.arr false e r<|l'++new) (x:=.cells (bs++cs) e (0,0)) (n:=len+new.length) rfl ⟨_,_,rfl,hnew,zd _,D⟩;refine⟨_,_,F,_,.inl rfl,?_,hp,S.trans<|Le.new _,rfl,rfl,by simp_all,fun c hc=>?_⟩
      ·rw[<-hnx];exact PN<|.inr e4
      ·rw[H.CW,wc ae];grind
     rcases g5 with rfl|rfl
     ·exact fin J rfl (fun _ _=>rfl)
     ·have b3:zf r.sz 0=false:=by
       rw[<-e4];cases hb:zf i.size 0 with
       |false=>rfl
       |true=>simp_all
      have b4:(zf (0*r.sz) 0&&zf r.sz i.size&&zf e e&&zi fz.2 fz.1&&cs.all V.one)=true:=by
       simp_all
      simp only[b3,wg,h2,b4,we];exact fin (J.kill E hFb hB hPb) rfl (by simp_all)
theorem FL:∀ {s:Sh} {x:s.T} {v:V},DV F s x v->PR F ρ N (Ce s x) v
 | .pair a b,x,v,h=>by obtain⟨cs,rfl,c⟩:=h.1 rfl;simp_all [Ce,PR,Dj]
 | .unit,x,v,h=>by obtain⟨cs,rfl,c⟩:=h.1 rfl;simp_all [DC,Ce,PR]
 | .int _,x,v,h=>by have:=h.2 rfl;unfold Ce PR;omega
 | .bool,x,v,h=>by have:=h.2 rfl;unfold Ce PR;omega
 | .str,x,v,h=>by have:=h.2 rfl;unfold Ce PR;omega
 | .list _,x,v,h=>by have:=h.2 rfl;unfold Ce PR;omega
 | .nlist _,x,v,h=>by have:=h.2 rfl;unfold Ce PR;omega
 | .fnv,x,v,h=>by
  have:=h.2 rfl;simp only[DC,zq,vf]at this;subst this;unfold Ce;cases (x:Option Fn)<;>simp[PR]
 | .ptr s,x,v,h=>by
  have:=h.2 rfl;grind [DC,Ce,PR]
theorem Abr{s:Sh}{p:PV}{x:s.T}{v:V}(hp:PR F ρ N p v)(b:asV s p=some x):DV F s x v:=by
 unfold asV at b;cases a:(OJ p==s.OP)with
 |false=>grind
 |true=>
  rw[a]at b;refine⟨fun e=>?_,fun e=>?_⟩
  ·rw[e]at a;cases p<;>simp only[OJ]at a<;>try (cases a;done)
   obtain⟨cs,rfl,c⟩:=hp;exact⟨cs,rfl,Dc c b⟩
  ·rw[e]at a;have:p.cells=[p]:=by cases p<;>first|rfl|(simp[OJ]at a)
   rw[this]at b;exact Dc (by simpa using hp) b
theorem uQ{T:Cj}{t:TypeId}{s:Sh}(h:kSh T t=some s):(∃k,s=.int k/\T.und t=some (.int k))\/(s=.str/\T.und t=some .string)\/(s=.bool/\T.und t=some .bool):=by
 unfold kSh at h;grind
theorem Za{T:Cj}{t:TypeId}{s:Sh}(b:kSh T t=some s){p:PV}{x:s.T}{v:V}(hp:PR F ρ N p v)(a:xN s p=some x):DV F s x v:=by
 have:=Hb hp a;rcases uQ b with⟨k,rfl,_⟩|⟨rfl,_⟩|⟨rfl,_⟩<;>exact⟨fun e=>(by cases e),fun _=>this⟩
theorem TF{T:Cj}{t:TypeId}{s:Sh}(c:kSh T t=some s){x:s.T}{v:V}(e:DV F s x v):∃d,T.und t=some d/\JJ T t d v=true/\(∀es,K9 T t v es=LQ T t v es 0)/\∀y u,DV F s y u->lY T t v u=some (Zn s x y):=by
 rcases uQ c with⟨k,rfl,a⟩|⟨rfl,a⟩|⟨rfl,a⟩<;>
 ·have b:=e.2 rfl;simp only[DC,zq,vf]at b;subst b;refine⟨_,a,rfl,fun _=>rfl,fun y u g=>?_⟩;have i:=g.2 rfl;simp_all [DC,lY,Zn]
theorem PI{T:Cj}{t:TypeId}{ks vs:Sh}(I:kSh T t=some ks){k:ks.T}{p:V}(w:DV F ks k p):∀ {l:List (ks.T×vs.T)} {es:List (V×V×Nat)},MR F ks vs l es->∀i,∃r,LQ T t p es i=some r/\
  (match r with
   |none=>EB ks vs k l=none/\Vj ks vs k l=l/\∀x g c,DV F vs x g->MR F ks vs (H4 ks vs k x l) (es++[(p,g,c)])
   |some (j,u)=>(∃v,EB ks vs k l=some v/\DV F vs v u)/\i<=j/\MR F ks vs (Vj ks vs k l) (es.eraseIdx<|j-i)/\∀x g,DV F vs x g->MR F ks vs (H4 ks vs k x l) (YZ es (j-i) p g)):=by
 intro l es J;induction J with
 |nil=>intro i;exact⟨none,rfl,rfl,rfl,fun x g c m=>.cons w m .nil⟩
 |@cons a b l G D n es o y P E=>
  intro i;obtain⟨d,_,_,_,s⟩:=TF I w;have s:=s a G o;unfold LQ;rw[s];cases q:Zn ks k a with
  |true=>
   refine⟨some (i,D),rfl,(by grind [EB]),zd _,?_,fun x g m=>?_⟩
   ·simp_all [Vj]
   ·simp only[Nat.sub_self,H4,q,we,YZ,List.modify_zero_cons];exact .cons w m P
  |false=>
   obtain⟨r,M,A⟩:=E<|i+1;refine⟨r,M,?_⟩;cases r with
   |none=>
    obtain⟨L,K,z⟩:=A;refine⟨by simp_all [EB],by simp_all [Vj],fun x g c m=>?_⟩;simp only[H4,q,wg,List.cons_append];exact .cons o y<|z x g c m
   |some O=>
    obtain⟨j,u⟩:=O;obtain⟨⟨v,L,K⟩,z,k4,k5⟩:=A;have e:j-i=(j-(i+1))+1:=ae
    refine⟨(by simp_all [EB]),by omega,?_,fun x g m=>?_⟩
    ·rw[e];simp only[List.eraseIdx_cons_succ,Vj,q,wg];exact .cons o y k4
    ·rw[e];simp only[H4,q,wg,YZ,List.modify_succ_cons];exact .cons o y<|k5 x g m
theorem Abc(hr:SR B h0 F ρ st.nx st.ob h){t:TypeId}{v:PV}(a:(YP C.T t st).To v st'):OK B h0 F ρ st h [] (FT<|Ji h none) v st':=by
 unfold YP at a;split at a
 case h_2=>simp at a
 split at a
 case h_2=>simp at a
 rename_i ks vs c b;obtain⟨rfl,rfl⟩:=a;refine OK.new hr (o:=.map ks vs []) (x:=.map [] 0) (n:=0) rfl ⟨[],0,rfl,.nil⟩ ?_;simp_all [PR,BC]
theorem eJ(hr:SR B h0 F ρ st.nx st.ob h){ks vs:Sh}{m:PV}{l:List (ks.T×vs.T)}{x:V}(d:PR F ρ st.nx m x)(a:pM st ks vs m=some l):∃es,entries h x=some es/\MR F ks vs l es:=by
 unfold pM at a;split at a
 ·cases a;subst d;exact⟨[],rfl,.nil⟩
 ·split at a
  case h_2=>cases a
  rename_i i c l' g;obtain⟨e,j⟩:=CR a;obtain⟨rfl,rfl⟩:=e;obtain⟨b,n,o,h1,h2,⟨es,clk,rfl,h4⟩,_⟩:=hr.at g;simp_all [PR,entries]
 grind
theorem kO{ks vs:Sh}{ok:Bool}{z:vs.T}{x:ks.T}:∀ {l:List (ks.T×vs.T)} {v:PV},(plk ks vs ok z x st l).To v st'->st=st'/\((EB ks vs x l=none/\v=bif ok then .tup [Ce vs z,.bl false]else Ce vs z)\/∃w,EB ks vs x l=some w/\v=bif ok then .tup [Ce vs w,.bl true]else Ce vs w)
 |[],v,d=>by
  unfold plk at d;simp only[Cu]at d;exact⟨d.2,.inl ⟨rfl,d.1.symm⟩⟩
 |(a,b)::l,v,d=>by
  unfold plk at d;generalize i:Zn ks x a=c at d;cases d with
  |tt d=>
   grind [Cu,EB]
  |ff d=>
   obtain⟨e,g⟩:=kO d;grind [EB]
theorem sY(hr:SR B h0 F ρ st.nx st.ob h){t:TypeId}{p q:PV}{x y:V}(W:PR F ρ st.nx p x)(S:PR F ρ st.nx q y){ok:Bool}{v:PV}(a:(Vb C.T t p q ok st).To v st'):OK B h0 F ρ st h [] (BS h<|Fg C.T h t x y ok) v st':=by
 unfold Vb at a;split at a
 case h_2=>simp at a
 rename_i Y e I;split at a
 case h_2=>simp at a
 rename_i ks vs i d P G;split at a
 case h_2=>simp at a
 rename_i k l z U L O;cases b:(vAg i.zv==vs.OP)with
 |false=>simp_all
 |true=>
  rw[b]at a;have j:=Za d S U;obtain⟨es,J,M⟩:=eJ hr W L;obtain⟨kd,g1,g2,g3,_⟩:=TF d j;obtain⟨r,r1,r2⟩:=PI d j M 0;have m:DV F vs z i.zv:=by
   have A:DC F vs z i.zv.cells:=Dc (EI (F:=F) (ρ:=ρ) (N:=st.nx) i.zero) O;refine⟨fun e=>?_,fun e=>?_⟩
   ·rw[e]at b;cases c:i.zv<;>rw[c]at b<;>simp only[vAg]at b<;>try (cases b;done)
    rw[c]at A;exact⟨_,rfl,A⟩
   ·rw[e]at b;have:i.zv.cells=[i.zv]:=by cases c:i.zv<;>rw[c]at b<;>first|rfl|(simp[vAg]at b)
    grind
  unfold Fg;simp only[I,g1,J,g2,we,g3,r1];cases D:vs.Aa2 with
  |true=>
   rw[D]at a;have o:=kO a;obtain⟨K,s⟩:=o;subst K;rcases s with⟨Z,c⟩|⟨w,R,c⟩
   ·cases r with
    |none=>
     simp only[G];cases ok with
     |true=>exact zo hr rfl (by simp_all [PR,FL])
     |false=>exact zo hr rfl (by grind [FL])
    |some E=>
     grind
   ·cases r with
    |none=>grind
    |some E=>
     obtain⟨⟨v',g,u⟩,_⟩:=r2;rw[R]at g;cases g;cases ok with
     |true=>exact zo hr rfl (by simp_all [PR,FL])
     |false=>exact zo hr rfl (by rw[c];exact FL u)
  |false=>
  rw[D]at a;obtain⟨rfl,rfl⟩:=a;cases r with
  |none=>
   obtain⟨g,_⟩:=r2;simp only[G,g,Option.getD_none,Option.isSome_none];cases ok with
   |true=>exact zo hr rfl (by simp only[we,PR];simp_all [FL,D9])
   |false=>exact zo hr rfl (FL m)
  |some E=>
   obtain⟨⟨v,g,u⟩,_⟩:=r2;simp only[g,zz,Option.isSome_some];cases ok with
   |true=>exact zo hr rfl (by simp only[we,PR];simp_all [FL,D9])
   |false=>exact zo hr rfl (FL u)
theorem oY(hr:SR B h0 F ρ st.nx st.ob h){t:TypeId}{p q r:PV}{x y z:V}(M:PR F ρ st.nx p x)(L:PR F ρ st.nx q y)(G:PR F ρ st.nx r z){v:PV}(i:(T4 C.T t p q r st).To v st'):
  ∃id,p=.mp id/\OK B h0 F ρ st h [id] (rH<|IK C.T h t x y z) v st':=by
 unfold T4 at i;split at i
 case h_2=>simp at i
 rename_i U e id O;split at i
 case h_2=>simp at i
 rename_i ks g vs l j u;split at i
 case h_2=>simp at i
 rename_i k P w I D K;obtain⟨A,R⟩:=CR D;simp only[Sh.list.injEq,Sh.pair.injEq,vf]at A;subst A;simp only[Cu]at i;have m:=Za j L I;have J:=Abr G K;obtain⟨b,n,o,h1,h2,⟨es,clk,rfl,h4⟩,_⟩:=hr.at u;have s:=M;simp only[PR]at s;obtain⟨kd,g1,g2,g3,_⟩:=TF j m;obtain⟨r',r1,r2⟩:=PI j m h4 0;have fin:∀d a,MR F g vs (H4 g vs k w l) d->OK B h0 F ρ st h [id] (rH<|some<|h.put b<|.map d a) (.tup []) (st.setObj id<|.map g vs<|H4 g vs k w l):=by
  intro d a E;refine⟨.tup [],_,F,ρ,.inr ⟨rfl,rfl⟩,by simp[PR],hr.set u h1 h2 rfl rfl ⟨d,a,rfl,E⟩,zk,rfl,rfl,zd _,fun c _=>?_⟩;by_cases S:c=b
  ·grind
  simp_all
 unfold IK;grind
theorem rV(hr:SR B h0 F ρ st.nx st.ob h){ts:Array TypeId}{ps:List PV}{j:List V}(A:BT F ρ st.nx ps j){v:PV}(a:(TM C.T ts ps st).To v st'):
  ∃id u,ps=.mp id::u/\OK B h0 F ρ st h [id] (FT<|M0 C.T h ts j) v st':=by
 unfold TM at a;split at a
 case h_2=>simp at a
 rename_i t id q z;split at a
 case h_2=>simp at a
 split at a
 case h_2=>simp at a
 rename_i ks e vs l g p;split at a
 case h_2=>simp at a
 rename_i k G r s;obtain⟨m,D⟩:=CR s;simp only[Sh.list.injEq,Sh.pair.injEq,vf]at m;subst m;simp only[Cu]at a;obtain⟨x,xs',rfl,hx1,y,xs'',rfl,hy,rfl⟩:=A;have i:=Za g hy r;obtain⟨b,n,o,h1,h2,⟨es,clk,rfl,h4⟩,_⟩:=hr.at p;obtain rfl:=hx1.2 b n h1;obtain⟨kd,g1,g2,g3,_⟩:=TF g i;obtain⟨r',r1,r2⟩:=PI g i h4 0;have fin:∀d,MR F e vs (Vj e vs k l) d->OK B h0 F ρ st h [id] (FT<|some (.tup [],h.put b<|.map d clk)) (.tup []) (st.setObj id<|.map e vs<|Vj e vs k l):=by
  intro d w;refine⟨.tup [],_,F,ρ,.inl rfl,by simp[PR],hr.set p h1 h2 rfl rfl ⟨d,clk,rfl,w⟩,zk,rfl,rfl,zd _,fun c _=>?_⟩;by_cases E:c=b
  ·grind
  simp_all
 unfold M0;grind
theorem SR.same(hr:SR B h0 F ρ st.nx st.ob h){id b n:Nat}{o o':Obj}{x:O}(j:st.obj id=some o)(k:ρ id=some (b,n))(i:h.get b=some x)(g:o.frozen=false)(d:o'.frozen=false)
  (e:Yd F ρ st.nx n o' x):SR B h0 F ρ st.nx (Ep st.ob id o') h:=by
 have a:∀c,h.get c=(h.put b x).get c:=by
  simp_all
 exact SR.congr (st:=⟨st.n,st.fr,Ep st.ob id o',st.nx⟩) (hr.set j k i g d e) a rfl
theorem Ab1(hr:SR B h0 F ρ st.nx st.ob h){ts:Array TypeId}{ps:List PV}{G:List V}(q:BT F ρ st.nx ps G){v:PV}(d:(ZK C.T ts ps st).To v st'):OK B h0 F ρ st h (Gk ps) (FT<|Gu C.T h ts G) v st':=by
 unfold ZK at d;split at d
 case h_2=>simp at d
 rename_i t p A;obtain⟨x,_,rfl,q,rfl⟩:=q;split at d
 case h_2=>simp at d
 rename_i e I;split at d
 case h_3=>simp at d
 case h_1=>
  obtain⟨rfl,rfl⟩:=d;simp only[PR]at q;exact⟨.tup [],h,F,ρ,(by simp_all [Gu,FT]),by simp[PR],hr,zk,rfl,rfl,zd _,(by simp)⟩
 rename_i id sz off len cap;split at d
 case h_2=>simp at d
 rename_i i k s l R D;cases r:(zf sz s.sz&&zl 0 i.zero.length&&zf i.zero.length s.sz&&Det.LK V.one i.zero)with
 |false=>simp_all
 |true=>
  rw[r]at d;simp only[ze,Gb]at r;obtain⟨⟨⟨u,S⟩,W⟩,Z⟩:=r;have u:=zg u;subst u;simp only[we]at d;split at d
  case h_2=>simp at d
  rename_i z L;simp only[Cr,w5]at d;obtain⟨M,rfl,rfl⟩:=d;obtain⟨b,n,y,h1,h2,⟨bs,fz,rfl,h3,h4,h5⟩,h6,_⟩:=hr.at D;have w:DC F s z i.zero:=Dc (EI (F:=F) (ρ:=ρ) (N:=st.nx) i.zero) L;have g:=DN.replicate w len;have m:=DN.uR h3 g (a:=off) ah;rw[List.length_replicate]at m;have j:(l.take off++(zt len z++l.drop (off+len))).length=l.length:=ah
  have skip:Gu C.T h ts [x]=some (.tup [],h)->len=0->OK B h0 F ρ st h (Gk [.sl id s.sz off len cap]) (FT<|Gu C.T h ts [x]) (.tup []) (st.setObj id<|.arr false k s<|l.take off++(zt len z++l.drop (off+len))):=by
   intro J h0;subst h0;have el:l.take off++(zt 0 z++l.drop (off+0))=l:=by simp
   refine⟨.tup [],h,F,ρ,.inl (by rw[J];rfl),by simp[PR],hr.same D h1 h2 rfl rfl (o':=.arr false k s _) ⟨bs,fz,rfl,?_,h4,?_⟩,zk,rfl,rfl,zd _,(by simp)⟩
   ·grind
   omega
  rcases q.2 b n h1 with⟨_,P,o,g5,rfl⟩|⟨U,Y,P,rfl|⟨E,rfl,_⟩⟩
  ·by_cases h0:len=0
   ·simp_all [Gu]
   ·have O:wr h b (off*s.sz) (F7 i.zero<|len*i.zero.length)=some (h.put b<|.cells (CL (off*s.sz) ((zt len i.zero).flatten) bs) k fz):=by
     rw[Ix];refine Oj h2 ?_ h4 ?_
     ·rw[g.1,List.length_replicate, <-yb,h3.1];exact zm _ M
     grind
    have K:zf len 0=false:=by rw[Bx];simp[h0]
    refine⟨.tup [],h.put b<|.cells (CL (off*s.sz) ((zt len i.zero).flatten) bs) k fz,F,ρ,.inl ?_,by simp[PR],hr.set D h1 h2 rfl rfl (o':=.arr false k s _) ⟨_,fz,rfl,m,h4,j.trans h5⟩,zk,rfl,rfl,zd _,fun c _=>?_⟩
    ·simp only[Gu,A,I,K,wg,R,S,we,O,z8,FT]
    ·rw[H.Cf];by_cases e:c=b
     ·grind [Gk]
     grind
  ·simp_all [Gu]
  simp_all [Gu]
theorem xB(hr:SR B h0 F ρ st.nx st.ob h){t:TypeId}{p:PV}{x:V}(d:PR F ρ st.nx p x){v:PV}(a:(YL C.T t p st).To v st'):OK B h0 F ρ st h [] (FT<|Ig C.T h t x) v st':=by
 unfold YL at a;split at a
 case h_2=>simp at a
 rename_i s b;obtain⟨rfl,rfl⟩:=a;obtain rfl:=FU d;have c:Ig C.T h t (.str s)=some (.ptr h.nx 0,h.push<|.siter s 0):=by simp[Ig,Uj,b]
 rw[c];exact OK.new hr (o:=.siter s 0) (n:=0) rfl rfl MK
theorem Ac5(hr:SR B h0 F ρ st.nx st.ob h){p:PV}{x:V}(l:PR F ρ st.nx p x){i:Bool}{v:PV}(a:(lM p i st).To v st'):i=true/\∃id off,p=.ptr id off/\OK B h0 F ρ st h [id] (FT<|Ov h x i) v st':=by
 unfold lM at a;split at a
 case h_2=>simp at a
 rename_i id;split at a
 case h_2=>simp at a
 rename_i s pos g;obtain⟨b,n,y,d,e,k,m,_⟩:=hr.at g;subst k;obtain rfl:=l.2 b n d;refine⟨rfl,id,0,rfl,?_⟩;by_cases hp:pos<s.length
 ·rw[w4 hp]at a;cases a with
  |tt a=>
   obtain⟨rfl,rfl⟩:=a;have j:Ov h (.ptr b 0) true=some (.tup [.bool true,i64 pos,.int .i32<|rune s pos],h.put b<|.siter s<|pos+KV s pos):=by
    simp only[Ov,e,Hz,w4 hp,we];rfl
   refine⟨_,_,F,ρ,.inl (by rw[j];rfl),?_,hr.set g d e rfl rfl (o':=.siter s _) rfl,zk,rfl,rfl,zd _,fun c _=>?_⟩
   ·simp[PR,DC,i64]
   ·rw[H.Cf];grind
 ·rw[w8 hp]at a;cases a with
  |ff a=>
   obtain⟨rfl,rfl⟩:=a;refine⟨.tup [.bool false],h,F,ρ,.inl ?_,by simp[PR],hr,zk,rfl,rfl,zd _,(by simp)⟩;simp_all [Ov,Hz,w8,FT]
end
section
variable {B:Nat}{h0:H0}{F:Fz}{ρ:Ez}{N:Nat}{C:Ctx}{st st':AQ}{h:H}
def Ady:List PV->List Nat
 | .eptr id _ _ _::_=>[id]
 |_=>[]
theorem AbO(hr:SR B h0 F ρ st.nx st.ob h){ps:List PV}{e:List V}(c:BT F ρ st.nx ps e){v:PV}(a:(XZ ps st).To v st'):OK B h0 F ρ st h [] (BS h<|P3 e) v st':=by
 unfold XZ at a;split at a
 case h_2=>simp at a
 rename_i id sz off len;cases d:I3 (st.obj id)with
 |false=>simp_all
 |true=>
  rw[d]at a;simp only[we,Cr,w5]at a;obtain⟨g,rfl,rfl⟩:=a;obtain⟨o,ho⟩:=Yp d;obtain⟨b,n,z,g1,_⟩:=hr.at ho;obtain⟨x,_,rfl,c,rfl⟩:=c;simp only[PR]at c;obtain⟨_,_,o',_,rfl⟩:len<=len/\off+len<=n/\∃o,(o=0\/o=sz)/\x=.sl b (off*sz) len len o:=by
   grind
  refine zo hr (v':=.ptr b<|off*sz) ?_ ?_
  ·have:zl 0 len=true:=by simp_all
   simp only[P3,this,we];rfl
  grind [PR]
theorem tG{k:IntKind}:∀ {l:List Int} {cs:List V},DN F (.int k) l cs->cs=l.map (V.int k):=by
 intro l cs a;have d:cs.length=l.length:=by rw[a.1];simp[Sh.sz]
 apply List.ext_getElem
 ·grind
 ·intro i b g;have c:i<l.length:=ae
  have:=a.2 i c;have e:(cs.drop<|i*Sh.sz (.int k)).take (Sh.sz<|.int k)=[cs[i]]:=by
   rw[show Sh.sz (.int k)=1 from rfl,Nat.mul_one,zw b];rfl
  grind [DC]
theorem QR:∀ {l:List Int},S6 l=true->IF (l.map<|V.int .u8)=some (Up l)
 |[],_=>rfl
 |x::l,h=>by
  unfold S6 at h;rw[yd,ze,ze,w5,w5]at h;have a:=QR (l:=l) h.2;grind [Nat.blt_eq,TN,IF,Up]
theorem YI{l:List Int}(h:S6 l=true)(n:Nat):S6 (l.take n)=true:=by
 grind [S6]
theorem Aes(hr:SR B h0 F ρ st.nx st.ob h){ts:Array TypeId}{ps:List PV}{E:List V}(D:BT F ρ st.nx ps E){v:PV}(a:(mG C.T ts.toList ps st).To v st'):OK B h0 F ρ st h (Ady ps) (FT<|WZ C.T h ts.toList E) v st':=by
 unfold mG at a;split at a
 case h_2=>simp at a
 rename_i pt Z id sz i n w;split at a
 case h_2=>simp at a
 rename_i e u s l Y G;split at a
 case h_2=>simp at a
 rename_i W q hi r;cases L:(zf W.size 1&&zf e u)with
 |false=>simp_all
 |true=>
  rw[L]at a;simp only[we,Cr,ze,w5]at a;obtain⟨⟨⟨⟨⟨P,O⟩,k3⟩,k4⟩,U⟩,rfl,rfl⟩:=a;subst P;obtain⟨es,he⟩:=CR r;have K:s=.int .u8:=ah
  subst K;have:q=l:=ah
  subst this;obtain⟨m,rfl⟩:=Int.eq_ofNat_of_zero_le<|Int.le_of_lt O;obtain⟨b,n',z,h1,h2,⟨cs,fz,rfl,h3,h4,h5⟩,h6,_⟩:=hr.at G;have A:=h6 rfl;obtain⟨x,_,rfl,D,y,_,rfl,hy,rfl⟩:=D;obtain rfl:=CX hy;obtain rfl:=D.2 b n' h1;have R:=(hr.own id b n' h1).2;have t:b∉h0.pin:=fun hp=>(hr.pn b hp).2.2 id n' h1
  have d:∀j oj m,AR (Hl st.ob id) j=some oj->BC ρ id none j≠some (b,m):=by
   intro j oj m p o;rw[DO]at p;split at p
   ·cases p
   ·rename_i g;simp only[BC,g,vg]at o;exact g<|hr.inj j id oj _ b m n' p G o h1
  have k:=hr.del id;have S:=tG h3;have M:cs.take m=(q.take m).map (V.int .u8):=by simp_all
  have hb:=QR<|YI U m;have J:WZ C.T h ts.toList [.ptr b<|0*sz+0,.int .i64 (m:Int)]=some (.str<|Up<|q.take m,h.kill b):=by
   rw[z7];rw[w];show(match C.T.und pt,h.get b with
    |some (.pointer e),some (.cells cs u fz)=>(match C.T.inf e,IF (cs.take m)with
     |some i,some l=>bif zf i.size 1&&zf e u&&zl 0 m&&zi m cs.length&&zi m 9223372036854775807&&zi fz.2 fz.1 then some (V.str l,h.kill b)else none
     |_,_=>none)
    |_,_=>none)=_
   have c1:zl 0 m=true:=by simp_all
   have c2:zi m cs.length=true:=(by simp_all);have c3:zi m 9223372036854775807=true:=(by simp_all);have c4:zi fz.2 fz.1=true:=(by simp_all);grind
  rw[J];refine⟨_,_,F,BC ρ id none,.inl rfl,NC _,k.kill d A R t,Le.Kp id,rfl,rfl,zd _,fun c _=>?_⟩;rw[H.DZ];by_cases I:c=b
  ·exact .inr ⟨id,zc.2 rfl,n',I▸h1⟩
  grind
end
section
variable {B:Nat}{h0:H0}{C:Ctx}{F F1 F':Fz}{ρ:Ez}{N:Nat}{st st':AQ}{fr:Fr}{h h':H}
def PC(F:Fz)(p:PV)(v:V):Prop:=∀ρ N,PR F ρ N p v
def Lr(F:Fz)(ps:List PV)(vs:List V):Prop:=∀ρ N,BT F ρ N ps vs
theorem Le.eP(a:∀b cs,F b=some cs->F1 b=some cs):Le F ρ N F1 ρ N:=⟨a,(by simp),zd _⟩
theorem PC.mono(a:∀b cs,F b=some cs->F1 b=some cs){p:PV}{v:V}(hp:PC F p v):PC F1 p v:=fun ρ N=>(hp ρ N).mono<|Le.eP a
theorem Lr.cons{p:PV}{ps:List PV}{v:V}{vs:List V}(a:PC F p v)(b:Lr F ps vs):Lr F (p::ps) (v::vs):=fun ρ N=>(BY ..).2 ⟨a ρ N,b ρ N⟩
theorem Lr.dc{s:Sh}{ps:List PV}{vs:List V}{x:s.T}(hp:Lr F ps vs)(a:DM s ps=some x):DC F s x vs:=Dc (hp (fun _=>none) 0) a
theorem PC.Ce:∀ {s:Sh} {x:s.T} {cs:List V},DC F s x cs->(s.OP=true->PC F (Ce s x) (.agg cs))/\(s.OP=false->∀v,cs=[v]->PC F (Ce s x) v)
 | .pair a b,x,cs,h=>⟨fun _ ρ N=>by simp_all [yg,PR,Dj],fun e=>by cases e⟩
 | .unit,x,cs,h=>⟨fun _ ρ N=>by simp_all [DC,yg,PR],fun e=>by cases e⟩
 | .int _,x,cs,h=>(by grind [yg,PR,Sh.OP,PC])
 | .bool,x,cs,h=>(by grind [yg,PR,Sh.OP,PC])
 | .str,x,cs,h=>(by grind [yg,PR,Sh.OP,PC])
 | .list _,x,cs,h=>(by grind [yg,PR,Sh.OP,PC])
 | .nlist _,x,cs,h=>(by grind [yg,PR,Sh.OP,PC])
 | .fnv,x,cs,h=>⟨fun e=>(by cases e),fun _ v c ρ N=>by
   subst c;simp only[DC,zq,vf]at h;subst h;unfold yg;cases (x:Option Fn)<;>simp[PR]⟩
 | .ptr s,x,cs,h=>(by grind [DC,yg,PR,Sh.OP,PC])
theorem SR.AgB{ob a:Ob}(hr:SR B h0 F ρ N ob h)(c:∀j,AR a j=AR ob j):SR B h0 F ρ N a h:=
 ⟨fun id o g=>hr.obj id o<|c id▸g,fun id id' o o' b n n' d i=>hr.inj id id' o o' b n n' (c id▸d) ah,hr.frz,hr.own,fun id e=>hr.dead id ah,hr.old,hr.lt,hr.le,hr.fo,hr.gl,hr.pn⟩
theorem AeX{s:Sh}{l:List s.T}{cs:List V}{b:Nat}(g:F b=some cs)(d:DN F s l cs){off len:Nat}(e:off+len<=l.length){cap o:Nat}(c:len<=cap)(j:o=0\/o=s.sz):
  DC F (.list s) ((l.drop off).take len) [.sl b (off*s.sz) len cap o]:=by
 have a:((l.drop off).take len).length=len:=ah
 refine⟨_,rfl,.inr ⟨b,off*s.sz,cap,o,cs,by rw[a],by omega,g,?_,j,fun i k=>?_⟩⟩
 ·rw[a,d.1, <-yb];simp_all [zm]
 grind [DN]
theorem Mz(st:AQ)(p:PV):(BN st p).nx=st.nx/\(BN st p).fr=st.fr/\(BN st p).n=st.n:=by
 unfold BN;split
 ·split<;>exact⟨rfl,rfl,rfl⟩
 simp
theorem DJ:∀(ps:List PV) (st:AQ),(Bu ps st).nx=st.nx/\(Bu ps st).fr=st.fr/\(Bu ps st).n=st.n
 |[],_=>⟨rfl,rfl,rfl⟩
 |p::ps,st=>by
  obtain⟨a,b,c⟩:=DJ ps<|BN st p;grind [Mz,Bu]
theorem Ju:∀(ps a:List PV) (st:AQ),Bu (ps++a) st=Bu a (Bu ps st)
 |[],_,_=>rfl
 |p::ps,a,st=>Ju ps a<|BN st p
def Eo:Option Obj->Option Obj->Prop
 |some (.arr _ e s l),o=>∃fz,o=some (.arr fz e s l)
 |a,b=>b=a
theorem Eo.refl(o:Option Obj):Eo o o:=by
 cases o with
 |none=>rfl
 |some o=>cases o<;>first|rfl|exact⟨_,rfl⟩
theorem Oz(st:AQ)(p:PV)(j:Nat):Eo (st.obj j) ((BN st p).obj j):=by
 unfold BN;split
 case h_2=>exact Eo.refl _
 split
 case h_2=>exact Eo.refl _
 rename_i id _ _ _ _ _ fz e s l b;show Eo (AR st.ob j)<|AR (Ep st.ob id<|.arr true e s l) j;rw[H6 _ _ _ _<|by show(st.obj id).isSome=true;grind];split
 ·rename_i a;subst a;show Eo (st.obj j) _;rw[b];exact⟨_,rfl⟩
 ·exact Eo.refl _
theorem nA{st st':AQ}(h:∀id,Eo (st.obj id)<|st'.obj id)(p:PV):B4 st' p=B4 st p:=by
 cases p<;>try rfl
 case fn f a c=>cases a<;>cases c<;>rfl
 unfold B4;rename_i id sz off len cap;have:=h id;cases b:st.obj id with
 |none=>rw[b]at this;simp only[b,show st'.obj id=none from this]
 |some o=>
  rw[b]at this;cases o with
  |arr fz e s l=>
   obtain⟨fz',d⟩:=this;grind
  |box _=>simp only[b,show st'.obj id=_ from this]
  |tbox _ _=>simp only[b,show st'.obj id=_ from this]
  |map _ _ _=>simp only[b,show st'.obj id=_ from this]
  |siter _ _=>simp only[b,show st'.obj id=_ from this]
  |lp _ _ _ _ _ _ _ _=>simp only[b,show st'.obj id=_ from this]
theorem Nk{st st':AQ}(h:∀id,Eo (st.obj id)<|st'.obj id):∀ps:List PV,Dn st' ps=Dn st ps
 |[]=>rfl
 |p::ps=>by unfold Dn;rw[nA h p,Nk h ps]
theorem Eo.trans{a b c:Option Obj}(d:Eo a b)(g:Eo b c):Eo a c:=by
 cases a with
 |none=>have:b=none:=d;grind
 |some o=>
  cases o with
  |arr fz e s l=>obtain⟨fz',rfl⟩:=d;exact g
  |box _=>have:b=_:=d;grind
  |tbox _ _=>have:b=_:=d;grind
  |map _ _ _=>have:b=_:=d;grind
  |siter _ _=>have:b=_:=d;grind
  |lp _ _ _ _ _ _ _ _=>have:b=_:=d;grind
theorem N7:∀(ps:List PV) (st:AQ) (id:Nat),Eo (st.obj id)<|(Bu ps st).obj id
 |[],_,_=>Eo.refl _
 |p::ps,st,id=>(Oz st p id).trans<|N7 ps (BN st p) id
theorem V6{st st':AQ}(h:∀id,Eo (st.obj id)<|st'.obj id)(s:Sh)(p:PV):Ft st' s p=Ft st s p:=by
 grind [Ft,Nk]
theorem Ng{st st':AQ}(h:∀id,Eo (st.obj id)<|st'.obj id):∀(l:List Sh) (ps:List PV),Dq st' l ps=Dq st l ps
 |[],[]=>rfl
 |[],_::_=>rfl
 |[a],[p]=>V6 h a p
 |[a],[]=>rfl
 |[a],_::_::_=>rfl
 |a::b::l,[]=>rfl
 |a::b::l,p::ps=>by unfold Dq;rw[V6 h a p,Ng h (b::l) ps]
theorem Oh(hr:SR B h0 F ρ st.nx st.ob h){p:PV}{v:V}(hp:PR F ρ st.nx p v):
  ∃F1,SR B h0 F1 ρ (BN st p).nx (BN st p).ob h/\(∀b cs,F b=some cs->F1 b=some cs)/\∀x,B4 st p=some (true,x)->PC F1 x v:=by
 have same:∀ {q:PV},(∀x,B4 st q=some (true,x)->PC F x v)->BN st q=st->∃F1,SR B h0 F1 ρ (BN st q).nx (BN st q).ob h/\(∀b cs,F b=some cs->F1 b=some cs)/\∀x,B4 st q=some (true,x)->PC F1 x v:=
  fun D Z=>⟨F,by grind,fun _ _ h=>h,D⟩
 cases p with
 |sl id sz off len cap=>
  cases J:st.obj id with
  |none=>grind [B4,BN]
  |some o=>
   cases o with
   |box _=>grind [B4,BN]
   |tbox _ _=>grind [B4,BN]
   |map _ _ _=>grind [B4,BN]
   |siter _ _=>grind [B4,BN]
   |lp _ _ _ _ _ _ _ _=>grind [B4,BN]
   |arr fz e s l=>
    obtain⟨b,n,x,D,Z,⟨cs,fz',rfl,O,h5,h6⟩,h7,h8⟩:=hr.at J;have S:BN st (.sl id sz off len cap)=st.setObj id (.arr true e s l):=by simp[BN,J]
    have z:∀j,AR (Ep st.ob id<|.arr true e s l) j=if j=id then some (.arr true e s l)else AR st.ob j:=(by grind [H6,AQ.obj])
    have fin:∀ {G:Fz},G b=some cs->(∀b cs,F b=some cs->G b=some cs)->∀x,B4 st (.sl id sz off len cap)=some (true,x)->PC G x v:=by
     intro G hG P x r ρ' N';simp only[B4,J]at r;cases t:zf sz s.sz with
     |false=>grind
     |true=>
      rw[t]at r;simp only[we,zh,zn,w5]at r;obtain⟨A,rfl⟩:=r;have t:=zg t;subst t;unfold PR;rcases hp.2 b n D with⟨K,T,o,Y,rfl⟩|⟨rfl,rfl,Y,rfl|⟨I,rfl,k4⟩⟩
      ·exact AeX hG (O.mono P) A K Y
      ·simp[DC]
      ·simp only[List.take_zero,DC];refine⟨_,rfl,.inr ⟨b,I,0,0,cs,rfl,zd _,hG,?_,.inl rfl,(by simp)⟩⟩;simp only[List.length_nil,z7,Nat.add_zero];rw[O.1];exact zp k4 (by simp_all [zm])
    cases M:fz with
    |true=>
     subst M;obtain⟨cs',t',fz2,K,T⟩:=h8 rfl;refine⟨F,?_,fun _ _ h=>h,ah⟩;grind [SR.AgB,AQ.setObj,AQ.obj]
    |false=>
     have g:∀c cs',F c=some cs'->(fun c=>if c=b then some cs else F c) c=some cs':=by
      grind
     refine⟨fun c=>if c=b then some cs else F c,?_,g,ah⟩;rw[S];have A:Le F ρ st.nx (fun c=>if c=b then some cs else F c) ρ st.nx:=Le.eP g;have w:∀k ok,AR (Ep st.ob id<|.arr true e s l) k=some ok->∃o2,AR st.ob k=some o2:=by
      intro k ok hk;by_cases ek:k=id
      ·exact⟨_,ek▸J⟩
      grind
     refine⟨fun j oj d=>?_,fun i j oi oj c m m' hi d L W=>?_,fun c cs' E=>?_,hr.own,fun j d=>?_,hr.old,hr.lt,hr.le,fun c cs' E=>?_,hr.gl,hr.pn⟩
     ·have d:AR (Ep st.ob id<|.arr true e s l) j=some oj:=d;rw[z]at d;by_cases U:j=id
      ·subst U;simp only[wm,zh]at d;subst d;refine⟨b,n,_,D,Z,⟨cs,fz',rfl,O.mono g,h5,h6⟩,fun e=>(by cases e),(by simp)⟩
      ·rw[wc U]at d;obtain⟨c,m,y,L,W,g3,g4,g5⟩:=hr.obj j oj d;have hne:c≠b:=fun R=>U<|hr.inj j id oj _ c m n d J L<|R▸D
       exact⟨c,m,y,L,W,g3.mono A,ah,ah⟩
     ·obtain⟨_,K⟩:=w i oi hi;obtain⟨_,T⟩:=w j oj d;exact hr.inj i j _ _ c m m' K T L W
     ·split at E
      ·grind
      ·exact hr.frz c cs' E
     ·have d:AR (Ep st.ob id<|.arr true e s l) j=none:=d;rw[z]at d;split at d
      ·cases d
      ·exact hr.dead j d
     ·split at E
      ·rename_i R;subst R;exact .inr (hr.own id c n D).2
      ·exact hr.fo c cs' E
 |dat s x=>exact same (fun y u ρ' N'=>by simp only[B4,zh,zn,true_and]at u;grind [PR]) rfl
 |bl b=>exact same (fun y u ρ' N'=>by simp only[B4,zh,zn,true_and]at u;grind [PR]) rfl
 |nil=>exact same (fun y u ρ' N'=>by simp only[B4,zh,zn,true_and]at u;grind [PR]) rfl
 |A8 s x off=>exact same (fun y u ρ' N'=>by simp only[B4,zh,zn,true_and]at u;grind [PR]) rfl
 |any|ub|yl _|nilp|nilm|nilf|nili|agg _|tup _|ptr _ _|eptr _ _ _ _|mp _=>exact same (fun x r=>by simp[B4]at r) rfl
 |fn f a c=>cases a with
  |cons _ _=>exact same (fun x r=>by simp[B4]at r) rfl
  |nil=>cases c with
   |cons _ _=>exact same (fun x r=>by simp[B4]at r) rfl
   |nil=>exact same (fun y u ρ' N'=>by simp only[B4,zh,zn,true_and]at u;grind [PR,BT]) rfl
theorem JF:∀ {ps:List PV} {vs:List V} {st:AQ} {F:Fz},SR B h0 F ρ st.nx st.ob h->BT F ρ st.nx ps vs->
  ∃F1,SR B h0 F1 ρ (Bu ps st).nx (Bu ps st).ob h/\(∀b cs,F b=some cs->F1 b=some cs)/\∀g,Dn st ps=some (true,g)->Lr F1 g vs
 |[],vs,st,F,hr,hp=>⟨F,hr,fun _ _ h=>h,(by grind [Dn,Lr,BT])⟩
 |p::ps,vs,st,F,hr,hp=>by
  obtain⟨v,vs,rfl,i,m⟩:=hp;obtain⟨F1,g1,g2,g3⟩:=Oh hr i;have e:BT F1 ρ (BN st p).nx ps vs:=by rw[(Mz st p).1];exact m.mono<|Le.eP g2
  obtain⟨l,k,j,s⟩:=JF g1 e;refine⟨l,k,ah,fun g a=>?_⟩;unfold Dn at a;split at a
  case h_2=>cases a
  rename_i c x d o q r;simp only[zh,zn,ze]at a;obtain⟨⟨rfl,rfl⟩,rfl⟩:=a;exact Lr.cons ((g3 x q).mono j) (by grind [Nk,Oz])
theorem lZ(hr:SR B h0 F ρ st.nx st.ob h){t:TypeId}{n:Nat}{l:List (Nat×PV)}{l':List (Nat×V)}(G:PRn F ρ st.nx l l'){v:PV}(a:(Vc C.T t n l st).To v st'):OK B h0 F ρ st h [] (FT<|Fm C.T h t n l') v st':=by
 unfold Vc at a;split at a
 case h_2=>simp at a
 rename_i e D;split at a
 case h_2=>simp at a
 rename_i i s K Z;cases p:(zi (Nat.mul n i.size) 16777216&&zl 0 i.zero.length&&zf i.zero.length i.size&&zf i.size s.sz)with
 |false=>rw[p]at a;simp at a
 |true=>
  rw[p]at a;simp only[ze]at p;obtain⟨⟨⟨E,L⟩,q⟩,J⟩:=p;simp only[we]at a;split at a
  case h_2=>simp at a
  rename_i cs k;split at a
  case h_2=>
   split at a
   case h_2=>simp at a
   rename_i c cs' O;split at a
   case h_2=>simp at a
   rename_i el g;simp only[Cr]at a;obtain⟨rfl,rfl,rfl⟩:=a;have M:=zg q;have z:=zg J;have w:BT F ρ st.nx (QW (i.zero.map Yh) n) (F7 i.zero<|n*i.size):=by
    grind [Ix,Lx]
   obtain⟨j,m,A⟩:=Ku hr G w k;have b:j.length=n*s.sz:=by
    rw[<-z];rw[ND m];simp[F7]
   obtain⟨F1,S,Y,U⟩:=JF hr A;obtain⟨y,W⟩:=J0 (U cs' O ρ st.nx) g b;have r:Fm C.T h t n l'=some (.sl h.nx 0 n n 0,h.push<|.cells j e (0,0)):=by
    have d:zi (n*i.size) 16777216=true:=E;simp only[Fm,D,K,d,L,q,Bool.and_self,we,m,JI]
   rw[r];obtain⟨I,R,P⟩:=DJ cs st;have u:=OK.new (F:=F1) (ρ:=ρ) (st:=Bu cs st) S (o:=.arr false e s el) (x:=.cells j e (0,0)) (n:=n) (v:=.sl (Bu cs st).nx s.sz 0 n none) (v':=.sl h.nx 0 n n 0) rfl ⟨_,_,rfl,ae,zd _,y⟩ (PN<|.inl rfl);obtain⟨v',h',F',ρ',q1,q2,q3,q4,q5,q6,q7,q8⟩:=u;rw[I]at q2;exact⟨v',h',F',ρ',q1,q2,q3,(by rw[I]at q4;exact(Le.eP Y).trans q4),q5.trans R,q6.trans P,q7,q8⟩
  rename_i el g;obtain⟨rfl,rfl⟩:=a;have M:=zg q;have z:=zg J;have w:BT F ρ st.nx (QW (i.zero.map Yh) n) (F7 i.zero<|n*i.size):=by
   grind [Ix,Lx]
  obtain⟨j,m,A⟩:=Ku hr G w k;have b:j.length=n*s.sz:=by
   rw[<-z];rw[ND m];simp[F7]
  obtain⟨y,W⟩:=J0 A g b;have r:Fm C.T h t n l'=some (.sl h.nx 0 n n 0,h.push<|.cells j e (0,0)):=by
   have d:zi (n*i.size) 16777216=true:=E;simp only[Fm,D,K,d,L,q,Bool.and_self,we,m,JI]
  rw[r];exact OK.new hr (o:=.arr false e s el) (n:=n) rfl ⟨_,_,rfl,ae,zd _,y⟩ (PN<|.inl rfl)
end
section
variable {B:Nat}{h0:H0}{F:Fz}{ρ:Ez}{N:Nat}{C:Ctx}{st st':AQ}{fr:Fr}{h h':H}
theorem Et{x:Operand}{k:PV->PO}{v:PV}:(v1 st x k).To v st'↔∃p,RY st x=some p/\(k p).To v st':=by
 unfold v1;cases RY st x with
 |none=>simp
 |some p=>simp
theorem jZ(d:FP F ρ N st fr){x:Option Operand}{k:Option PV->PO}{v:PV}(a:(o1 st x k).To v st'):∃p y,XP C fr x=some y/\XN F ρ N p y/\(k p).To v st':=by
 cases x with
 |none=>exact⟨none,none,rfl,rfl,a⟩
 |some x=>
  obtain⟨p,b,c⟩:=Et.1 a;obtain⟨y,g1,g2⟩:=Cp (C:=C) d b;exact⟨some p,some y,by simp[XP,g1],⟨y,rfl,g2⟩,c⟩
theorem gM(hr:SR B h0 F ρ st.nx st.ob h){b:Builtin}{ts:Array TypeId}{ps:List PV}{d:List V}(c:BT F ρ st.nx ps d){v:PV}(a:(JZ C.T b ts ps st).To v st'):
  OK B h0 F ρ st h (match b with| .append| .clear=>Gk ps| .unsafeString=>Ady ps|_=>[]) (Fs C h b ts d) v st':=by
 unfold JZ at a;split at a
 case h_8=>simp at a
 case h_7=>exact Aes hr c a
 case h_6=>exact AbO hr c a
 case h_5=>exact Ab1 hr c a
 case h_1=>exact AgJ hr c a
 case h_2=>exact nO hr c a
 case h_3=>exact Agf (g:=qD) hr (by grind [qD,imax]) c a
 case h_4=>exact Agf (g:=AaC) hr (fun k x y=>by rfl) c a
theorem yY(hr:Rel B h0 F ρ st fr h){o:Oper}{v:PV}(e:(pop o.op C.T st).To v st'):
  ∃K,OK B h0 F ρ st h K (Hu C fr h o) v st'/\∀sp I,HO sp st o.op=some I->∀i∈K,i∈I:=by
 have nil:∀ {d:Option OR} {op:Op},OK B h0 F ρ st h [] d v st'->∃K,OK B h0 F ρ st h K d v st'/\∀sp I,HO sp st op=some I->∀i∈K,i∈I:=ah;have g:∀ {x p},RY st x=some p->∃y,ev C fr x=some y/\PR F ρ st.nx p y:=fun hp=>Cp hr.fp hp
 unfold pop at e;rw[Dg];unfold Hp;cases S:o.op<;>rw[S]at e<;>simp only[KN,NL]at e<;>simp only
 case move x|assign x=>
  simp only[Yc,Sq]at e;obtain⟨E,rfl⟩:=e;obtain⟨y,D,A⟩:=g E;refine nil ?_;rw[D];exact zo hr.sr rfl A
 case pick c a b=>
  simp only[lQ,Et]at e;obtain⟨p,E,q,J,r,U,e⟩:=e;obtain⟨x,D,A⟩:=g E;obtain⟨y,g3,g4⟩:=g J;obtain⟨z,g5,g6⟩:=g U;obtain⟨t,rfl,P⟩:=Aew hr.sr A g4 g6 e;grind
 case alloc t=>exact nil<|Aa7 hr.sr e
 case box t x=>
  simp only[AcE,Et]at e;obtain⟨p,E,e⟩:=e;obtain⟨y,D,A⟩:=g E;split at e
  case h_2=>simp at e
  rename_i cs V;cases Y:Det.LK (Mc st) cs with
  |false=>simp_all
  |true=>
  rw[Y]at e;simp only[we,Cu]at e;obtain⟨rfl,rfl⟩:=e;refine nil ?_;rw[D];exact Ahw hr.sr A V (by rw[<-Gb];exact Y)
 case build t ps=>
  simp only[Z1]at e;split at e
  case h_2=>simp at e
  rename_i l L;obtain⟨l',D,A⟩:=Q8 (C:=C) hr.fp L;refine nil ?_;rw[D];exact AbG hr.sr A e
 case buildSlice t n ps=>
  simp only[V3]at e;split at e
  case h_2=>simp at e
  rename_i l L;obtain⟨l',D,A⟩:=Q8 (C:=C) hr.fp L;refine nil ?_;rw[D];exact lZ hr.sr A e
 case load t x=>
  simp only[vJ,Et]at e;obtain⟨p,E,e⟩:=e;obtain⟨y,D,A⟩:=g E;refine nil ?_;rw[D];exact sE hr.sr A e
 case store t x y=>
  simp only[bK,Et]at e;obtain⟨p,E,q,J,e⟩:=e;obtain⟨a,D,A⟩:=g E;obtain⟨b,g3,g4⟩:=g J;obtain⟨id,hid,P⟩:=yO hr.sr A g4 e;refine⟨[id],by grind,fun sp I M=>?_⟩;simp only[HO,E]at M;grind
 case nilCheck x=>
  simp only[Qd,Et]at e;obtain⟨p,E,e⟩:=e;obtain⟨y,D,A⟩:=g E;rw[D];split at e
  case h_4=>simp at e
  case h_1=>
   rename_i id off;cases L:I3 (st.obj id)with
   |false=>simp_all
   |true=>
    rw[L]at e;simp only[we,Cu]at e;obtain⟨rfl,rfl⟩:=e;obtain⟨b,n,k1⟩:=hr.sr.live L;have G:=A;simp only[PR]at G;obtain rfl:=G.2 b n k1;exact nil<|zo hr.sr rfl A
  case h_2=>
   rename_i id sz j off;cases L:I3 (st.obj id)with
   |false=>simp_all
   |true=>
    rw[L]at e;simp only[we,Cu]at e;obtain⟨rfl,rfl⟩:=e;obtain⟨b,n,k1⟩:=hr.sr.live L;have G:=A;simp only[PR]at G;obtain rfl:=G.2 b n k1;exact nil<|zo hr.sr rfl A
  case h_3=>
   simp only[Cu]at e;obtain⟨rfl,rfl⟩:=e;have G:=A;simp only[PR]at G;obtain⟨b,o',cs,rfl,_⟩:=G;exact nil<|zo hr.sr rfl A
 case binOp op t x y t2=>
  simp only[AcF,Et]at e;obtain⟨p,E,q,J,e⟩:=e;obtain⟨a,D,A⟩:=g E;obtain⟨b,g3,g4⟩:=g J;refine nil ?_;rw[D,g3];split at e
  case h_2=>exact AfO hr.sr A g4 e
  rename_i r R;simp only[Cu]at e;obtain⟨rfl,rfl⟩:=e;unfold Acm at R;split at R
  case h_3=>cases R
  all_goals
   rename_i m Z;cases W:(aL x||aL y)with
   |false=>grind
   |true=>
    rw[W]at R;cases R;simp only[PR]at A g4;subst A g4;exact zo hr.sr (by simp only[K1,Aan,Z,W,we,BS])<|mO _
 case unOp op t x=>
  simp only[AgU,Et]at e;obtain⟨p,E,e⟩:=e;obtain⟨y,D,A⟩:=g E;refine nil ?_;rw[D];exact AiF hr.sr A e
 case convert s d x=>
  simp only[uD,Et]at e;obtain⟨p,E,e⟩:=e;obtain⟨y,D,A⟩:=g E;refine nil ?_;rw[D];exact Ae2 hr.sr A e
 case makeFunc f a b=>
  simp only[sP]at e;split at e
  case h_2=>simp at e
  rename_i x y hx hy;simp only[Cu]at e;obtain⟨rfl,rfl⟩:=e;obtain⟨u,D,A⟩:=Fx (C:=C) hr.fp hx;obtain⟨w,g3,g4⟩:=Fx (C:=C) hr.fp hy;refine nil ?_;rw[D,g3];exact zo hr.sr rfl (by unfold PR;grind)
 case makeMap t r=>
  simp only[aN]at e;split at e
  case h_2=>simp at e
  refine nil ?_;exact Abc hr.sr e
 case lookup t x i ok=>
  simp only[W6,Et]at e;obtain⟨p,E,q,J,e⟩:=e;obtain⟨a,D,A⟩:=g E;obtain⟨b,g3,g4⟩:=g J;refine nil ?_;rw[D,g3];exact sY hr.sr A g4 e
 case mapUpdate t m k x|insert t m k x=>
  simp only[P8,Et]at e;obtain⟨p,E,q,J,r,U,e⟩:=e;obtain⟨a,D,A⟩:=g E;obtain⟨b,g3,g4⟩:=g J;obtain⟨c,g5,g6⟩:=g U;obtain⟨id,rfl,P⟩:=oY hr.sr A g4 g6 e;grind [HO]
 case makeSlice t l c=>
  simp only[uP,Et]at e;obtain⟨p,E,q,J,e⟩:=e;obtain⟨a,D,A⟩:=g E;obtain⟨b,g3,g4⟩:=g J;refine nil ?_;rw[D,g3];exact Adj hr.sr A g4 e
 case slice t x lo hi mx=>
  simp only[dG,Et]at e;obtain⟨p,E,e⟩:=e;obtain⟨a,D,A⟩:=g E;obtain⟨l,l',k1,k2,e⟩:=jZ (C:=C) hr.fp e;obtain⟨m,m',k3,k4,e⟩:=jZ (C:=C) hr.fp e;obtain⟨n,n',k5,k6,e⟩:=jZ (C:=C) hr.fp e;refine nil ?_;rw[D,k1,k3,k5];exact Abg hr.sr A k2 k4 k6 e
 case fieldAddr t x f=>
  simp only[ZY,Et]at e;obtain⟨p,E,e⟩:=e;obtain⟨y,D,A⟩:=g E;refine nil ?_;rw[D];exact Aaw hr.sr A e
 case field t x f=>
  simp only[dH,Et]at e;obtain⟨p,E,e⟩:=e;obtain⟨y,D,A⟩:=g E;refine nil ?_;rw[D];exact yR hr.sr A e
 case indexAddr t x i=>
  simp only[bY,Et]at e;obtain⟨p,E,q,J,e⟩:=e;obtain⟨a,D,A⟩:=g E;obtain⟨b,g3,g4⟩:=g J;refine nil ?_;rw[D,g3];exact yU hr.sr A g4 e
 case index t x i=>
  simp only[cY,Et]at e;obtain⟨p,E,q,J,e⟩:=e;obtain⟨a,D,A⟩:=g E;obtain⟨b,g3,g4⟩:=g J;refine nil ?_;rw[D,g3];exact Aa6 hr.sr A g4 e
 case extract x i=>
  simp only[SZ,Et]at e;obtain⟨p,E,e⟩:=e;obtain⟨y,D,A⟩:=g E;refine nil ?_;rw[D];exact fV hr.sr A e
 case range t x=>
  simp only[bZ,Et]at e;obtain⟨p,E,e⟩:=e;obtain⟨y,D,A⟩:=g E;refine nil ?_;rw[D];exact xB hr.sr A e
 case next x i=>
  simp only[tN,Et]at e;obtain⟨p,E,e⟩:=e;obtain⟨y,D,A⟩:=g E;obtain⟨rfl,id,off,rfl,P⟩:=Ac5 hr.sr A e;grind [HO]
 case call c=>
  simp only[UY]at e;split at e
  case h_1=>simp at e
  rename_i args O;obtain⟨args',D,A⟩:=Fx (C:=C) hr.fp O;split at e
  case h_2=>simp at e
  case h_1=>
   rename_i b hb;split at e
   case h_1=>
    obtain⟨id,qs,rfl,P⟩:=rV hr.sr A e;refine⟨[id],by rw[hb,D];exact P,fun sp I M=>?_⟩;grind [HO]
   case h_2=>
   have:=gM hr.sr A e;grind [HO,Gk,Ady]
end
section
variable {B:Nat}{h0:H0}{F:Fz}{ρ:Ez}{N:Nat}{X:AL}{st st':AQ}{fr:Fr}{h h':H}{Q:PV->Ob->Prop}{n:Nat}
@[simp] theorem DI(st:AQ)(t:Nat)(p:PV)(s:Nat):(st.set t p).get s=if s=t then p else st.get s:=by
 unfold AQ.get AQ.set;grind [PM.DI]
theorem Rel.set(hr:Rel B h0 F ρ st fr h){t:Nat}{p:PV}{x:V}(hp:PR F ρ st.nx p x):Rel B h0 F ρ (st.set t p) ⟨fr.n,fr.m.set t<|some x⟩ h:=by
 refine⟨⟨hr.fp.n,fun s=>?_⟩,hr.sr⟩;rw[DI];unfold Fr.get;simp only[PM.DI];split
 ·exact hp
 ·exact hr.fp.slot s
theorem Rel.note(hr:Rel B h0 F ρ st fr h){t:Nat}{p:PV}(hp:PR F ρ st.nx p (fr.get t)):Rel B h0 F ρ (st.set t p) fr h:=by
 refine⟨⟨hr.fp.n,fun s=>?_⟩,hr.sr⟩;rw[DI];split
 ·rename_i e;subst e;exact hp
 ·exact hr.fp.slot s
theorem Rel.put(hr:Rel B h0 F ρ st fr h){d:Option Nat}{p:PV}{x:V}(hp:PR F ρ st.nx p x)(a:st.put d p=some st'):∃fr',fr.put d x=some fr'/\Rel B h0 F ρ st' fr' h/\st'.nx=st.nx/\st'.ob=st.ob:=by
 unfold AQ.put at a;unfold Fr.put;cases d with
 |none=>grind
 |some t=>
  simp only at a ⊢;have c:st.n=fr.n:=hr.fp.n;rw[c]at a;cases b:zl t fr.n with
  |false=>grind
  |true=>
   rw[b]at a;simp only[we,zh]at a;subst a;exact⟨_,rfl,hr.set hp,rfl,rfl⟩
structure DB(B:Nat)(h0:H0)(F:Fz)(ρ:Ez)(N:Nat)(h:H)(st':AQ)(fr':Fr)(h':H)(F':Fz)(ρ':Ez):Prop where
 rel:Rel B h0 F' ρ' st' fr' h'
 le:Le F ρ N F' ρ' st'.nx
 nx:h.nx<=h'.nx
theorem DB.refl(hr:Rel B h0 F ρ st fr h):DB B h0 F ρ st.nx h st fr h F ρ:=⟨hr,zk,zd _⟩
theorem DB.trans{F' i:Fz}{ρ' d:Ez}{c:AQ}{fr' e:Fr}{g:H}(a:DB B h0 F ρ N h st' fr' h' F' ρ')(b:DB B h0 F' ρ' st'.nx h' c e g i d):DB B h0 F ρ N h c e g i d:=
 ⟨b.rel,a.le.trans b.le,zp a.nx b.nx⟩
def AfC(X:AL)(ρ:Ez)(h:H)(args':List V):Cal->Cl->Prop
 | .fn g,c=>c=.fn g args'/\X.C.prim g=none/\∃i,X.C.fn g=some i
 | .rnd id,c=>∃b n ls,ρ id=some (b,n)/\h.get b=some (.loop ls)/\args'.length=ls.ps.size/\c=.rnd b ls (HU ls.ps.toList args' ls.fr)
inductive Od (X:AL) (ρ:Ez) (h:H) (args':List V):Cal->List (V×H)->Prop where
 |Bh {g:Cal} {c:Cl} {l:List (V×H)} {M:Nat}:AfC X ρ h args' g c->(∀m,M<=m->Det.Bh X.C m c h=some l)->Od X ρ h args' g l
 |prim {g:FuncId} {q:List V->H->Option (V×H)} {x:V×H}:X.C.prim g=some q->q args' h=some x->Od X ρ h args' (.fn g) [x]
def FY(B:Nat)(h0:H0)(X:AL)(nd:Bool)(call:GN):Prop:=
 ∀ {Q:PV->Ob->Prop} {n:Nat} {g:Cal} {args:List PV} {st:AQ} {k:PV->AQ->Tr},Ev X Q n (call g args st k)->∀ {F:Fz} {ρ:Ez} {fr:Fr} {h:H} {args':List V},Rel B h0 F ρ st fr h->BT F ρ st.nx args args'->
  ∃l,Od X ρ h args' g l/\(nd=false->∃x,l=[x])/\
   ∀x∈l,∃n',n'<=n/\∃r st',Ev X Q n' (k r st')/\∃F' ρ',PR F' ρ' st'.nx r x.1/\DB B h0 F ρ st.nx h st' fr x.2 F' ρ'/\(∀a,g=.fn a->∀sp,X.sp a=some sp->∀b,b<h.nx->x.2.get b=h.get b)
theorem Ev.Fe{c:Bool}{a b:Tr}(d:Ev X Q n (.ite c a b)):(c=true/\Ev X Q n a)\/(c=false/\Ev X Q n b):=by
 cases d with
 |ite e g=>
  grind
theorem Ev.WJ{a b:Tr}(c:Ev X Q n (.both a b)):Ev X Q n a/\Ev X Q n b:=by
 cases c with
 |both d e=>grind
theorem Ev.AG:¬Ev X Q n .fail:=fun h=>by cases h
theorem Ev.ZM{v:PV}{ob:Ob}(a:Ev X Q n (.leaf v ob)):Q v ob:=by
 cases a with
 |leaf h=>exact h
theorem Oq(hr:Rel B h0 F ρ st fr h){ops:Array Oper}{o:Oper}{yes no:AQ->Tr}(a:Ev X Q n (guarded ops o st yes no)):
  ∃g,Rel B h0 F ρ g fr h/\g.nx=st.nx/\g.ob=st.ob/\((Bi fr ops o=true/\Ev X Q n (yes g))\/(Bi fr ops o=false/\Ev X Q n (no g))):=by
 unfold guarded at a;unfold Bi;cases s:o.guard with
 |none=>grind
 |some r=>
  obtain⟨j,i⟩:=r;rw[s]at a;simp only at a ⊢;cases u:(ops[j]?).bind (·.dst)with
  |none=>grind [Ev.AG]
  |some t=>
   rw[u]at a;simp only at a ⊢;rw[show st.n=fr.n from hr.fp.n]at a;cases m:zl t fr.n with
   |false=>grind [Ev.AG]
   |true=>
    rw[m]at a;have k:=hr.fp.slot t;split at a
    case h_1=>
     rename_i b d;rw[d]at k;rw[Rw k];grind
    case h_2=>
     rename_i b d;rw[d]at k;have p:=MO k;have note:∀c:Bool,b=c->Rel B h0 F ρ (st.set t<|.bl c) fr h:=by
      rintro c rfl;exact hr.note (by rw[p];rfl)
     cases i with
     |true=>
      rcases a.Fe with⟨e,a⟩|⟨e,a⟩
      ·exact⟨_,note true e,rfl,rfl,ah⟩
      ·exact⟨_,note false e,rfl,rfl,ah⟩
     |false=>
      rcases a.Fe with⟨e,a⟩|⟨e,a⟩
      ·exact⟨_,note true e,rfl,rfl,ah⟩
      ·exact⟨_,note false e,rfl,rfl,ah⟩
    case h_5=>grind [Ev.AG]
    case h_4=>
     rename_i d;rw[d]at k;obtain⟨b,p⟩:=k;have note:∀c:Bool,b=c->Rel B h0 F ρ (st.set t<|.bl c) fr h:=by
      rintro c rfl;exact hr.note (by rw[p];rfl)
     obtain⟨v,q⟩:=a.WJ;cases b with
     |true=>
      cases i with
      |true=>exact⟨_,note true rfl,rfl,rfl,ah⟩
      |false=>exact⟨_,note true rfl,rfl,rfl,ah⟩
     |false=>
      cases i with
      |true=>exact⟨_,note false rfl,rfl,rfl,ah⟩
      |false=>exact⟨_,note false rfl,rfl,rfl,ah⟩
    case h_3=>
     rename_i l d;rw[d]at k;simp only[PR]at k;grind
theorem J2{d:Option Nat}{k:AQ->Tr}:∀ {m:PO},Ev X Q n (S9 d k m)->∃u s i,m.To u s/\s.put d u=some i/\Ev X Q n (k i)
 | .bad,g=>wh g Ev.AG
 | .val u s,g=>by
  simp only[S9]at g;split at g
  ·rename_i s1 o;exact⟨u,s,s1,.val,o,g⟩
  grind [Ev.AG]
 | .ite c a b,g=>by
  rcases g.Fe with⟨rfl,e⟩|⟨rfl,e⟩
  ·obtain⟨u,s,s1,j,l⟩:=J2 e;exact⟨u,s,s1,.tt j,l⟩
  ·obtain⟨u,s,s1,j,l⟩:=J2 e;exact⟨u,s,s1,.ff j,l⟩
inductive Did (X:AL) (fr:Fr) (h:H) (o:Oper):List (V×H)->Prop where
 |val {x:V} {h':H}:Hu X.C fr h o=some (.val x h')->Did X fr h o [(x,h')]
 |skip {h':H}:Hu X.C fr h o=some (.skip h')->Did X fr h o [(.tup [],h')]
 |alts {l:List (V×H)}:Hu X.C fr h o=some (.alts l)->Did X fr h o l
 |call {g:FuncId} {args:List V} {l:List (V×H)} {M:Nat}:Hu X.C fr h o=some (.enter g args)->(∀m,M<=m->Bh X.C m (.fn g args) h=some l)->Did X fr h o l
 |round {b:Nat} {ls:LS} {f:Fr} {l:List (V×H)} {M:Nat}:Hu X.C fr h o=some (.round b ls f)->(∀m,M<=m->Bh X.C m (.rnd b ls f) h=some l)->Did X fr h o l
theorem H7{nd:Bool}{call:GN}(w:FY B h0 X nd call)(hr:Rel B h0 F ρ st fr h){o:Oper}{k:AQ->Tr}(K:Ev X Q n (IA X.C.T call o st k)):
  ∃l,Did X fr h o l/\((nd=false->(∃x,l=[x])/\∀l',Hu X.C fr h o≠some (.alts l'))/\((∀id a,Nb st o.op≠ .yes (.rnd id) a)->∀b ls f,Hu X.C fr h o≠some (.round b ls f)))/\∀x∈l,∃n',n'<=n/\∃d,Ev X Q n' (k d)/\∃F' ρ' fr',fr.put o.dst x.1=some fr'/\DB B h0 F ρ st.nx h d fr' x.2 F' ρ'/\
   ∀z,HO X.sp st o.op=some z->∀b,b<h.nx->x.2.get b=h.get b\/∃id∈z,∃m,ρ id=some (b,m):=by
 unfold IA at K;split at K
 case h_2=>grind [Ev.AG]
 case h_1=>
  rename_i g args p;unfold Nb at p;split at p
  case h_2=>cases p
  rename_i c S;split at p
  case h_2=>cases p
  rename_i f J;split at p
  case h_3=>cases p
  case h_2=>
   rename_i id ps R D;cases p;obtain⟨fv,f1,P⟩:=Cp (C:=X.C) hr.fp R;obtain⟨av,a1,a2⟩:=Fx (C:=X.C) hr.fp D;simp only[PR]at P;obtain⟨l,hcd,hnd,hall⟩:=w K hr a2;obtain⟨hcd1,W⟩:=hcd;obtain⟨b,m,ls,c1,c2,c3,rfl⟩:=hcd1;have e:Hu X.C fr h o=some (.round b ls<|HU ls.ps.toList av ls.fr):=by
    simp_all [Dg,Hp,IT]
   refine⟨l,.round e W,⟨ah,fun hno=>?_⟩,fun x I=>?_⟩
   ·grind [Nb]
   obtain⟨n',Y,r,st',y,F',ρ',hp,G,V⟩:=hall x I;split at y
   case h_2=>grind [Ev.AG]
   rename_i d j;obtain⟨fr',A,O,L,Z⟩:=G.rel.put hp j;refine⟨n',Y,d,y,F',ρ',fr',A,⟨O,by rw[L];exact G.le,G.nx⟩,fun z v b hb=>?_⟩;grind [HO]
  rename_i g' first cap ps R D
  cases p;obtain⟨fv,f1,P⟩:=Cp (C:=X.C) hr.fp R;obtain⟨av,a1,a2⟩:=Fx (C:=X.C) hr.fp D;simp only[PR]at P;obtain⟨fa,fb,rfl,f3,f4⟩:=P;have E:BT F ρ st.nx (first++ps++cap) (fa++av++fb):=(f3.append a2).append f4;obtain⟨l,hcd,hnd,hall⟩:=w K hr E;have M:Did X fr h o l/\(∀l',Hu X.C fr h o≠some (.alts l'))/\∀b ls f,Hu X.C fr h o≠some (.round b ls f):=by
   cases hcd with
   |Bh p W=>
    obtain⟨rfl,hprim,i,hfn⟩:=p;have e:Hu X.C fr h o=some (.enter g'<|fa++av++fb):=by
     simp_all [Dg,Hp,IT]
    exact⟨.call e W,ah,ah⟩
   |prim hq I=>
    rename_i q x;have e:Hu X.C fr h o=some (.val x.1 x.2):=by
     grind [Dg,Hp,IT,FT]
    exact⟨.val e,ah,ah⟩
  refine⟨l,M.1,ah,fun x I=>?_⟩;obtain⟨n',Y,r,st',y,F',ρ',hp,G,V⟩:=hall x I;split at y
  case h_2=>grind [Ev.AG]
  rename_i d j;obtain⟨fr',A,O,L,Z⟩:=G.rel.put hp j;refine⟨n',Y,d,y,F',ρ',fr',A,⟨O,by rw[L];exact G.le,G.nx⟩,fun z v b hb=>?_⟩;simp only[S,HO,J,R]at v;grind
 case h_3=>
  obtain⟨u,s,d,h1,h2,h3⟩:=J2 K;obtain⟨tch,⟨v',h',F',ρ',A,O,L,Z,g5,g6,g7,g8⟩,htch⟩:=yY (C:=X.C) hr h1;have U:Rel B h0 F' ρ' s fr h':=⟨⟨by rw[g6];exact hr.fp.n,fun t=>by
   have:s.get t=st.get t:=by unfold AQ.get;rw[g5]
   rw[this];exact(hr.fp.slot t).mono Z⟩,L⟩
  obtain⟨fr',k1,k2,k3,k4⟩:=U.put O h2;refine⟨[(v',h')],?_,ah,fun x I=>?_⟩
  ·rcases A with A|⟨A,rfl⟩
   ·exact .val A
   ·exact .skip A
  ·cases zc.1 I;refine⟨n,zd _,d,h3,F',ρ',fr',k1,⟨k2,by grind,g7⟩,fun z v b hb=>?_⟩;grind
theorem Aeu{α a:Type}{f:α->Option (List a)}{x:α}:bl [x] f=f x:=by
 grind [bl]
theorem Kr{α d:Type}{f:Nat->Nat->α->Option (List d)}{P:d->Prop}{nd:Bool}{l:List α}(c:nd=false->∃x,l=[x])(h:∀a∈l,∃r M,(∀m,M<=m->∀q,M<=q->f m q a=some r)/\(nd=false->∃x,r=[x])/\∀y∈r,P y):
  ∃r M,(∀m,M<=m->∀q,M<=q->bl l (f m q)=some r)/\(nd=false->∃x,r=[x])/\∀y∈r,P y:=by
 cases nd with
 |false=>
  obtain⟨x,rfl⟩:=c rfl;simp_all [Aeu]
 |true=>
  clear c;suffices hs:∃r M,(∀m,M<=m->∀q,M<=q->bl l (f m q)=some r)/\∀y∈r,P y by
   simp_all
  induction l with
  |nil=>exact⟨[],0,fun _ _ _ _=>rfl,(by simp)⟩
  |cons a l e=>
   obtain⟨r,M,i,_,g⟩:=h a (by simp);obtain⟨r2,M2,h3,h4⟩:=e (by simp_all);cases l with
   |nil=>exact⟨r,M,(by grind [bl]),g⟩
   |cons b l=>
    refine⟨r++r2,max M M2,fun m o q j=>?_,fun y k=>?_⟩
    ·grind [bl]
    grind
theorem P0{d:Option Nat}{P:Fr×H->Prop}:∀ {l:List (V×H)},(∀x∈l,∃fr',fr.put d x.1=some fr'/\P (fr',x.2))->∃r,ID fr d l=some r/\(∀y∈r,P y)/\((∃x,l=[x])->∃y,r=[y])
 |[],_=>⟨[],rfl,(by simp),(by simp)⟩
 |x::l,h=>by
  obtain⟨fr',c,e⟩:=h x (by simp);obtain⟨r,h3,h4,_⟩:=P0 (l:=l) (fun y a=>h y ah);refine⟨(fr',x.2)::r,?_,fun y a=>?_,fun⟨z,b⟩=>?_⟩
  ·grind [ID]
  ·grind
  ·cases b;cases h3;simp
theorem Did.AiG{l:List (V×H)}{o:Oper}{ops:Array Oper}(a:Did X fr h o l)(k:Bi fr ops o=true){P:Fr×H->Prop}(hp:∀x∈l,∃fr',fr.put o.dst x.1=some fr'/\P (fr',x.2)):
  ∃r M,(∀m,M<=m->step1 X.C (Bh X.C m) ops o fr h=some r)/\((∃x,l=[x])->∃y,r=[y])/\∀y∈r,P y:=by
 obtain⟨r,p,c,d⟩:=P0 hp;cases a with
 |@val x h' a=>
  obtain⟨fr',i,e⟩:=hp _<|zc.2 rfl;exact⟨[(fr',h')],0,(by simp_all [step1,JM]),(by simp),ah⟩
 |@skip h' a=>
  obtain⟨fr',i,e⟩:=hp _<|zc.2 rfl;exact⟨[(fr',h')],0,(by simp_all [step1,JM]),(by simp),ah⟩
 |alts a=>exact⟨r,0,(by simp_all [step1,JM]),d,c⟩
 |@call g args l M a j=>exact⟨r,M,(by simp_all [step1,JM]),d,c⟩
 |@round b ls f l M a j=>exact⟨r,M,(by simp_all [step1,JM]),d,c⟩
theorem eG{T:Cj}{h:H}{s d:TypeId}{b off:Nat}:GI T h s d (.ptr b off)=none:=by
 simp_all [GI]
theorem nF(hr:Rel B h0 F ρ st fr h){o:Oper}{v:PV}(a:Ae6 X.C.T st o.op=some v):OK B h0 F ρ st h [] (JM X.C fr h o) v st:=by
 have fin:∀ {s d:TypeId} {x:Operand} {b off:Nat} {u:V},o.op=.convert s d x->ev X.C fr x=some (.ptr b off)->A8 X.C.T h s d (.ptr b off)=some u->PR F ρ st.nx v u->OK B h0 F ρ st h [] (JM X.C fr h o) v st:=by
  intro s d x b off u c k g A;have q:Hu X.C fr h o=none:=by
   rw[Dg];unfold Hp;rw[c];simp only[k,eG];rfl
  refine zo hr.sr (v':=u) ?_ A;grind [JM]
 unfold Ae6 at a;split at a
 case h_2=>cases a
 rename_i s d x c;split at a
 case h_3=>cases a
 case h_1=>
  rename_i t id off w r p;split at a
  case h_2=>cases a
  rename_i i tb cs D m;cases j:(zl 0 i.size&&zl off (Det.Ge cs))with
  |false=>grind
  |true=>
   rw[j]at a;cases a;obtain⟨y,k,g⟩:=Cp (C:=X.C) hr.fp p;obtain⟨b,n,z,k1,k2,⟨bs,fz,rfl,k4,_⟩,_⟩:=hr.sr.at m;have l:=g;obtain rfl:=l.2 b n k1;refine fin c k ?_ g;unfold A8;rw[D7,k4.len]at j;grind
 case h_2=>
  rename_i u id off w r p;split at a
  case h_2=>cases a
  rename_i i e cs D m;cases j:(zl 0 i.size&&zi i.size (Det.Ge cs)&&zf e u&&zf off 0)with
  |false=>grind
  |true=>
   rw[j]at a;cases a;obtain⟨y,k,g⟩:=Cp (C:=X.C) hr.fp p;obtain⟨b,n,z,k1,k2,⟨bs,fz,rfl,k4,_⟩,_⟩:=hr.sr.at m;have l:=g;obtain rfl:=l.2 b n k1;have h0:off=0:=by
    simp_all
   subst h0;refine fin c k (u:=.ptr b 0) ?_ g;unfold A8;rw[D7,k4.len]at j;grind
theorem Xk(hr:Rel B h0 F ρ st fr h){o:Oper}{v:PV}{c:AQ}(a:TH X.C.T st o.op=some (v,c)):OK B h0 F ρ st h [] (JM X.C fr h o) v c:=by
 unfold TH at a;split at a
 case h_2=>cases a
 rename_i s d x g;split at a
 case h_2=>cases a
 rename_i e l q m i;split at a
 case h_2=>cases a
 cases a;obtain⟨y,p,t⟩:=Cp (C:=X.C) hr.fp i;obtain rfl:=FU t;have k:Hu X.C fr h o=none:=by
  rw[Dg];unfold Hp;rw[g];simp only[p,GI,q,m];rfl
 have i:JM X.C fr h o=FT (some (.sl h.nx 0 l.length l.length 1,h.push<|.cells (l.map fun b=>.int .u8<|.ofNat b.toNat) e (0,0))):=by
  simp_all [A8,JM,Uw]
 rw[i];refine OK.new hr.sr (o:=.arr false e (.int .u8)<|l.map fun b=>(b.toNat:Int)) (n:=l.length) rfl ⟨l.map fun b=>V.int .u8<|.ofNat b.toNat,(0,0),rfl,⟨by simp[Sh.sz],fun j u=>?_⟩,zd _,by simp⟩ ?_
 ·have r:j<l.length:=ah
  have w:((l.map fun b=>V.int .u8<|.ofNat b.toNat).drop<|j*1).take 1=[V.int .u8<|.ofNat (l[j]).toNat]:=by
   simp_all [zw]
  grind [DC,Sh.sz]
 simp_all [PR,BC]
theorem X2(hr:Rel B h0 F ρ st fr h){o:Oper}{v:PV}{a:AQ}(b:Yw X.C.T st o.op=some (v,a)):OK B h0 F ρ st h [] (JM X.C fr h o) v a:=by
 grind [Yw,Xk,nF]
theorem XM{nd:Bool}{call:GN}(i:FY B h0 X nd call){ops:Array Oper}:∀ {l:List Oper} {n:Nat} {st:AQ} {F:Fz} {ρ:Ez} {fr:Fr} {h:H} {k:AQ->Tr},Rel B h0 F ρ st fr h->Ev X Q n (prun X.C.T call ops l st k)->
  ∃r M,(∀m,M<=m->U3 X.C (Bh X.C m) ops l fr h=some r)/\(nd=false->∃x,r=[x])/\∀x∈r,∃n',n'<=n/\∃a,Ev X Q n' (k a)/\∃F' ρ',DB B h0 F ρ st.nx h a x.1 x.2 F' ρ'
 |[],n,st,F,ρ,fr,h,k,hr,c=>⟨[(fr,h)],0,fun _ _=>rfl,(by simp),fun x hx=>by cases zc.1 hx;exact⟨n,zd _,st,c,F,ρ,DB.refl hr⟩⟩
 |o::d,n,st,F,ρ,fr,h,k,hr,c=>by
  unfold prun at c;obtain⟨a,g,e1,e2,q⟩:=Oq hr c;have fin:∀ {l:List (Fr×H)},(∃M,∀m,M<=m->step1 X.C (Bh X.C m) ops o fr h=some l)->(nd=false->∃x,l=[x])->
    (∀y∈l,∃n',n'<=n/\∃b,Ev X Q n' (prun X.C.T call ops d b k)/\∃F' ρ',DB B h0 F ρ st.nx h b y.1 y.2 F' ρ')->
    ∃r M,(∀m,M<=m->U3 X.C (Bh X.C m) ops (o::d) fr h=some r)/\(nd=false->∃x,r=[x])/\∀x∈r,∃n',n'<=n/\∃a,Ev X Q n' (k a)/\∃F' ρ',DB B h0 F ρ st.nx h a x.1 x.2 F' ρ':=by
   rintro l ⟨M1,R⟩ w hl;obtain⟨r,M,K,G,J⟩:=Kr (f:=fun m _ (x:Fr×H)=>U3 X.C (Bh X.C m) ops d x.1 x.2) (P:=fun x=>∃n',n'<=n/\∃a,Ev X Q n' (k a)/\∃F' ρ',DB B h0 F ρ st.nx h a x.1 x.2 F' ρ') w fun y E=>by
    obtain⟨n1,hn1,b,S,F1,ρ1,j⟩:=hl y E;obtain⟨r,M,K,J,G⟩:=XM i j.rel S;refine⟨r,M,ah,J,fun z hz=>?_⟩;obtain⟨n2,hn2,st3,he3,F2,ρ2,hwent2⟩:=G z hz;exact⟨n2,ae,st3,he3,F2,ρ2,j.trans hwent2⟩
   refine⟨r,max M M1,fun m hm=>?_,G,J⟩;simp only[U3,R m ae];exact K m ae m ae
  rcases q with⟨D,c⟩|⟨D,c⟩
  ·unfold Ac3 at c;split at c
   case h_1=>
    rename_i v p hb;split at c
    case h_2=>grind [Ev.AG]
    rename_i b e;obtain⟨v',h',F',ρ',s,L,U,Y,g5,g6,g7,g8⟩:=X2 g hb;have O:Rel B h0 F' ρ' p fr h':=⟨⟨by rw[g6];exact g.fp.n,fun t=>by
     have:p.get t=a.get t:=by unfold AQ.get;rw[g5]
     rw[this];exact(g.fp.slot t).mono Y⟩,U⟩
    have W:∃u,PR F' ρ' p.nx v u/\∀fr',fr.put o.dst u=some fr'->∀m,step1 X.C (Bh X.C m) ops o fr h=some [(fr',h')]:=by
     rcases s with s|⟨s,rfl⟩
     ·exact⟨v',L,fun fr' I m=>by simp only[step1,D,we,s,I]⟩
     ·exact⟨.tup [],L,fun fr' I m=>by simp only[step1,D,we,s,I]⟩
    obtain⟨u,hu,Em⟩:=W;obtain⟨fr',I,k2,k3,k4⟩:=O.put hu e;refine fin (l:=[(fr',h')]) ⟨0,ah⟩ (by simp) fun y E=>?_
    cases zc.1 E;exact⟨n,zd _,b,c,F',ρ',k2,by grind,g7⟩
   obtain⟨l,A,hnd,Z⟩:=H7 i g c;obtain⟨r,M,K,J,G⟩:=A.AiG (ops:=ops) (P:=fun y=>∃n',n'<=n/\∃b,Ev X Q n' (prun X.C.T call ops d b k)/\∃F' ρ',DB B h0 F ρ st.nx h b y.1 y.2 F' ρ') D ah;exact fin ⟨M,K⟩ ah G
  ·unfold Nv at c;split at c
   case h_2=>grind [Ev.AG]
   rename_i b e;obtain⟨V,s,L,U,Y⟩:=g.put (x:=.tup []) (by simp[PR]) e;refine fin (l:=[(V,h)]) ⟨0,fun m _=>by simp only[step1,D,wg,s]⟩ (by simp) fun y E=>?_
   cases zc.1 E;exact⟨n,zd _,b,c,F,ρ,L,by rw[U,e1];exact zk,zd _⟩
mutual
theorem Nl:∀v:V,ye v v=true
 | .bool b=>by simp[ye]
 | .int k n=>by simp[ye]
 | .str s=>by simp[ye]
 | .nilp=>rfl
 | .ptr a i=>by simp[ye]
 | .nils=>rfl
 | .sl a b c d e=>by simp[ye]
 | .esl=>rfl
 | .es0=>rfl
 | .junk=>rfl
 | .nilm=>rfl
 | .map a=>by simp[ye]
 | .yld a=>by simp[ye]
 | .nilf=>rfl
 | .nili=>rfl
 | .fn f a b=>by simp only[ye,GD a,GD b,zy,wk]
 | .iface t x=>by simp only[ye,Nl x,zy];simp
 | .agg a=>by exact GD a
 | .tup a=>by exact GD a
theorem GD:∀vs:List V,V.MD vs vs=true
 |[]=>rfl
 |v::vs=>by simp only[V.MD,Nl v,GD vs,zy]
end
theorem qE{T:Cj}{t:TypeId}{a x:V}(c:FH T h t a=some x):∃b off o,a=.ptr b off/\h.get b=some o/\(∀g:H,g.get b=h.get b->FH T g t a=some x)/\
  ∀(g:H) cs t1 e t2 j,h.get b=some (.cells cs t1 e)->g.get b=some (.cells cs t2 j)->FH T g t a=some x:=by
 unfold FH at c;split at c
 case h_2=>cases c
 rename_i b off d i s p;have l:∃o,h.get b=some o:=by
  cases k:h.get b with
  |some o=>simp
  |none=>
   grind [rd]
 obtain⟨o,m⟩:=l;refine⟨b,off,o,rfl,m,fun g k=>?_,fun g cs t1 e t2 j q r=>?_⟩
 ·simp_all [FH,rd]
 ·unfold FH;grind [rd]
def TD(C:Ctx)(F:Fz)(bl:List Nat)(h:H)(fr:Fr)(o:Oper)(x:V):Prop:=
 ∀g:H,(∀b cs,F b=some cs->∃t fz,g.get b=some (.cells cs t fz))->(∀b∈bl,g.get b=h.get b)->∃z,Hu C fr g o=some (.val x z)
theorem ZB:∀ {s:Sh} {x:s.T} {cs:List V} {b:Nat},DC F s x cs->V.map b∉cs
 | .int _,_,_,_,h,hm=>by grind [DC]
 | .bool,_,_,_,h,hm=>by grind [DC]
 | .str,_,_,_,h,hm=>by grind [DC]
 | .list s,l,_,_,h,hm=>by
  simp only[DC]at h;grind
 | .pair a b,x,_,_,h,hm=>by
  obtain⟨c,d,rfl,e,g⟩:=h;rcases List.mem_append.1 hm with hm|hm
  ·exact ZB e hm
  ·exact ZB g hm
 | .unit,_,_,_,h,hm=>by grind [DC]
 | .fnv,x,_,_,h,hm=>by simp only[DC]at h;grind
 | .ptr _,x,_,_,h,hm=>by simp only[DC]at h;grind
 | .nlist s,l,_,_,h,hm=>by
  simp only[DC]at h;grind
theorem Yg{s:Sh}{x:s.T}{b:Nat}(hp:PR F ρ N (.dat s x) (.map b)):False:=by
 exact ZB hp<|zc.2 rfl
theorem YJ{b:Nat}(hp:PR F ρ N .nil (.map b)):False:=by
 grind [PR]
theorem mH(hr:SR B h0 F ρ st.nx st.ob h){o:Oper}{c:Call}(e:o.op=.call c)(d:c.callee=.builtin .len){id sz off len:Nat}{cap:Option Nat}(g:Na st c.args.toList=some [.sl id sz off len cap]){u:PV}{s:AQ}
  (a:(pop o.op X.C.T st).To u s) {b:Nat} (hp:PR F ρ st.nx (.sl id sz off len cap) (.map b)):False:=by
 rw[e]at a;simp only[pop,UY,g,d,JZ,Abz,WU,List.map_cons,List.map_nil,lz]at a;split at a;split at a
 case h_3=>
  cases i:I3 (st.obj id)with
  |false=>simp_all
  |true=>
   obtain⟨b',n,j⟩:=hr.live i;grind [PR]
 all_goals first|(simp at a;done)|grind|(cases he)
theorem PL{T:Cj}{ts:Array TypeId}{a:V}{g:H}(c:∀b,a≠ .map b)(h:H):GO T g ts [a]=GO T h ts [a]:=by
 unfold GO;grind
theorem gY(hr:Rel B h0 F ρ st fr h){o:Oper}{x:V}(A:Hu X.C fr h o=some (.val x h)){l:List Nat}(I:AaV st o.op=some l)(Y:∃u s,(pop o.op X.C.T st).To u s):
  ∃bl,TD X.C F bl h fr o x/\∀b∈bl,b<h.nx/\∃id∈l,id<st.nx/\∀y,ρ id=some y->y.1=b:=by
 unfold AaV at I;rw[Dg]at A;unfold Hp at A;split at I
 case h_5=>cases I
 case h_4 t y i ok r=>
  simp only[r]at A;have m:∀g,Hu X.C fr g o=(match ev X.C fr y,ev X.C fr i with|some v,some u=>BS g (Fg X.C.T g t v u ok)|_,_=>none):=(by grind [Dg,Hp]);cases O:ev X.C fr y with
  |none=>grind
  |some a=>
   cases Z:ev X.C fr i with
   |none=>grind
   |some u=>
    rw[O,Z]at A;simp only at A;obtain⟨x',D,E⟩:=Hm A;cases E;have G:∀g:H,entries g a=entries h a->Fg X.C.T g t a u ok=some x:=by
     grind [Fg]
    split at I
    case h_3=>cases I
    case h_1=>
     rename_i id hp;obtain⟨U,w,p⟩:=Cp (C:=X.C) hr.fp hp;rw[O]at w;cases w;have W:∃es,entries h a=some es:=by
      grind [Fg]
     obtain⟨es,E⟩:=W;cases I;by_cases K:∃b,a=.map b
     ·obtain⟨b,rfl⟩:=K;have J:∃ob,h.get b=some ob:=by
       cases M:h.get b with
       |none=>simp[entries,M]at E
       |some ob=>simp
      obtain⟨ob,J⟩:=J;simp only[PR]at p;refine⟨[b],fun g _ M=>⟨g,?_⟩,fun b' R=>?_⟩
      ·rw[m,O,Z];simp only;rw[G g<|by simp_all [entries]];rfl
      ·cases zc.1 R;refine⟨hr.sr.lt b ob J,id,(by simp),p.1,fun z hz=>?_⟩;grind
     ·refine⟨[],fun g _ M=>⟨g,?_⟩,(by simp)⟩;rw[m,O,Z];simp only;rw[G g ?_];rfl;cases a<;>first|rfl|grind
    case h_2=>
     rename_i hp;obtain⟨U,w,p⟩:=Cp (C:=X.C) hr.fp hp;rw[O]at w;cases w;simp only[PR]at p;subst p;cases I;refine⟨[],fun g _ M=>⟨g,?_⟩,(by simp)⟩;rw[m,O,Z];simp only;rw[G g rfl];rfl
 case h_1 t y r=>
  simp only[r]at A;have m:∀g,Hu X.C fr g o=(match ev X.C fr y with|some v=>BS g (FH X.C.T g t v)|none=>none):=(by grind [Dg,Hp]);cases O:ev X.C fr y with
  |none=>grind
  |some a=>
   rw[O]at A;simp only at A;obtain⟨x',D,E⟩:=Hm A;cases E;obtain⟨b,off,ob,rfl,J,G,hfz⟩:=qE D;have hblt:=hr.sr.lt b ob J;have live:∀id,id<st.nx->(∀z,ρ id=some z->z.1=b)->l=[id]->∃bl,TD X.C F bl h fr o x/\∀b∈bl,b<h.nx/\∃id∈l,id<st.nx/\∀y,ρ id=some y->y.1=b:=by
    rintro id hlt hid rfl;refine⟨[b],fun g _ M=>⟨g,?_⟩,fun b' R=>?_⟩
    ·rw[m,O];simp only;rw[G g ah];rfl
    simp_all
   split at I
   case h_4=>cases I
   case h_1=>
    rename_i id S hp;obtain⟨U,w,p⟩:=Cp (C:=X.C) hr.fp hp;grind [PR]
   case h_2=>
    rename_i id sz j S hp;obtain⟨U,w,p⟩:=Cp (C:=X.C) hr.fp hp;grind [PR]
   case h_3=>
    rename_i s y' S hp;obtain⟨U,w,p⟩:=Cp (C:=X.C) hr.fp hp;rw[O]at w;cases w;simp only[PR]at p;obtain⟨b',o',cs,E,hF,_⟩:=p;cases E;obtain⟨t1,f1,k1⟩:=hr.sr.frz b cs hF;refine⟨[],fun g M _=>⟨g,?_⟩,(by simp)⟩;obtain⟨t2,f2,k2⟩:=M b cs hF;rw[m,O];simp only;rw[hfz g cs t1 f1 t2 f2 k1 k2];rfl
 case h_2 s d y r=>
  simp only[r]at A;have m:∀g,Hu X.C fr g o=(match ev X.C fr y with|some v=>BS g (GI X.C.T g s d v)|none=>none):=(by grind [Dg,Hp]);have fin:∀a,ev X.C fr y=some a->(∀g,GI X.C.T g s d a=GI X.C.T h s d a)->∃bl,TD X.C F bl h fr o x/\∀b∈bl,b<h.nx/\∃id∈l,id<st.nx/\∀y,ρ id=some y->y.1=b:=by
   intro a ha M;rw[ha]at A;simp only at A;obtain⟨x',D,E⟩:=Hm A;cases E;exact⟨[],fun g _ _=>⟨g,by rw[m,ha];simp only;rw[M,D];rfl⟩,(by simp)⟩
  split at I
  case h_3=>cases I
  case h_1=>
   rename_i k z hp;obtain⟨U,w,p⟩:=Cp (C:=X.C) hr.fp hp;simp only[PR,DC,zq,vf]at p;subst p;exact fin _ w fun g=>by
    unfold GI;grind
  case h_2=>
   rename_i z hp;obtain⟨U,w,p⟩:=Cp (C:=X.C) hr.fp hp;simp only[PR,DC,zq,vf]at p;subst p;exact fin _ w fun g=>by
    unfold GI;grind
 case h_3 c r=>
  simp only[r]at A;split at I
  case h_5=>cases I
  case h_4=>
   rename_i id q L;obtain⟨Akx,w,p⟩:=Fx (C:=X.C) hr.fp L;simp only[BT]at p;obtain⟨a,as',rfl,p,rfl⟩:=p;have m:∀g,Hu X.C fr g o=BS g (GO X.C.T g c.argTypes [a]):=fun g=>by rw[Dg];unfold Hp;simp only[r,q,w];rfl
   simp only[q,w,Fs]at A;obtain⟨x',D,E⟩:=Hm A;cases E;cases I;by_cases K:∃b,a=.map b
   ·obtain⟨b,rfl⟩:=K;simp only[PR]at p;by_cases J:∃ob,h.get b=some ob
    ·obtain⟨ob,J⟩:=J;refine⟨[b],fun g _ M=>⟨g,?_⟩,fun b' R=>?_⟩
     ·rw[m];have:GO X.C.T g c.argTypes [.map b]=GO X.C.T h c.argTypes [.map b]:=by
       unfold GO;grind
      rw[this,D];rfl
     ·cases zc.1 R;refine⟨hr.sr.lt b ob J,id,(by simp),p.1,fun z hz=>?_⟩;grind
    ·have hnone:h.get b=none:=by
      cases M:h.get b with
      |none=>rfl
      |some ob=>grind
     refine⟨[],fun g _ _=>⟨g,?_⟩,(by simp)⟩;obtain⟨uu,s,P⟩:=Y;exfalso;rw[r]at P;simp only[pop,UY,L,q,JZ,Abz,WU,List.map_cons,List.map_nil,lz]at P;split at P
     case h_2=>simp at P
     rename_i t x _ E;cases E;split at P
     case h_5=>
      rename_i E;cases E;split at P
      case h_2=>simp at P
      rename_i ks vs l ho;obtain⟨b1,n1,o1,q1,q2,_⟩:=hr.sr.at ho;grind
     all_goals first|(simp at P;done)|grind|(cases E)
   ·refine⟨[],fun g _ _=>⟨g,?_⟩,(by simp)⟩;rw[m,PL ah h,D];rfl
  all_goals
   rename_i q L;obtain⟨Akx,w,p⟩:=Fx (C:=X.C) hr.fp L;obtain⟨a,as',rfl,p,rfl⟩:=p;have m:∀g,Hu X.C fr g o=BS g (GO X.C.T g c.argTypes [a]):=fun g=>by rw[Dg];unfold Hp;simp only[r,q,w];rfl
   simp only[q,w,Fs]at A;have hnm:∀b,a≠ .map b:=by
    intro b e;subst e;first
     |exact Yg p
     |exact YJ p
     |(obtain⟨u,s,P⟩:=Y
       exact mH hr.sr r q L P p)
   obtain⟨x',D,E⟩:=Hm A;cases E;refine⟨[],fun g _ _=>⟨g,?_⟩,fun b J=>by cases J⟩;rw[m];rw[PL hnm h,D];rfl
structure oR(C:Ctx)(F:Fz)(ρ:Ez)(N:Nat)(h:H)(r:Nat×Option (List Nat))(c:Rc):Prop where
 i:c.i=r.1
 k:∀l,r.2=some l->∃bl,TD C F bl h c.f c.o c.v/\∀b∈bl,b<h.nx/\∃id∈l,id<N/\∀y,ρ id=some y->y.1=b
def Y0(C:Ctx)(F:Fz)(ρ:Ez)(N:Nat)(h:H):Rs->List Rc->Prop
 |[],l=>l=[]
 |r::a,l=>∃c cs,l=c::cs/\oR C F ρ N h r c/\Y0 C F ρ N h a cs
theorem oR.mono{F':Fz}{ρ':Ez}{N':Nat}{r:Nat×Option (List Nat)}{c:Rc}(j:oR X.C F ρ N h r c)(d:Le F ρ N F' ρ' N')(z:h.nx<=h'.nx)
  (A:∀l,r.2=some l->∀b,b<h.nx->(∃id∈l,id<N/\∀y,ρ id=some y->y.1=b)->h'.get b=h.get b):oR X.C F' ρ' N' h' r c:=by
 refine⟨j.i,fun l e=>?_⟩;obtain⟨bl,o,u⟩:=j.k l e;refine⟨bl,fun g s x=>o g (fun b cs v=>s b cs<|d.fz b cs v)<|fun b a=>?_,fun b a=>?_⟩
 ·grind
 ·obtain⟨w,id,q,m,p⟩:=u b a;exact⟨ae,id,q,Nat.lt_of_lt_of_le m d.n,fun y t=>p y<|d.at m t⟩
theorem Y0.mono{F':Fz}{ρ':Ez}{N':Nat}(g:Le F ρ N F' ρ' N')(e:h.nx<=h'.nx)(j:∀b,b<h.nx->h'.get b=h.get b):∀ {a:Rs} {cs:List Rc},Y0 X.C F ρ N h a cs->Y0 X.C F' ρ' N' h' a cs
 |[],_,d=>d
 |r::a,_,d=>by
  obtain⟨c,cs,rfl,i,k⟩:=d;exact⟨c,cs,rfl,i.mono g e ah,Y0.mono g e j k⟩
theorem Y0.apart{F':Fz}{ρ':Ez}{fr':Fr}{anc:Nat->Nat->Bool}{i:Nat}{t:Option (List Nat)}(hr:Rel B h0 F ρ st fr h)(j:DB B h0 F ρ st.nx h st' fr' h' F' ρ')
  (E:∀d,t=some d->∀b,b<h.nx->h'.get b=h.get b\/∃id∈d,∃m,ρ id=some (b,m)):
  ∀ {q:Rs} {cs:List Rc},Y0 X.C F ρ st.nx h q cs->yc anc i st t q=true->cs.all (still X.C anc i h')=true/\Y0 X.C F' ρ' st'.nx h' (behind st t q) cs
 |[],_,x,_=>by
  cases x;exact⟨rfl,rfl⟩
 |r::q,_,x,A=>by
  obtain⟨c,cs,rfl,o,S⟩:=x;unfold yc at A;rw[yd,ze]at A;obtain⟨h3,h4⟩:=Y0.apart hr j E S (by exact A.2);have key:(Xn r.2 t&&M6 st r.2)=true->∀l,r.2=some l->∀b,b<h.nx->(∃id∈l,id<st.nx/\∀y,ρ id=some y->y.1=b)->h'.get b=h.get b:=by
   rintro p l g b I ⟨id,w,M,K⟩;simp only[ze,g]at p;have a:=List.all_eq_true.1 p.2 id w;obtain⟨D,P,G⟩:=hr.sr.live a;obtain rfl:D=b:=K _ G;cases t with
   |none=>
    grind [Xn]
   |some d=>
    rcases E d rfl D I with e|⟨id',U,m,u⟩
    ·exact e
    ·obtain⟨o1,R⟩:=Jt a;have v:∃s,AR st.ob id'=some s:=by
      cases O:AR st.ob id' with
      |some s=>simp
      |none=>rw[hr.sr.dead id' O]at u;cases u
     obtain⟨s,v⟩:=v;obtain rfl:=hr.sr.inj id id' o1 s D P m R v G u;grind [Nat.beq_refl,Xn]
  refine⟨?_,c,cs,rfl,?_,h4⟩
  ·rw[yd,h3,zy];unfold still;rw[o.i];cases J:anc i r.1 with
   |true=>rfl
   |false=>
    have g:∃l,r.2=some l:=by
     cases L:r.2 with
     |some l=>simp
     |none=>grind [Xn]
    obtain⟨l,g⟩:=g;obtain⟨bl,w,M⟩:=o.k l g;obtain⟨z,hz⟩:=w h' (fun b cs T=>j.rel.sr.frz b cs<|j.le.fz b cs T) ah;grind [Nl]
  ·show oR X.C F' ρ' st'.nx h' (bif Xn r.2 t&&M6 st r.2 then r else(r.1,none)) c;cases p:(Xn r.2 t&&M6 st r.2)with
   |true=>exact o.mono j.le j.nx<|key p
   |false=>
    exact⟨o.i,(by simp)⟩
theorem UU{C:Ctx}{o:Oper}(j:C2 o=true){r:OR}(a:Hu C fr h o=some r):∃ob f,wR C fr o=some (ob,f)/\r=.val (f h.nx) (h.push ob):=by
 rw[Dg]at a;unfold Hp at a;unfold C2 at j;unfold wR;split at j
 case h_4=>cases j
 case h_1 t b=>
  simp only[b]at a ⊢;unfold Hr at a;cases c:C.T.inf t with
  |none=>rw[c]at a;cases a
  |some i=>rw[c]at a;cases a;exact⟨_,_,rfl,rfl⟩
 case h_2 t x b=>
  simp only[b]at a ⊢;cases d:ev C fr x with
  |none=>rw[d]at a;cases a
  |some y=>rw[d]at a;cases a;exact⟨_,_,rfl,rfl⟩
 case h_3 t n ps b=>
  simp only[b]at a ⊢;cases d:Yr C fr ps.toList with
  |none=>grind
  |some y=>
   rw[d]at a;simp only at a ⊢;unfold Fm at a;unfold X0;split at a
   case h_2=>cases a
   rename_i e l;simp only[l];split at a
   case h_2=>cases a
   rename_i i c;simp only[c];cases k:(zi (n*i.size) 16777216&&zl 0 (i.zero.length)&&zf i.zero.length i.size)with
   |false=>rw[k]at a;cases a
   |true=>
    rw[k]at a;split at a
    case h_2=>cases a
    rename_i cs g;cases a;simp only[g];exact⟨_,_,rfl,rfl⟩
theorem AfB{T:Cj}{call:GN}{st:AQ}{o:Oper}{k:AQ->Tr}(a:ET o=true):IA T call o st k=S9 o.dst k (pop o.op T st):=by
 grind [Nb,ET,IA]
theorem Ac4{call:GN}(b:FY B h0 X false call)(hr:Rel B h0 F ρ st fr h){o:Oper}(m:ET o=true){k:AQ->Tr}(i:Ev X Q n (IA X.C.T call o st k)):
  ∃n',n'<=n/\∃a,Ev X Q n' (k a)/\∃F' ρ' x fr',Hu X.C fr h o=some (.val x h)/\fr.put o.dst x=some fr'/\DB B h0 F ρ st.nx h a fr' h F' ρ'/\∃u s,(pop o.op X.C.T st).To u s:=by
 obtain⟨l,c,g,d⟩:=H7 b hr i;obtain⟨⟨⟨x,h'⟩,rfl⟩,_⟩:=g.1 rfl;obtain⟨n',hn,a,he1,F',ρ',fr',hput,hw,_⟩:=d _<|zc.2 rfl;have j:∃u s,(pop o.op X.C.T st).To u s:=by
  grind [AfB,J2]
 cases c with
 |val e=>
  grind [rd_val]
 |skip e=>grind [rd_val]
 |call e _=>grind [rd_val]
 |round e _=>grind [rd_val]
 |alts e=>grind
theorem QA{call:GN}(r:FY B h0 X false call){ops:Array Oper}{anc:Nat->Nat->Bool}:∀ {L:List Nat} {n:Nat} {st:AQ} {F:Fz} {ρ:Ez} {fr:Fr} {h:H} {k:AQ->Tr} {I:Rs} {cs:List Rc},Rel B h0 F ρ st fr h->Y0 X.C F ρ st.nx h I cs->
  Ev X Q n (KX X.C.T X.sp call ops anc L st I k)->
  ∃n',n'<=n/\∃e,Ev X Q n' (k e)/\∃F' ρ' fr' h',DB B h0 F ρ st.nx h e fr' h' F' ρ'/\∃M,∀m,M<=m->∃cs',Xd X.C (Bh X.C m) ops anc L ⟨fr,h,cs⟩=some ⟨fr',h',cs'⟩
 |[],n,st,F,ρ,fr,h,k,I,cs,hr,_,c=>⟨n,zd _,st,c,F,ρ,fr,h,DB.refl hr,0,fun _ _=>⟨cs,rfl⟩⟩
 |i::is,n,st,F,ρ,fr,h,k,I,cs,hr,A,c=>by
  unfold KX at c;cases ho:ops[i]? with
  |none=>grind [Ev.AG]
  |some o=>
   rw[ho]at c;simp only at c;obtain⟨e,v,K,e2,S⟩:=Oq hr c;rw[<-K]at A;have fin:∀ {n1:Nat} {j:AQ} {F1:Fz} {u:Ez} {s:Fr} {O:H} {rs2:Rs} {cs2:List Rc},n1<=n->DB B h0 F ρ st.nx h j s O F1 u->Y0 X.C F1 u j.nx O rs2 cs2->Ev X Q n1 (KX X.C.T X.sp call ops anc is j rs2 k)->
     (∃M,∀m,M<=m->∃x,IV X.C (Bh X.C m) ops anc i ⟨fr,h,cs⟩=some (x,⟨s,O,cs2⟩))->
     ∃n',n'<=n/\∃e,Ev X Q n' (k e)/\∃F' ρ' fr' h',DB B h0 F ρ st.nx h e fr' h' F' ρ'/\∃M,∀m,M<=m->∃cs',Xd X.C (Bh X.C m) ops anc (i::is) ⟨fr,h,cs⟩=some ⟨fr',h',cs'⟩:=by
    rintro n1 j F1 u s O rs2 cs2 w hw q p ⟨M1,hM1⟩;obtain⟨n2,hn2,st3,he3,F2,ρ2,fr2,h2,hw2,M2,hM2⟩:=QA r hw.rel q p;refine⟨n2,ae,st3,he3,F2,ρ2,fr2,h2,hw.trans hw2,max M1 M2,fun m hm=>?_⟩;obtain⟨x,hx⟩:=hM1 m ae;obtain⟨cs',hcs'⟩:=hM2 m ae;grind [Xd]
   rcases S with⟨hw,c⟩|⟨hw,c⟩
   ·cases U:ET o with
    |true=>
     rw[U]at c;simp only[we]at c;obtain⟨n1,w,j,p,F1,u,x,s,z,d,a,hto⟩:=Ac4 r v U c;rw[K]at a;have q:Y0 X.C F1 u j.nx h I cs:=A.mono (by rw[K];exact a.le) ae (by simp);cases Z:R4 o with
     |false=>
      rw[Z]at p;refine fin (cs2:=cs) w a q p ⟨0,fun m _=>⟨x,?_⟩⟩;unfold IV;grind
     |true=>
      rw[Z]at p;refine fin (cs2:=⟨i,o,fr,x⟩::cs) (rs2:=(i,AaV e o.op)::I) w a ⟨_,_,rfl,⟨rfl,fun l hl=>?_⟩,q⟩ p ⟨0,fun m _=>⟨x,?_⟩⟩
      ·obtain⟨bl,Y,V⟩:=gY v z hl hto;refine⟨bl,fun g hg W=>Y g (fun b cs hF=>hg b cs<|a.le.fz b cs hF) W,fun b W=>?_⟩;obtain⟨j1,id,j2,j3,j4⟩:=V b W;rw[K]at j3;exact⟨j1,id,j2,Nat.lt_of_lt_of_le j3 a.le.n,fun y hy=>j4 y<|a.le.at j3 hy⟩
      ·unfold IV;grind
    |false=>
     rw[U]at c;simp only[wg]at c;cases P:C2 o with
     |true=>
      rw[P]at c;simp only[we]at c;obtain⟨l,E,R,G⟩:=H7 r v c;obtain⟨⟨⟨x,O⟩,rfl⟩,hna⟩:=R.1 rfl;obtain⟨n1,w,j,p,F1,u,s,d,a,_⟩:=G _<|zc.2 rfl;rw[K]at a;simp only at d a;have hv:∃ob f,wR X.C fr o=some (ob,f)/\x=f h.nx/\O=h.push ob:=by
       cases E with
       |val z=>obtain⟨ob,f,Y,V⟩:=UU P z;grind
       |skip z=>grind [UU]
       |call z _=>grind [UU]
       |round z _=>grind [UU]
       |alts z=>grind
      obtain⟨ob1,f,Y,rfl,rfl⟩:=hv;have q:Y0 X.C F1 u j.nx (h.push ob1) I cs:=A.mono (by rw[K];exact a.le) (by simp) (fun b W=>by simp[Nat.ne_of_lt W]);refine fin (cs2:=cs) w a q p ⟨0,fun m _=>⟨f h.nx,?_⟩⟩;unfold IV;grind
     |false=>
      rw[P]at c;simp only[wg]at c;cases D:(yc anc i e (HO X.sp e o.op) I&&mP e o.op)with
      |false=>grind [Ev.AG]
      |true=>
       rw[D]at c;simp only[we]at c;simp only[ze]at D;obtain⟨J,hnr⟩:=D;obtain⟨l,E,R,G⟩:=H7 r v c;obtain⟨⟨⟨x,O⟩,rfl⟩,hna⟩:=R.1 rfl;obtain⟨n1,w,j,p,F1,u,s,d,a,htch⟩:=G _<|zc.2 rfl;simp only at d a htch;obtain⟨Y,V⟩:=Y0.apart v a htch A J;rw[K]at a;refine fin w a V p ?_;have hh:∃M,∀m,M<=m->Em X.C (Bh X.C m) fr h o=some (x,O):=by
        cases E with
        |val z=>exact⟨0,(by grind [Em])⟩
        |skip z=>exact⟨0,(by grind [Em])⟩
        |alts z=>grind
        |round z _=>grind [mP]
        |@call g args _ M z hM=>exact⟨M,(by grind [Em])⟩
       obtain⟨M,hM⟩:=hh;refine⟨M,fun m hm=>⟨x,?_⟩⟩;unfold IV;grind
   ·cases hv:C9 o with
    |false=>
     rw[hv]at c;unfold Nv at c;split at c
     case h_2=>grind [Ev.AG]
     rename_i j d;obtain⟨s,g1,g2,g3,g4⟩:=v.put (x:=.tup []) (by simp[PR]) d;refine fin (cs2:=cs) ae ⟨g2,by rw[g3,K];exact zk,zd _⟩ ah c ⟨0,fun m _=>⟨.tup [],?_⟩⟩;unfold IV;grind
    |true=>
     rw[hv]at c;cases J:yc anc i e (some []) I with
     |false=>grind [Ev.AG]
     |true=>
      rw[J]at c;unfold Nv at c;split at c
      case h_2=>grind [Ev.AG]
      rename_i j d;obtain⟨s,g1,g2,g3,g4⟩:=v.put (x:=.tup []) (by simp[PR]) d;have a:DB B h0 F ρ e.nx h j s h F ρ:=⟨g2,by rw[g3];exact zk,zd _⟩;obtain⟨Y,V⟩:=Y0.apart (t:=some []) v a (by simp) A J;rw[K]at a;refine fin ae a V c ⟨0,fun m _=>⟨.tup [],?_⟩⟩;unfold IV;grind
theorem iY{call:GN}(c:FY B h0 X false call){ops:Array Oper}{k:AQ->Tr}(hr:Rel B h0 F ρ st fr h)(e:Ev X Q n (KX X.C.T X.sp call ops (E7 ops).a (E7 ops).ord st [] k)):
  ∃n',n'<=n/\∃b,Ev X Q n' (k b)/\∃F' ρ' fr' h',DB B h0 F ρ st.nx h b fr' h' F' ρ'/\∃M,∀m,M<=m->I9 X.C (Bh X.C m) ops fr h=some (fr',h'):=by
 obtain⟨n',i,b,d,F',ρ',fr',h',g,M,l⟩:=QA (cs:=[]) c hr (by rfl) e;refine⟨n',i,b,d,F',ρ',fr',h',g,M,fun m j=>?_⟩;grind [I9]
end
section
variable {B:Nat}{h0:H0}{F:Fz}{ρ ρ':Ez}{N N':Nat}{f:Nat->Option Nat}
mutual
theorem QP(d:∀i j,i<N->f i=some j->j<N'/\ρ' j=ρ i):∀ {p:PV} {v:V},PR F ρ N p v->PR F ρ' N' (I2 f p) v
 | .any,_,_=>by simp[I2,PR]
 | .bl _,_,h=>by grind [I2,PR]
 | .ub,_,h=>by grind [I2,PR]
 | .dat _ _,_,h=>by grind [I2,PR]
 | .nil,_,h| .nilp,_,h| .nilm,_,h| .nilf,_,h| .nili,_,h=>by simpa only[I2,PR]using h
 | .A8 _ _ _,_,h=>by grind [I2,PR]
 | .agg l,_,h=>by obtain⟨cs,rfl,c⟩:=h;exact⟨cs,rfl,E5 d c⟩
 | .tup l,_,h=>by obtain⟨cs,rfl,c⟩:=h;exact⟨cs,rfl,E5 d c⟩
 | .fn g a b,_,h=>by obtain⟨x,y,rfl,c,e⟩:=h;exact⟨x,y,rfl,E5 d c,E5 d e⟩
 | .ptr i o,_,h=>by
  grind [I2,PR]
 | .eptr i _ _ _,_,h=>by
  grind [I2,PR]
 | .sl i _ _ _ _,_,h=>by
  grind [I2,PR]
 | .yl i,_,h=>by
  grind [I2,PR]
 | .mp i,_,h=>by
  grind [I2,PR]
theorem E5(a:∀i j,i<N->f i=some j->j<N'/\ρ' j=ρ i):∀ {ps:List PV} {vs:List V},BT F ρ N ps vs->BT F ρ' N' (KT f ps) vs
 |[],_,h=>by simpa [KT]using h
 |p::ps,_,h=>by
  obtain⟨v,vs,rfl,b,c⟩:=h;simp only[KT,BY];exact⟨QP a b,E5 a c⟩
end
theorem SN(f:PV->PV):∀(sl:List (Nat×PV)) (m a:PM PV),(∀t,a.get t=(m.get t).map f)->∀t,((sl.map fun x=>(x.1,f x.2)).foldl (fun m x=>m.set x.1<|some x.2) a).get t=((sl.foldl (fun m x=>m.set x.1<|some x.2) m).get t).map f
 |[],_,_,h,t=>h t
 |x::sl,m,a,h,t=>by
  refine SN f sl _ _ (fun t=>?_) t;grind [PM.DI]
theorem YN(f:PV->PV)(a:f .any=.any)(sl:List (Nat×PV))(t:Nat):Qn (sl.map fun x=>(x.1,f x.2)) t=f (Qn sl t):=by
 unfold Qn Fj;rw[SN f sl .leaf .leaf (by simp) t];cases (sl.foldl (fun m x=>m.set x.1<|some x.2) PM.leaf).get t with
 |none=>grind
 |some x=>rfl
theorem pD(u:∀i j,i<N->f i=some j->j<N'/\ρ' j=ρ i){n:Nat}{o:Obj}{x:O}(h:Yd F ρ N n o x):Yd F ρ' N' n (Qi f o) x:=by
 cases o with
 |arr fz e s l=>exact h
 |box ps=>grind [E5,Yd,Qi]
 |tbox t ps=>grind [E5,Yd,Qi]
 |lp g r ps asg body s n sl=>
  obtain⟨ls,a,d,q,c,k,b,m⟩:=h;refine⟨ls,a,d,q,c,k,b,fun t=>?_⟩;rw[YN (I2 f)<|by rfl];exact QP u<|m t
 |map ks vs l=>exact h
 |siter s p=>exact h
theorem VR(o:Obj):(Qi f o).frozen=o.frozen:=by cases o<;>rfl
theorem Kv{st:AQ}{base:Nat}:∀(n:Nat) (c acc:List Nat),(∀i∈acc,base<=i/\(st.obj i).isSome=true)->acc.Nodup->(∀i∈JQ st base n c acc,base<=i/\(st.obj i).isSome=true)/\(JQ st base n c acc).Nodup
 |0,_,acc,a,b=>⟨a,b⟩
 |n+1,[],acc,a,b=>⟨a,b⟩
 |n+1,i::c,acc,a,b=>by
  unfold JQ;cases g:(zl i base||acc.any (zf i))with
  |true=>exact Kv n c acc a b
  |false=>
   cases e:st.obj i with
   |none=>exact Kv n c acc a b
   |some o=>
    have k:base<=i:=by
     grind [D4]
    have d:i∉acc:=by
     grind [Nat.beq_refl]
    refine Kv n _ _ (fun j l=>?_) ?_
    ·grind
    grind
theorem Qx{base:Nat}:∀(b:List Nat) (n i j:Nat),b.Nodup->QG base b n i=some j->(∃k,b[k]?=some i/\j=n+k)\/(i∉b/\i<base/\j=i)
 |[],n,i,j,_,h=>by
  unfold QG at h;cases m:zl i base with
  |false=>grind
  |true=>simp_all
 |a::b,n,i,j,l,h=>by
  unfold QG at h;rw[Bx]at h;by_cases e:i=a
  ·simp_all
  ·simp only[e,decide_false,wg]at h;have c:=List.nodup_cons.1 l;rcases Qx b (Nat.add n 1) i j c.2 h with⟨k,d,g⟩|⟨d,g,o⟩
   ·exact .inl ⟨k+1,by grind,by grind⟩
   grind
theorem cO(f:Nat->Option Nat)(base:Nat):∀(l:Ob) (j:Nat),AR (low f base l) j=if j<base then(AR l j).map (Qi f)else none
 |[],j=>by simp[low,AR]
 |(i,o)::l,j=>by
  simp only[low];have c:=cO f base l j;by_cases a:i<base
  ·rw[D4 a];simp only[we,AR,Bx];grind
  ·have:zl i base=false:=by
    cases b:zl i base with
    |false=>rfl
    |true=>exact wh (zu b) a
   rw[this];simp only[wg,AR,Bx];grind
theorem XI{st:AQ}(f:Nat->Option Nat):∀(a:List Nat) (n:Nat) (b:Ob) (j:Nat),(∀i∈a,(st.obj i).isSome=true)->AR (kept st f a n b) j=(if n<=j/\j<n+a.length then(a[j-n]?).bind fun i=>(st.obj i).map (Qi f)else AR b j)
 |[],n,b,j,_=>by simp_all [kept,wc]
 |i::a,n,b,j,h=>by
  obtain⟨o,c⟩:=Option.isSome_iff_exists.1 (h i (by simp));unfold kept;rw[c];rw[XI f a (Nat.add n 1) _ j ah];by_cases d:n+1<=j/\j<n+1+a.length
  ·grind
  ·simp only[AR,Bx];grind
theorem G4:∀(vs:List (Nat×PV)) (m:PM PV) (t:Nat) (p:PV),(vs.foldl (fun m x=>m.set x.1<|some x.2) m).get t=some p->(t,p)∈vs\/m.get t=some p
 |[],m,t,p,h=>.inr h
 |x::vs,m,t,p,h=>by
  rcases G4 vs _ t p h with h1|h1
  ·grind
  grind [PM.DI]
theorem gU{st:AQ}{fr:Fr}{h:H}(hr:Rel B h0 F ρ st fr h)(base:Nat)(L:List Nat)(_hb:base<=st.nx):
  ∃ρ',Rel B h0 F ρ' (canon base L st) fr h/\base<=(canon base L st).nx/\∀id,id<base->ρ' id=ρ id:=by
 generalize r:JQ st base 100 (KY ((L.map fun t=>(t,st.get t)).map (·.2))++Qk base st.ob) []=ids;have A:=Kv (st:=st) (base:=base) 100 (KY ((L.map fun t=>(t,st.get t)).map (·.2))++Qk base st.ob) [] (by simp) List.nodup_nil;rw[r]at A;obtain⟨R,E⟩:=A;let g:=QG base ids base
 let e:Ez:=fun id=>if id<base then ρ id else(ids[id-base]?).bind ρ
 have z:∀id,id<base->e id=ρ id:=ah;have u:∀k i,ids[k]?=some i->e (base+k)=ρ i:=by
  grind
 have D:canon base L st=Ax st.n ((L.map fun t=>(t,st.get t)).map fun x=>(x.1,I2 g x.2)) (kept st g ids base<|low g base st.ob) (base+ids.length):=by
  rw[show g=QG base ids base from rfl, <-r];rfl
 have K:∀i j,i<st.nx->g i=some j->j<base+ids.length/\e j=ρ i:=by
  intro i j _ I;rcases Qx ids base i j E I with⟨k,h1,rfl⟩|⟨_,q,rfl⟩
  ·grind
  grind
 have y:∀j,AR (kept st g ids base<|low g base st.ob) j=if j<base then(AR st.ob j).map (Qi g)else(ids[j-base]?).bind fun i=>(st.obj i).map (Qi g):=by
  intro j;rw[XI g ids base _ j ah,cO];grind
 have src:∀j o',AR (kept st g ids base<|low g base st.ob) j=some o'->∃i o,AR st.ob i=some o/\o'=Qi g o/\e j=ρ i/\j<base+ids.length/\((j<base/\i=j)\/(base<=j/\ids[j-base]?=some i/\base<=i)):=by
  intro j o' l;rw[y]at l;by_cases h1:j<base
  ·rw[wd h1,zj]at l;grind
  ·rw[wc h1]at l;cases v:ids[j-base]? with
   |none=>grind
   |some i=>
    rw[v]at l;simp only[Option.bind_some,zj]at l;obtain⟨o,q,rfl⟩:=l;have U:=(zx.1 v).1;have:=u (j-base) i v;rw[show base+(j-base)=j from by omega]at this;exact⟨i,o,q,rfl,this,by omega,ah⟩
 refine⟨e,?_,by rw[D];show base<=base+ids.length;omega,z⟩;rw[D];refine⟨⟨hr.fp.n,fun t=>?_⟩,⟨fun j o' l=>?_,fun i j oi oj c m T Y l h1 q=>?_,hr.sr.frz,fun id b m d=>?_,fun j l=>?_,hr.sr.old,hr.sr.lt,hr.sr.le,hr.sr.fo,hr.sr.gl,fun c D=>?_⟩⟩
 ·generalize G:((L.map fun t=>(t,st.get t)).map fun x=>(x.1,I2 g x.2))=vs;show PR F e (base+ids.length) (((Fj vs).get t).getD .any)<|fr.get t;cases hp:(Fj vs).get t with
  |none=>grind [PR]
  |some p=>
   rcases G4 vs .leaf t p hp with h1|h1
   ·rw[<-G]at h1;simp only[List.map_map,yf,Function.comp]at h1;obtain⟨s,_,q⟩:=h1;cases q;exact QP K (hr.fp.slot _)
   simp_all
 ·obtain⟨i,o,h1,rfl,q,h3,_⟩:=src j o' l;obtain⟨b,m,x,k1,k2,k3,k4⟩:=hr.sr.obj i o h1;exact⟨b,m,x,q.trans k1,k2,pD K k3,by rw[VR];exact k4⟩
 ·obtain⟨a,o,M,_,O,_,J⟩:=src i oi Y;obtain⟨a',o',g4,_,g5,_,g6⟩:=src j oj l;rw[O]at h1;rw[g5]at q;have W:=hr.sr.inj a a' o o' c m T M g4 h1 q;rcases J with⟨Z,P⟩|⟨Z,P,e3⟩<;>rcases g6 with⟨V,S⟩|⟨V,S,f3⟩
  ·omega
  ·omega
  ·omega
  grind [List.getElem?_inj]
 ·have d:(if id<base then ρ id else(ids[id-base]?).bind ρ)=some (b,m):=d;by_cases h1:id<base
  ·rw[wd h1]at d;exact⟨by show id<base+ids.length;omega,(hr.sr.own id b m d).2⟩
  ·rw[wc h1]at d;cases v:ids[id-base]? with
   |none=>grind
   |some i=>
    rw[v]at d;have:=(zx.1 v).1;exact⟨by show id<base+ids.length;omega,(hr.sr.own i b m d).2⟩
 ·have w:AR (kept st g ids base<|low g base st.ob) j=none:=l;rw[y]at w;show(if j<base then ρ j else(ids[j-base]?).bind ρ)=none;by_cases h1:j<base
  ·rw[wd h1]at w ⊢;exact hr.sr.dead j (by simp_all)
  ·rw[wc h1]at w ⊢;cases v:ids[j-base]? with
   |none=>rfl
   |some i=>
    grind [Option.map_eq_none_iff]
 ·obtain⟨M,O,J⟩:=hr.sr.pn c D;grind
end
section
variable {B:Nat}{h0:H0}{X:AL}{F:Fz}{ρ:Ez}{N:Nat}{h:H}
theorem iH(h0:H0)(a b:List Nat):(h0.pins a).pins b=h0.pins (b++a):=by unfold H0.pins;simp
theorem SR.uY{ob:Ob}{ps:List Nat}(hr:SR B (h0.pins ps) F ρ N ob h):SR B h0 F ρ N ob h:=
 ⟨hr.obj,hr.inj,hr.frz,hr.own,hr.dead,hr.old,hr.lt,hr.le,hr.fo,hr.gl,fun b a=>hr.pn b<|List.mem_append_right _ a⟩
theorem SR.mark{ob:Ob}(hr:SR B h0 F ρ N ob h):SR B (h0.pins [h.nx]) F ρ N ob (h.push<|.defd true):=by
 have g:∀b y,h.get b=some y->b≠h.nx:=fun b y r=>by have:=hr.lt b y r;omega
 have i:∀b y,h.get b=some y->(h.push<|.defd true).get b=some y:=(by simp_all);refine⟨fun j oj s=>?_,hr.inj,fun c cs a=>?_,hr.own,hr.dead,fun c a k=>?_,fun c l a=>?_,?_,hr.fo,hr.gl,fun c a=>?_⟩
 ·obtain⟨c,m,y,v,z,D⟩:=hr.obj j oj s;grind
 ·obtain⟨t,fz,w⟩:=hr.frz c cs a;grind
 ·have:=hr.le;rw[H.CW,wc ae];exact hr.old c a k
 ·rw[H.CW]at a;by_cases e:c=h.nx
  ·simp_all
  ·rw[wc e]at a;have:=hr.lt c l a;show c<h.nx+1;omega
 ·have:=hr.le;show B<=h.nx+1;omega
 ·rcases List.mem_append.1 a with a|a
  ·cases zc.1 a;refine⟨by simp,hr.le,fun id n e=>?_⟩;by_cases d:∃o,AR ob id=some o
   ·obtain⟨o,u⟩:=d;obtain⟨c,m,y,q,p,_⟩:=hr.obj id o u;grind
   ·have:AR ob id=none:=by
     cases x:AR ob id with
     |none=>rfl
     |some o=>grind
    rw[hr.dead id this]at e;cases e
  ·obtain⟨q,p,A⟩:=hr.pn c a;grind
theorem SR.cP{ob:Ob}(hr:SR B h0 F ρ N ob h){b:Nat}{x y:O}(t:∀id o n,AR ob id=some o->ρ id≠some (b,n))(u:F b=none)(s:h0.fO B b)(v:b∉h0.pin)(p:h.get b=some x):SR B h0 F ρ N ob (h.put b y):=by
 refine⟨fun j oj r=>?_,hr.inj,fun c cs a=>?_,hr.own,hr.dead,fun c a d=>?_,fun c k a=>?_,hr.le,hr.fo,hr.gl,fun c a=>?_⟩
 ·obtain⟨c,m,y,g,q,i⟩:=hr.obj j oj r;have:c≠b:=ah;exact⟨c,m,y,g,by simp_all,i⟩
 ·have:c≠b:=ah;rw[H.Cf,wc this];exact hr.frz c cs a
 ·have:c≠b:=Ph s a d;rw[H.Cf,wc this];exact hr.old c a d
 ·rw[H.Cf]at a;split at a
  ·rename_i e;subst e;exact hr.lt _ _ p
  ·exact hr.lt c k a
 ·obtain⟨g,q,i⟩:=hr.pn c a;have l:c≠b:=ah;simp_all
theorem SR.leave{ob:Ob}:∀ {ps:List Nat} {h:H},ps.Nodup->(∀b∈ps,b∉h0.pin)->SR B (h0.pins ps) F ρ N ob h->∃a,Hx ps h=some a/\SR B h0 F ρ N ob a/\a.nx=h.nx/\∀b,b∉ps->a.get b=h.get b
 |[],h,_,_,hr=>⟨h,rfl,hr,rfl,fun _ _=>rfl⟩
 |p::ps,h,d,j,hr=>by
  obtain⟨e,i,m⟩:=hr.pn p (by simp[H0.pins]);rw[List.nodup_cons]at d;have c:SR B ((h0.pins ps).pins [p]) F ρ N ob h:=by exact hr
  have hp:SR B (h0.pins ps) F ρ N ob (h.put p<|.defd false):=by
   refine SR.cP c.uY ah ?_ (.inl i) ?_ e
   ·cases g:F p with
    |none=>rfl
    |some cs=>obtain⟨t,fz,k⟩:=hr.frz p cs g;grind
   grind [H0.pins]
  obtain⟨a,r,q,o,l⟩:=SR.leave d.2 ah hp;simp_all [Hx]
theorem kS{st:AQ}{fr:Fr}(hr:Rel B h0 F ρ st fr h)(base:Nat)(x:Nat×Sh):∃F1 q,Rel B h0 F1 q (wX base x st) fr h/\(wX base x st).nx=st.nx/\(∀id,id<base->q id=ρ id)/\∀b cs,F b=some cs->F1 b=some cs:=by
 have p:=hr.fp.slot x.1;unfold wX;split
 case h_1=>
  rename_i A;rw[A]at p;exact⟨F,ρ,hr.note (by rw[p];simp[PR,DC]),rfl,fun _ _=>rfl,fun _ _ h=>h⟩
 case h_4=>grind
 case h_3=>
  rename_i id A;cases T:zi base id with
  |false=>grind
  |true=>
  have T:=zu T;split
  case h_2=>grind
  rename_i ps w;split
  case h_2=>grind
  rename_i v W;rw[A]at p;obtain⟨b,n,y,E,h2,h3,Z,-⟩:=hr.sr.at w;obtain⟨cs,t,fz,rfl,h4,h5⟩:=h3;have Y:F b=none:=Z rfl;have a:∀c cs',F c=some cs'->(fun c=>if c=b then some cs else F c) c=some cs':=by
   grind
  have D:=(Dc h4 W);have R:=D.len;have k:Le F ρ st.nx (fun c=>if c=b then some cs else F c) (BC ρ id none) st.nx:=(Le.eP a).trans<|Le.Kp id;have u:Le F (BC ρ id none) st.nx (fun c=>if c=b then some cs else F c) (BC ρ id none) st.nx:=Le.eP a;have d:=hr.sr.del id;have P:∀j m,BC ρ id none j=some (b,m)->∀oj,AR (Hl st.ob id) j=some oj->False:=by
   intro j m i oj o;rw[DO]at o;split at o
   ·cases o
   ·rename_i U;simp only[BC,U,vg]at i;exact U<|hr.sr.inj j id oj _ b m n o w i E
  have O:SR B h0 (fun c=>if c=b then some cs else F c) (BC ρ id none) st.nx (Hl st.ob id) h:=by
   refine⟨fun j oj o=>?_,d.inj,fun c cs' r=>?_,d.own,d.dead,d.old,d.lt,d.le,fun c cs' r=>?_,d.gl,d.pn⟩
   ·obtain⟨c,m,z,i,G,K,g4,g5⟩:=d.obj j oj o;exact⟨c,m,z,i,G,K.mono u,ah,ah⟩
   ·split at r
    ·grind
    ·exact d.frz c cs' r
   ·split at r
    ·rename_i V;subst V;exact .inr (hr.sr.own id c n E).2
    ·exact d.fo c cs' r
  have g:Rel B h0 (fun c=>if c=b then some cs else F c) (BC ρ id none) (st.GF id) fr h:=⟨⟨hr.fp.n,fun t=>(hr.fp.slot t).mono k⟩,O⟩;refine⟨_,_,g.note ?_,rfl,fun j o=>by unfold BC;grind,a⟩;have I:=p.2 b n E;exact⟨b,0,cs,by rw[I],by simp,by omega,by rw[ya,zr ae];exact D.mono a⟩
 rename_i id sz off len cap A;split
 case h_2=>grind
 rename_i fz e s l w;cases hz:zf sz s.sz with
 |false=>grind
 |true=>
 rw[A]at p;obtain⟨F1,i,G,K⟩:=Oh hr.sr p;have L:BN st (.sl id sz off len cap)=st.setObj id (.arr true e s l):=by simp[BN,w]
 rw[L]at i;have k:Le F ρ st.nx F1 ρ st.nx:=⟨G,(by simp),zd _⟩;have S:off+len<=l.length:=by
  obtain⟨b,n,y,E,_,⟨_,_,_,_,_,h6⟩,-⟩:=hr.sr.at w;grind [PR]
 have M:B4 st (.sl id sz off len cap)=some (true,.dat (.list s)<|(l.drop off).take len):=by
  simp_all [B4]
 have J:=K _ M;have g:Rel B h0 F1 ρ (st.setObj id<|.arr true e s l) fr h:=⟨⟨hr.fp.n,fun t=>(hr.fp.slot t).mono k⟩,i⟩;exact⟨F1,ρ,g.note<|J ρ _,rfl,fun _ _=>rfl,G⟩
theorem Wc{fr:Fr}(base:Nat):∀(l:List (Nat×Sh)) {st:AQ} {F:Fz} {ρ:Ez},Rel B h0 F ρ st fr h->∃F1 a,Rel B h0 F1 a (mJ base l st) fr h/\(mJ base l st).nx=st.nx/\(∀id,id<base->a id=ρ id)/\∀b cs,F b=some cs->F1 b=some cs
 |[],st,F,ρ,hr=>⟨F,ρ,hr,rfl,fun _ _=>rfl,fun _ _ h=>h⟩
 |x::l,st,F,ρ,hr=>by
  obtain⟨F1,a,c,g,d,e⟩:=kS hr base x;obtain⟨F2,ρ2,h4,h5,h0'',h6⟩:=Wc base l c;grind [mJ]
theorem Rf{st:AQ}{fr:Fr}{base:Nat}(hr:Rel B h0 F ρ st fr h)(f:FuncId)(r:Nat)(i:base<=st.nx):
  ∃F1 ρ',Rel B h0 F1 ρ' (NP X f r base st) fr h/\base<=(NP X f r base st).nx/\(∀id,id<base->ρ' id=ρ id)/\∀b cs,F b=some cs->F1 b=some cs:=by
 obtain⟨F1,c,a,g,d,e⟩:=Wc base (X.fz f r) hr;obtain⟨ρ',g1,g2,g3⟩:=gU a base (X.pl f r) ae;grind [NP]
def Ho(B:Nat)(h0:H0)(X:AL)(base n:Nat)(Q:PV->Ob->Prop)(k:DX->AQ->Tr)(F:Fz)(ρ:Ez)(h:H)(nd:Bool)(run:Nat->Nat->Option (List Det.X))(ds:List Nat):Prop:=
 ∃l M,(∀m,M<=m->∀q,M<=q->run m q=some l)/\(nd=false->∃x,l=[x])/\∀x∈l,∃ps,(x.ds=ps++ds/\ps.Nodup/\∀b∈ps,h.nx<=b)/\∃n',n'<=n/\∃a,Ev X Q n' (k x.e a)/\∃F' ρ',Rel B (h0.pins ps) F' ρ' a x.fr x.h/\base<=a.nx/\Le F ρ base F' ρ' base/\h.nx<=x.h.nx
theorem Le.low{F F':Fz}{ρ ρ':Ez}{N N' base:Nat}(a:Le F ρ N F' ρ' N')(b:base<=N):Le F ρ base F' ρ' base:=
 ⟨a.fz,fun id h=>a.rho id ae,zd _⟩
theorem PJ{nd ro:Bool}{d:Nat}{f:FuncId}{base:Nat}{rv:Option Nat}{ct:Bool}(hrv:ro=false->rv=none/\ct=true)(hcall:∀h0,FY B h0 X nd<|Cx X nd d)(hcallD:∀h0,FY B h0 X false<|Cx X false d){Q:PV->Ob->Prop}:∀(n:Nat) (c:Code) {h0:H0} {st:AQ} {k:DX->AQ->Tr} {F:Fz} {ρ:Ez} {fr:Fr} {h:H} (ds:List Nat),base<=st.nx->Rel B h0 F ρ st fr h->
  Ev X Q n (exec X (Cx X nd d) (Cx X false d) nd ro d f base c st k)->Ho B h0 X base n Q k F ρ h nd (fun m q=>BM X.C (Bh X.C m) rv ct q c fr h ds) ds:=by
 intro n;induction n using Nat.strongRecOn with
 |_ n IH=>
 have one:∀ {h0:H0} {e:DX} {st:AQ} {k:DX->AQ->Tr} {F:Fz} {ρ:Ez} {fr:Fr} {h:H} {ds:List Nat} {c:Code},base<=st.nx->Rel B h0 F ρ st fr h->Ev X Q n (k e st)->(∀m q,1<=q->BM X.C (Bh X.C m) rv ct q c fr h ds=some [⟨e,fr,h,ds⟩])->
   Ho B h0 X base n Q k F ρ h nd (fun m q=>BM X.C (Bh X.C m) rv ct q c fr h ds) ds:=by
  intro h0 e st k F ρ fr h ds c A hr v hd;exact⟨[⟨e,fr,h,ds⟩],1,ah,(by simp),fun x J=>by
   cases zc.1 J;exact⟨[],(by simp),n,zd _,st,v,F,ρ,hr,A,zk,zd _⟩⟩
 have D:∀ {q:Nat},1<=q->∃q',q=q'+1:=fun h=>⟨_,(Nat.succ_pred_eq_of_pos h).symm⟩
 have chain:∀ {h0:H0} {F:Fz} {ρ:Ez} {h:H} {ds:List Nat} {k k2:DX->AQ->Tr} {n1:Nat} {run:Nat->Nat->Option (List Det.X)} {run2:Nat->Nat->Det.X->Option (List Det.X)},n1<=n->Ho B h0 X base n1 Q k2 F ρ h nd run ds->
   (∀(x:Det.X) (ps:List Nat),∀n1',n1'<=n1->∀u,Ev X Q n1' (k2 x.e u)->∀F' ρ',Rel B (h0.pins ps) F' ρ' u x.fr x.h->base<=u.nx->Ho B (h0.pins ps) X base n Q k F' ρ' x.h nd (fun m q=>run2 m q x) x.ds)->
   Ho B h0 X base n Q k F ρ h nd (fun m q=>match run m q with|some l=>bl l (run2 m q)|none=>none) ds:=by
  rintro h0 F ρ h ds k k2 n1 run run2 V ⟨l,M,h1,h2,h3⟩ hnext;obtain⟨r,M2,g1,g2,g3⟩:=Kr (f:=run2) (P:=fun x=>∃ps,(x.ds=ps++ds/\ps.Nodup/\∀b∈ps,h.nx<=b)/\∃n',n'<=n/\∃u,Ev X Q n' (k x.e u)/\∃F' ρ',Rel B (h0.pins ps) F' ρ' u x.fr x.h/\base<=u.nx/\Le F ρ base F' ρ' base/\h.nx<=x.h.nx) h2 fun x J=>by
   obtain⟨ps1,⟨k0,kn,kl⟩,n',k1,u,k2',F',ρ',k3,k4,k5,k6⟩:=h3 x J;obtain⟨r,M,j1,j2,j3⟩:=hnext x ps1 n' k1 u k2' F' ρ' k3 k4;refine⟨r,M,j1,j2,fun y hy=>?_⟩;obtain⟨ps2,⟨i0,i0n,i0l⟩,n2,i1,T,i2,F2,R,i3,i4,i5,i6⟩:=j3 y hy;refine⟨ps2++ps1,⟨by grind,?_,fun b A=>?_⟩,n2,i1,T,i2,F2,R,by grind [iH],i4,k5.trans i5,ae⟩
   ·rw[List.nodup_append];refine⟨i0n,kn,fun a ha b A e=>?_⟩;have h1:=i0l a ha;have h2:=k3.sr.lt b _ (k3.sr.pn b<|List.mem_append_left _ A).1;omega
   grind
  exact⟨r,max M M2,ah,g2,g3⟩
 have W:∀ {h0:H0} {F:Fz} {ρ:Ez} {h:H} {ds:List Nat} {k:DX->AQ->Tr} {run run':Nat->Nat->Option (List Det.X)},Ho B h0 X base n Q k F ρ h nd run ds->(∀m q,run' m (q+1)=run m q)->Ho B h0 X base n Q k F ρ h nd run' ds:=by
  rintro h0 F ρ h ds k run run' ⟨l,M,h1,h2,h3⟩ v;refine⟨l,M+1,fun m hm q U=>?_,h2,h3⟩;obtain⟨q',rfl⟩:=D (show 1<=q by omega);grind
 intro c;induction c with
 |skip=>
  intro h0 st k F ρ fr h ds A hr v;exact one A hr v (fun m q U=>by obtain⟨q',rfl⟩:=D U;rfl)
 |label l=>
  intro h0 st k F ρ fr h ds A hr v;exact one A hr v (fun m q U=>by obtain⟨q',rfl⟩:=D U;rfl)
 |exit i=>
  intro h0 st k F ρ fr h ds A hr v;exact one A hr v (fun m q U=>by obtain⟨q',rfl⟩:=D U;rfl)
 |ret=>
  intro h0 st k F ρ fr h ds A hr v;exact one A hr v (fun m q U=>by obtain⟨q',rfl⟩:=D U;rfl)
 |region id ops dr=>
  intro h0 st k F ρ fr h ds A hr v;unfold exec at v;cases dr with
  |true=>
   simp only[we]at v;cases hst:(!ro||IW ops (E7 ops))with
   |false=>grind [Ev.AG]
   |true=>
   rw[hst]at v;simp only[we]at v;have hdd:∀call,(bif ct then I9 X.C call ops fr h else Wy X.C call ops fr h)=I9 X.C call ops fr h:=by
    intro call;cases hro:ro with
    |false=>grind
    |true=>
     rw[hro]at hst;have hst:IW ops (E7 ops)=true:=hst;simp_all [Wy]
   obtain⟨n',hn,u,w,F',ρ',fr',h',I,M,hM⟩:=iY (hcallD h0) hr v;refine⟨[⟨.normal,fr',h',ds⟩],M+1,fun m hm q U=>?_,(by simp),fun x J=>?_⟩
   ·obtain⟨q',rfl⟩:=D (show 1<=q by omega);have:=hM m ae;simp only[BM,we];grind
   ·cases zc.1 J;exact⟨[],(by simp),n',hn,u,w,F',ρ',I.rel,zp A I.le.n,I.le.low A,I.nx⟩
  |false=>
   simp only[wg]at v;obtain⟨r,M,hM,hone,hall⟩:=XM (hcall h0) hr v;refine⟨r.map fun x=>⟨.normal,x.1,x.2,ds⟩,M+1,fun m hm q U=>?_,fun e=>?_,fun x J=>?_⟩
   ·obtain⟨q',rfl⟩:=D (show 1<=q by omega);simp only[BM,wg,hM m ae]
   ·obtain⟨y,rfl⟩:=hone e;simp
   ·obtain⟨y,hy,rfl⟩:=yf.1 J;obtain⟨n',hn,u,w,F',ρ',I⟩:=hall y hy;exact⟨[],(by simp),n',hn,u,w,F',ρ',I.rel,zp A I.le.n,I.le.low A,I.nx⟩
 |seq a b iha ihb=>
  intro h0 st k F ρ fr h ds A hr v;unfold exec at v;refine W (chain (run2:=fun m q x=>match x.e with| .normal=>BM X.C (Bh X.C m) rv ct q b x.fr x.h x.ds|_=>some [x]) ae (iha ds A hr v) fun x ps1 n1 V u w F' ρ' K Y=>?_)<|fun m q=>rfl;obtain⟨e,S,h1,E⟩:=x;cases e with
  |normal=>
   have rest:∀ {T:AQ} {F2:Fz} {R:Ez} {n2:Nat},n2<=n->Rel B (h0.pins ps1) F2 R T S h1->base<=T.nx->(∀id,id<base->R id=ρ' id)->(∀b cs,F' b=some cs->F2 b=some cs)->Ev X Q n2 (exec X (Cx X nd d) (Cx X false d) nd ro d f base b T k)->
     Ho B (h0.pins ps1) X base n Q k F' ρ' h1 nd (fun m q=>BM X.C (Bh X.C m) rv ct q b S h1 E) E:=by
    intro T F2 R n2 hn2 hr2 hb2 hρ2 hF2 G;have hl0:Le F' ρ' base F2 R base:=⟨hF2,ah,zd _⟩;have hc:Ho B (h0.pins ps1) X base n Q k F2 R h1 nd (fun m q=>BM X.C (Bh X.C m) rv ct q b S h1 E) E:=by
     by_cases hlt:n2<n
     ·obtain⟨l,M,h1,h2,h3⟩:=IH n2 hlt b E hb2 hr2 G;exact⟨l,M,h1,h2,ah⟩
     grind
    obtain⟨l,M,h1,h2,h3⟩:=hc;exact⟨l,M,h1,h2,fun x J=>by
     obtain⟨ps,k0,n3,k1,st3,k2,F3,ρ3,k3,k4,k5,k6⟩:=h3 x J;exact⟨ps,k0,n3,k1,st3,k2,F3,ρ3,k3,k4,hl0.trans k5,k6⟩⟩
   simp only at w;cases hct:X.ct f (BP b)with
   |false=>grind
   |true=>
    rw[hct]at w;simp only[we]at w;cases w with
    |cut w=>
     obtain⟨F2,ρ0,hr0,hb0,hρ0,hF⟩:=Rf K f (BP b) Y;exact rest V hr0 hb0 hρ0 hF w
  |exit i=>exact⟨[⟨.exit i,S,h1,E⟩],0,(by simp),(by simp),fun x J=>by cases zc.1 J;exact⟨[],(by simp),n1,V,u,w,F',ρ',K,Y,zk,zd _⟩⟩
  |ret=>exact⟨[⟨.ret,S,h1,E⟩],0,(by simp),(by simp),fun x J=>by cases zc.1 J;exact⟨[],(by simp),n1,V,u,w,F',ρ',K,Y,zk,zd _⟩⟩
 |cond x a b iha ihb=>
  intro h0 st k F ρ fr h ds A hr v;unfold exec at v;have go:∀ {t:Bool} {u:AQ},ev X.C fr x=some (.bool t)->Rel B h0 F ρ u fr h->base<=u.nx->Ev X Q n (bif t then exec X (Cx X nd d) (Cx X false d) nd ro d f base a u k else exec X (Cx X nd d) (Cx X false d) nd ro d f base b u k)->Ho B h0 X base n Q k F ρ h nd (fun m q=>BM X.C (Bh X.C m) rv ct q (.cond x a b) fr h ds) ds:=by
   grind [BM]
  split at v
  case h_4=>grind [Ev.AG]
  case h_3=>
   rename_i ht;obtain⟨y,g1,g2⟩:=Cp (C:=X.C) hr.fp ht;simp only[PR]at g2;obtain⟨t,rfl⟩:=g2;split at v
   case h_2=>grind [Ev.AG]
   rename_i s;have hs:fr.get s=.bool t:=by simpa [ev]using g1
   obtain⟨w,G⟩:=v.WJ;cases t with
   |true=>exact go g1 (hr.note<|by rw[hs];rfl) A w
   |false=>exact go g1 (hr.note<|by rw[hs];rfl) A G
  case h_1=>
   rename_i t ht;obtain⟨y,g1,g2⟩:=Cp (C:=X.C) hr.fp ht;obtain rfl:=Rw g2;grind
  case h_2=>
   rename_i t ht;obtain⟨y,g1,g2⟩:=Cp (C:=X.C) hr.fp ht;obtain rfl:=MO g2;split at v
   case h_1=>
    rename_i s;have hs:fr.get s=.bool t:=by simpa [ev]using g1
    rcases v.Fe with⟨L,G⟩|⟨L,G⟩
    ·have L:t=true:=L;subst L;exact go g1 (hr.note<|by rw[hs];rfl) A G
    ·have L:t=false:=L;subst L;exact go g1 (hr.note<|by rw[hs];rfl) A G
   case h_2=>
    rcases v.Fe with⟨L,G⟩|⟨L,G⟩
    ·grind
    grind
 |block id b ih=>
  intro h0 st k F ρ fr h ds A hr v;unfold exec at v;obtain⟨l,M,h1,h2,h3⟩:=ih ds A hr v;refine⟨l.map fun x=>match x.e with
    | .exit i=>bif zf i id then { x with e:=.normal }else x
    |_=>x,M+1,fun m hm q U=>?_,fun e=>?_,fun y hy=>?_⟩
  ·obtain⟨q',rfl⟩:=D (show 1<=q by omega);grind [BM]
  ·grind
  grind
 |loop b ih=>
  intro h0 st k F ρ fr h ds A hr v;unfold exec at v;cases v with
  |@loop n0 _ _ _ _ _ _ _ _ v=>
  obtain⟨F0,ρ0,hr0,hb0,hρ0,hF0⟩:=Rf hr f (BP b) A;have hl0:Le F ρ base F0 ρ0 base:=⟨hF0,ah,zd _⟩;unfold body at v;have hbody:=IH n0 (Nat.lt_succ_self _) b ds hb0 hr0 v;have hch:Ho B h0 X base (n0+1) Q k F0 ρ0 h nd (fun m q=>match BM X.C (Bh X.C m) rv ct q b fr h ds with|some l=>bl l (fun x=>match x.e with| .normal=>BM X.C (Bh X.C m) rv ct q (.loop b) x.fr x.h x.ds|_=>some [x])|none=>none) ds:=by
   refine chain (run2:=fun m q x=>match x.e with| .normal=>BM X.C (Bh X.C m) rv ct q (.loop b) x.fr x.h x.ds|_=>some [x]) ae hbody fun x ps1 n1 V u w F' ρ' K Y=>?_
   obtain⟨e,S,h1,E⟩:=x;cases e with
   |normal=>
    have he1':Ev X Q n1 (exec X (Cx X nd d) (Cx X false d) nd ro d f base (.loop b) u k):=by unfold exec;exact w
    obtain⟨l,M,h1,h2,h3⟩:=IH n1 ae (.loop b) E Y K he1';exact⟨l,M,h1,h2,ah⟩
   |exit i=>exact⟨[⟨.exit i,S,h1,E⟩],0,(by simp),(by simp),fun x J=>by cases zc.1 J;exact⟨[],(by simp),n1,by omega,u,w,F',ρ',K,Y,zk,zd _⟩⟩
   |ret=>exact⟨[⟨.ret,S,h1,E⟩],0,(by simp),(by simp),fun x J=>by cases zc.1 J;exact⟨[],(by simp),n1,by omega,u,w,F',ρ',K,Y,zk,zd _⟩⟩
  obtain⟨l,M,g1,g2,g3⟩:=W (run':=fun m q=>BM X.C (Bh X.C m) rv ct q (.loop b) fr h ds) hch<|fun m q=>rfl;refine⟨l,M,g1,g2,fun x J=>?_⟩;obtain⟨ps,k0,n2,k1,T,k2,F2,R,k3,k4,k5,k6⟩:=g3 x J;exact⟨ps,k0,n2,k1,T,k2,F2,R,k3,k4,hl0.trans k5,k6⟩
 |scope b ih=>
  intro h0 st k F ρ fr h ds A hr v;unfold exec at v;exact W (ih ds A hr v)<|fun m q=>rfl
 |rangeFunc g ps a b _ _=>
  intro h0 st k F ρ fr h ds A hr v;unfold exec at v;cases hro:ro with
  |true=>grind [Ev.AG]
  |false=>
  rw[hro]at v;obtain⟨rfl,rfl⟩:=hrv hro;simp only[wg]at v;split at v
  case h_2=>grind [Ev.AG]
  rename_i gf first cap hg
  obtain⟨pq,hprim⟩:∃pq,X.C.prim gf=pq:=⟨_,rfl⟩;cases pq with
  |some q0=>grind [Ev.AG]
  |none=>
  rw[hprim]at v;simp only[Option.isSome_none,wg]at v;obtain⟨gv,g1,g2⟩:=Cp (C:=X.C) hr.fp hg;simp only[PR]at g2;obtain⟨fa,fb,rfl,f1,f2⟩:=g2;have K:=hr.sr.mark;have hr2:=K.push (o:=.lp f (BP b) ps a b .ready st.n<|LI X f (BP b) st) (x:=.loop ⟨.ready,none,fr,ps,a,b,h.nx⟩) (n:=0) rfl
   ⟨_,rfl,rfl,rfl,rfl,⟨rfl,rfl⟩,hr.fp.n.symm,fun t=>by
    have hl:=Le.new (F:=F) (ρ:=ρ) (N:=st.nx) ((h.push<|.defd true).nx,0);unfold Qn LI;cases hp:(Fj<|(X.pl f<|BP b).map fun t=>(t,st.get t)).get t with
    |none=>simp[PR]
    |some p=>
     rcases G4 _ .leaf t p hp with h1|h1
     ·simp only[yf]at h1;obtain⟨s,_,h2⟩:=h1;cases h2;exact(hr.fp.slot _).mono hl
     ·simp at h1⟩
  have hle2:Le F ρ st.nx F (BC ρ st.nx<|some (h.nx+1,0)) (st.nx+1):=Le.new _;have hrel2:Rel B (h0.pins [h.nx]) F (BC ρ st.nx<|some (h.nx+1,0)) (st.push<|.lp f (BP b) ps a b .ready st.n<|LI X f (BP b) st) fr ((h.push<|.defd true).push<|.loop ⟨.ready,none,fr,ps,a,b,h.nx⟩):=
   ⟨⟨hr.fp.n,fun t=>(hr.fp.slot t).mono hle2⟩,hr2⟩
  have hargs:BT F (BC ρ st.nx<|some (h.nx+1,0)) (st.push<|.lp f (BP b) ps a b .ready st.n<|LI X f (BP b) st).nx (first++[.yl st.nx]++cap) (fa++[.yld<|h.nx+1]++fb):=by
   refine((f1.mono hle2).append ?_).append<|f2.mono hle2;simp only[BY,D8,vf,PR];exact⟨ae,(by grind [BC])⟩
  obtain⟨l,hcd,hone,hall⟩:=hcall _ v hrel2 hargs;obtain⟨i,M,hfn,hM⟩:∃i M,X.C.fn gf=some i/\∀m,M<=m->Bh X.C m (.fn gf<|fa++[.yld<|h.nx+1]++fb) ((h.push<|.defd true).push<|.loop ⟨.ready,none,fr,ps,a,b,h.nx⟩)=some l:=by
   cases hcd with
   |Bh hc hM=>obtain⟨rfl,_,i,hfn⟩:=hc;exact⟨i,_,hfn,hM⟩
   |prim U _=>grind
  have hdc:IT X.C ((h.push<|.defd true).push<|.loop ⟨.ready,none,fr,ps,a,b,h.nx⟩) (.fn (.func gf) fa fb) [.yld<|h.nx+1]=some (.enter gf<|fa++[.yld<|h.nx+1]++fb):=by
   grind [IT]
  have fin:∀x∈l,∃(r:List Det.X) (M:Nat),(∀m:Nat,M<=m->∀q:Nat,M<=q->(match x.2.get (h.nx+1)with
      |some (.loop ls)=>match ls.st,ls.pend with
       | .busy,_=>none
       |_,none=>some [⟨.normal,fr,x.2.put (h.nx+1)<|.loop { ls with st:=.exhausted },h.nx::ds⟩]
       |_,some c=>BM X.C (Bh X.C m) none false q c fr (x.2.put (h.nx+1)<|.loop { ls with st:=.exhausted }) (h.nx::ds)
      |_=>none)=some r)/\(nd=false->∃x,r=[x])/\∀y∈r,∃ps,(y.ds=ps++ds/\ps.Nodup/\∀b∈ps,h.nx<=b)/\∃n',n'<=n/\∃u,Ev X Q n' (k y.e u)/\∃F' ρ',Rel B (h0.pins ps) F' ρ' u y.fr y.h/\base<=u.nx/\Le F ρ base F' ρ' base/\h.nx<=y.h.nx:=by
   intro x J;obtain⟨n1,V,r,st',w,F',ρ',_,I,_⟩:=hall x J;split at w
   case h_2=>grind [Ev.AG]
   rename_i f' r' ps' asg' body' s n' sl hob;obtain⟨bb,nn,y,k1,k2,⟨ls,rfl,-,-,-,hlp,-⟩,-⟩:=I.rel.sr.at hob;have hN:st.nx<st.nx+1:=ae;have kk:BC ρ st.nx (some (h.nx+1,0)) st.nx=some (bb,nn):=I.le.at hN k1;simp only[BC,wm,zh,zn]at kk;obtain⟨rfl,rfl⟩:=kk;have hpin:∀p∈(h0.pins [h.nx]).pin,h.nx+1≠p:=fun p hp e=>(I.rel.sr.pn p hp).2.2 _ _<|e▸k1
   have hdel:=I.rel.sr.del st.nx;have hput:∀z:O,Rel B (h0.pins [h.nx]) F' (BC ρ' st.nx none) (st'.GF st.nx) fr (x.2.put (h.nx+1) z):=by
    intro z;have hl:Le F' ρ' st'.nx F' (BC ρ' st.nx none) st'.nx:=Le.Kp _;refine⟨⟨I.rel.fp.n,fun t=>(I.rel.fp.slot t).mono hl⟩,?_⟩;refine hdel.cP (fun id o m ho e=>?_) ?_ (I.rel.sr.own _ _ _ k1).2 (fun hp=>hpin _ hp rfl) k2
    ·rw[DO]at ho;split at ho
     ·cases ho
     ·rename_i hne;simp only[BC,hne,vg]at e;exact hne<|I.rel.sr.inj id st.nx o _ _ m 0 ho hob e k1
    ·cases hF:F' (h.nx+1)with
     |none=>rfl
     |some cs=>obtain⟨t,fz,g⟩:=I.rel.sr.frz _ cs hF;rw[k2]at g;cases g
   have hbase:base<=(st'.GF st.nx).nx:=zp A<|zp (Nat.le_succ _) I.le.n;have hLe:Le F ρ base F' (BC ρ' st.nx none) base:=by
    refine(hle2.low A).trans<|(I.le.low<|zp A<|Nat.le_succ _).trans ?_;exact(Le.Kp (F:=F') (ρ:=ρ') (N:=base) st.nx)
   have hnx:h.nx<=x.2.nx:=zp (by show h.nx<=h.nx+1+1;omega) I.nx;have done:∀ {e:DX} {z:O},Ev X Q n1 (k e<|st'.GF st.nx)->∃ps,((⟨e,fr,x.2.put (h.nx+1) z,h.nx::ds⟩:Det.X).ds=ps++ds/\ps.Nodup/\∀b∈ps,h.nx<=b)/\∃n',n'<=n/\∃u,Ev X Q n' (k e u)/\∃F' ρ',Rel B (h0.pins ps) F' ρ' u fr (x.2.put (h.nx+1) z)/\base<=u.nx/\Le F ρ base F' ρ' base/\h.nx<=(x.2.put (h.nx+1) z).nx:=by
    intro e z G;exact⟨[h.nx],⟨rfl,(by simp),fun b A=>by cases zc.1 A;exact zd _⟩,n1,V,_,G,F',_,hput z,hbase,hLe,hnx⟩
   obtain⟨lst,lpend,lfr,lps,lasg,Z,ldb⟩:=ls;simp only at hlp;split at w
   case h_1=>
    obtain⟨rfl,rfl⟩:=hlp;exact⟨[⟨.normal,fr,x.2.put (h.nx+1)<|.loop ⟨.exhausted,none,lfr,lps,lasg,Z,ldb⟩,h.nx::ds⟩],0,fun m _ q _=>(by simp only[k2]),fun _=>⟨_,rfl⟩,fun y hy=>by cases zc.1 hy;exact done w⟩
   case h_2=>
    obtain⟨rfl,rfl⟩:=hlp;exact⟨[⟨.ret,fr,x.2.put (h.nx+1)<|.loop ⟨.exhausted,some .ret,lfr,lps,lasg,Z,ldb⟩,h.nx::ds⟩],1,fun m _ q U=>(by obtain⟨q',rfl⟩:=D U;simp only[k2,BM]),fun _=>⟨_,rfl⟩,fun y hy=>by cases zc.1 hy;exact done w⟩
   case h_3=>
    rename_i j;obtain⟨rfl,rfl⟩:=hlp;exact⟨[⟨.exit j,fr,x.2.put (h.nx+1)<|.loop ⟨.exhausted,some<|.exit j,lfr,lps,lasg,Z,ldb⟩,h.nx::ds⟩],1,fun m _ q U=>(by obtain⟨q',rfl⟩:=D U;simp only[k2,BM]),fun _=>⟨_,rfl⟩,fun y hy=>by cases zc.1 hy;exact done w⟩
   case h_4=>exact wh w Ev.AG
  obtain⟨r,M2,j1,j2,j3⟩:=Kr hone fin;refine⟨r,max M M2+1,fun m hm q U=>?_,j2,j3⟩;obtain⟨q',rfl⟩:=D (show 1<=q by omega);have h1:=hM m ae;have h2:=j1 m ae q' ae;simp only[BM,Vk,g1];show(match IT X.C ((h.push<|.defd true).push<|.loop ⟨.ready,none,fr,ps,a,b,h.nx⟩) (.fn (.func gf) fa fb) [.yld<|h.nx+1]with|some (.enter f args)=>_|_=>none)=_;rw[hdc];simp only[h1];exact h2
 |goto l=>intro h0 st k F ρ fr h ds A hr v;exact wh v Ev.AG
 |refuse s=>intro h0 st k F ρ fr h ds A hr v;exact wh v Ev.AG
end
end Go.Pe
