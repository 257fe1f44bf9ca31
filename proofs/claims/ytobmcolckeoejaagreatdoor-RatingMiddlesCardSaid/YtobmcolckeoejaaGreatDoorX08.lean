import Derived.Test.YtobmcolckeoejaaGreatDoorX07
/- A part of a proof; no law is stated here. -/
noncomputable section
open List renaming mem_singleton -> zc, take_of_length_le -> zr, replicate -> zt, drop_eq_getElem_cons -> zw, getElem?_eq_some_iff -> zx, length_eq_zero_iff -> z6, drop_zero -> ya, all_cons -> yd, mem_map -> yf
open Nat renaming le_refl -> zd, beq -> zf, eq_of_beq_eq_true -> zg, ble -> zi, blt -> zl, mul_le_mul_right -> zm, le_trans -> zp, le_of_ble_eq_true -> zu, zero_mul -> z7, add_mul -> yb
open Bool renaming and_eq_true -> ze, and_true -> zy
open Option.some renaming injEq -> zh
open Option renaming map_eq_some_iff -> zj, getD_some -> zz, map_some -> z8
open Go.Pe.Le renaming refl -> zk
open Prod.mk renaming injEq -> zn
open Go.Pe.OK renaming pure -> zo
open List.cons renaming injEq -> zq
open Go.Pe renaming apart -> yc, B1 -> yg
open Go.Det.V renaming beq -> ye
namespace Go.Pe
open Go.Det
section
variable {B:Nat}{h0:H0}{F:Fz}{ρ:Ec}{N:Nat}{C:Ctx}{st st':AN}{fr:Fr}{h h':H}
theorem SR.mF{ob:Ob}(hr:SR B h0 F ρ N ob h){o:Obj}{x:O}{b n:Nat}(Y:h.get b=some x)(l:∀id o m,AS ob id=some o->ρ id≠some (b,m))(U:F b=none)(L:h0.dY B b)(W:b∉h0.pin)(M:o.frozen=false)
  (R:Yc F (Bu ρ N<|some (b,n)) (N+1) n o x):SR B h0 F (Bu ρ N<|some (b,n)) (N+1) ((N,o)::ob) h:=by
 have w:Le F ρ N F (Bu ρ N<|some (b,n)) (N+1):=Le.new _;have a:∀j,AS ((N,o)::ob) j=if j=N then some o else AS ob j:=by
  simp only[AS,Bn];grind
 refine⟨fun j oj d=>?_,fun i j oi oj c m u v d g p=>?_,hr.frz,fun id c m q=>?_,fun j d=>?_,hr.old,hr.lt,hr.le,hr.fo,hr.gl,fun c z=>?_⟩
 ·rw[a]at d;by_cases e:j=N
  ·grind [Bu]
  ·rw[wc e]at d;obtain⟨c,m,y,g,p,A,I⟩:=hr.obj j oj d;exact⟨c,m,y,by simp[Bu,e,g],p,A.mono w,I⟩
 ·rw[a]at v d;have key:∀k ok m,(if k=N then some o else AS ob k)=some ok->Bu ρ N (some (b,n)) k=some (c,m)->(k=N/\c=b)\/(k≠N/\AS ob k=some ok/\ρ k=some (c,m)/\c≠b):=by
   intro k ok m K r;by_cases e:k=N
   ·simp_all [Bu]
   ·simp only[Bu,e,vf]at r;grind
  rcases key i oi m v g with⟨G,s⟩|⟨G,s,D,Z⟩<;>rcases key j oj u d p with⟨J,t⟩|⟨J,t,E,S⟩
  ·omega
  ·omega
  ·omega
  ·exact hr.inj i j oi oj c m u s t D E
 ·unfold Bu at q;split at q
  ·grind
  ·have:=hr.own id c m q;grind
 ·rw[a]at d;by_cases e:j=N
  ·grind
  ·rw[wc e]at d;simp[Bu,e,hr.dead j d]
 ·obtain⟨V,T,P⟩:=hr.pn c z;grind [Bu]
theorem O5{off:Nat}{cs:List V}(h:off<=cs.length):CA off [] cs=cs:=by
 apply List.ext_getElem?;simp_all [Hg,wc]
theorem Vr{off:Nat}{vs cs:List V}(h:off+vs.length<=cs.length):CA off vs cs=cs.take off++(vs++cs.drop (off+vs.length)):=by
 apply List.ext_getElem?;intro j;rw[Hg h];grind
theorem Dr.uK{s:Sh}{l new:List s.T}{cs b:List V}{a:Nat}(h:Dr F s l cs)(d:Dr F s new b)(g:a+new.length<=l.length):
  Dr F s (l.take a++(new++l.drop (a+new.length))) (CA (a*s.sz) b cs):=by
 have k:=h.1;have j:=d.1;have i:(a+new.length)*s.sz<=l.length*s.sz:=zm _ g;rw[Vr ah];have c:=h.part (off:=0) (len:=a) ae;have e:=h.part (off:=a+new.length) (len:=l.length-(a+new.length)) ae;rw[z7,ya,ya]at c;rw[zr (by simp),zr<|by simp_all [Nat.sub_mul]]at e;rw[j, <-yb];exact c.append<|d.append e
def FJ:List PV->List Nat
 | .sl id _ _ _ _::_=>[id]
 |_=>[]
theorem dD{s b:Sh}{x:b.T}{c:Bool}{l:List s.T}(d:Ps st s (.dat b x)=some (c,l)):c=true:=by
 unfold Ps at d;cases b with
 |list a=>
  grind [zj,Ib,lz]
 |nlist a=>
  grind [zj,Ib,lz]
 |str=>
  grind [zj,Ib,lz]
 |_=>cases d
theorem rT(hr:SR B h0 F ρ st.nx st.ob h){ts:Array TypeId}{ps:List PV}{xs:List V}(M:BE F ρ st.nx ps xs){v:PV}(d:(Ts C.T ts ps st).To v st'):OK B h0 F ρ st h (FJ ps) (Fu<|GX C.T h ts xs) v st':=by
 unfold Ts at d;split at d
 case h_2=>simp at d
 rename_i t tx p q hts htx;simp only[BE]at M;obtain⟨x,_,rfl,M,y,_,rfl,hy,rfl⟩:=M;split at d
 case h_2=>simp at d
 rename_i e ex hu hux;have hss:Tg ex=true:=by
  cases hq:Tg ex with
  |true=>rfl
  |false=>simp_all
 rw[hss]at d;simp only[we]at d;split at d
 case h_2=>simp at d
 rename_i i s hi hs;cases hc:(zl 0 i.bytes&&zl 0 i.size&&zf i.zero.length i.size&&zf i.size s.sz)with
 |false=>simp_all
 |true=>
  rw[hc]at d;simp only[ze]at hc;obtain⟨⟨⟨c1,c2⟩,c3⟩,c4⟩:=hc;have e4:=zg c4;simp only[we]at d;split at d
  case h_2=>simp at d
  rename_i c new hel;have head:c=true->∃cs,src h i.size y new.length=some cs/\Dr F s new cs/\GX C.T h ts [x,y]=(match x with
      | .nils=>bif zf new.length 0 then some (.nils,h)
       else bif zi ((3*new.length+2000)*i.bytes) 562949953421312 then some (.sl h.nx 0 new.length new.length i.size,II h e cs)else none
      | .es0=>bif zf new.length 0 then some (.es0,h)
       else bif zi ((3*new.length+2000)*i.bytes) 562949953421312 then some (.sl h.nx 0 new.length new.length i.size,II h e cs)else none
      | .esl=>bif zf new.length 0 then some (.esl,h)else none
      | .sl b off len cap o=>
       bif zi (len+new.length) cap then(wr h b (off+len*i.size) cs).map fun h'=>(.sl b off (len+new.length) cap o,h')
       else bif zi ((3*(len+new.length)+2000)*i.bytes) 562949953421312 then
        match src h i.size x len with
        |some old=>
         bif zf o 0 then some (.sl h.nx 0 (len+new.length) (len+new.length) i.size,II h e<|old++cs)
         else
          match h.get b with
          |some (.cells _ te fz)=>
           bif zf off 0&&zf o i.size&&zf te e&&zi fz.2 fz.1&&cs.all V.one then some (.sl h.nx 0 (len+new.length) (len+new.length) i.size,(h.kill b).push<|.cells (old++cs) e (0,0))
           else none
          |_=>none
        |none=>none
       else none
      |_=>none):=by
   intro hc;obtain⟨g1,L,cs,G,g4⟩:=eI hr hy hel hc;rw[<-e4]at G;refine⟨cs,G,g4,?_⟩;have W:(zl 0 i.bytes&&zl 0 i.size&&zf i.zero.length i.size&&(zf i.size 1||PS y))=true:=by
    grind
   have hint:isInt ex=false:=by cases ex<;>first|rfl|cases hss
   simp only[GX,hts,htx,hu,hux,g1,hi,hint,W,we,G];cases x<;>rfl
  split at d
  case h_3=>simp at d
  case h_1=>
   simp only[PR]at M;subst M;have grow:c=true->0<new.length->(3*new.length+2000)*i.bytes<=jY->OK B h0 F ρ st h (FJ [PV.nil,q]) (Fu<|GX C.T h ts [.nils,y]) (.sl st.nx s.sz 0 new.length none) (st.push<|.arr false e s new):=by
    intro k1 k2 k3;obtain⟨cs,g1,L,G⟩:=head k1;have P:zf new.length 0=false:=by grind [Bn]
    have b2:zi ((3*new.length+2000)*i.bytes) 562949953421312=true:=Nat.ble_eq_true_of_le k3;rw[G];simp only[P,b2,wg,we];exact OK.new hr (o:=.arr false e s new) (n:=new.length) rfl ⟨_,_,rfl,L,zd _,rfl⟩ (Py<|.inr e4)
   have same:c=true->new.length=0->OK B h0 F ρ st h (FJ [PV.nil,q]) (Fu<|GX C.T h ts [.nils,y]) .nil st:=by
    intro k1 k2;obtain⟨cs,g1,L,G⟩:=head k1;have P:zf new.length 0=true:=by rw[k2];rfl
    rw[G];simp only[P,we];exact⟨.nils,h,F,ρ,.inl rfl,by simp[PR],hr,zk,rfl,rfl,zd _,(by simp)⟩
   split at d
   case h_1=>
    simp_all [Ps,Ib,lz]
   case h_2=>
    have hc':c=true:=by
     exact dD hel
    by_cases hn:0<new.length
    ·rw[w4 hn]at d;cases d with
     |tt d=>
      simp_all
    ·rw[w8 hn]at d;cases d with
     |ff d=>
      simp_all
   case h_3=>
    by_cases hn:0<new.length
    ·rw[w4 hn]at d;cases d with
     |tt d=>
      simp_all
    ·rw[w8 hn]at d;cases d with
     |ff d=>
      simp_all
   simp_all
  case h_2=>
   rename_i id sz off len cap;split at d
   case h_2=>simp at d
   rename_i e' r l ho;split at d
   case h_2=>simp at d
   rename_i l' hl';obtain⟨ecast,hcast⟩:=CG hl';have es:r=s:=ah
   subst es;have:l'=l:=ah
   subst this;cases O:(zf e e'&&zf sz r.sz)with
   |false=>simp_all
   |true=>
    rw[O]at d;simp only[ze]at O;have ee:=zg O.1;have esz:=zg O.2;subst ee;subst esz;simp only[we]at d;split at d
    case h_2=>
     rename_i k;simp only[Cg,ze,w5]at d;obtain⟨⟨⟨k1,k2⟩,k3⟩,rfl,rfl⟩:=d;obtain⟨cs,g1,L,G⟩:=head k1;obtain⟨b,n,z,h1,h2,⟨bs,fz,rfl,h3,h4,h5⟩,h6,_⟩:=hr.at ho;simp only[PR]at M;rw[G];have hone:cs.all V.one=true:=L.VH;have hcl:cs.length=new.length*r.sz:=L.1;have hbl:=h3.1;have hle:(off+len+new.length)*r.sz<=l'.length*r.sz:=zm _ ae;have hexp:(off+len+new.length)*r.sz=off*r.sz+len*r.sz+new.length*r.sz:=ah
     have hsp:=Dr.uK h3 L (a:=off+len) ae;have D:(l'.take (off+len)++(new++l'.drop (off+len+new.length))).length=l'.length:=by simp;omega
     rcases M.2 b n h1 with⟨_,g6,o,g5,rfl⟩|⟨e0,ek,g6,g7⟩
     ·simp only[zz]at g6;have hw:wr h b (off*r.sz+len*i.size) cs=some (h.put b<|.cells (CA ((off+len)*r.sz) cs bs) e fz):=by
       grind [NR,yb]
      have P:zi (len+new.length) k=true:=(by simp_all);refine⟨.sl b (off*r.sz) (len+new.length) k o,h.put b<|.cells (CA ((off+len)*r.sz) cs bs) e fz,F,ρ,.inl ?_,?_,hr.set ho h1 h2 rfl rfl (o':=.arr false e r _) ⟨_,fz,rfl,hsp,h4,D.trans h5⟩,zk,rfl,rfl,zd _,fun c _=>?_⟩
      ·simp only[zz,P,we,hw,z8,Fu]
      ·simp only[PR];refine⟨M.1,fun b' n' hb'=>.inl ?_⟩;grind
      ·rw[H.B3];by_cases e:c=b
       ·grind [FJ]
       grind
     ·cases ek;subst e0;have hn0:new.length=0:=ae
      have R:new=[]:=ah;subst R;have Z:cs=[]:=(by grind [z6]);subst Z;have hlp:CA ((off+0)*r.sz) [] bs=bs:=(by grind [O5]);have U:∀c,(h.put b<|.cells (CA ((off+0)*r.sz) [] bs) e fz).get c=h.get c:=by
       intro c;rw[hlp,H.B3];grind
      have hset:=hr.set ho h1 h2 rfl rfl (o':=.arr false e r _) (x':=.cells (CA ((off+0)*r.sz) [] bs) e fz) ⟨_,fz,rfl,hsp,h4,D.trans h5⟩;have I:SR B h0 F ρ st.nx (D5 st.ob id<|.arr false e r<|l'.take (off+0)++([]++l'.drop (off+0+0))) h:=
       SR.congr (st:=⟨st.n,st.fr,D5 st.ob id _,st.nx⟩) hset ah rfl
      have hpr:∀w,(w=.esl\/∃A,w=.sl b A 0 0 0/\A<=off*r.sz)->PR F ρ st.nx (.sl id r.sz off (Nat.add 0 0)<|some 0) w:=by
       grind [PR]
      rcases g7 with rfl|⟨A,rfl,Y⟩
      ·exact⟨.esl,h,F,ρ,.inl rfl,hpr _<|.inl rfl,I,zk,rfl,rfl,zd _,(by simp)⟩
      ·have hob:A<=bs.length:=by
        omega
       have hw:wr h b (A+0*i.size) []=some (h.put b<|.cells (CA (A+0*i.size) [] bs) e fz):=NR h2 ae h4 rfl;have hput2:∀c,(h.put b<|.cells (CA (A+0*i.size) [] bs) e fz).get c=h.get c:=by
        simp_all [O5]
       refine⟨.sl b A 0 0 0,h.put b<|.cells (CA (A+0*i.size) [] bs) e fz,F,ρ,.inl ?_,hpr _<|.inr ⟨A,rfl,Y⟩,SR.congr (st:=⟨st.n,st.fr,D5 st.ob id _,st.nx⟩) I hput2 rfl,zk,rfl,rfl,zd _,ah⟩;simp_all [zi,Fu]
    simp only[Cg,ze,w5]at d;obtain⟨⟨⟨⟨k1,k2⟩,k3⟩,k4⟩,rfl,rfl⟩:=d;subst k2;obtain⟨cs,g1,L,G⟩:=head k1;obtain⟨b,n,z,h1,h2,⟨bs,fz,rfl,h3,h4,h5⟩,h6,_⟩:=hr.at ho;have hFb:=h6 rfl;simp only[PR]at M;have hB:=(hr.own id b n h1).2;have hPb:b∉h0.pin:=fun hp=>(hr.pn b hp).2.2 id n h1
    have hidN:=ae;obtain⟨_,_,o,g5,rfl⟩:len<=len/\0+len<=n/\∃o,(o=0\/o=r.sz)/\x=.sl b (0*r.sz) len len o:=by
     rcases M.2 b n h1 with g|⟨_,e,_⟩
     ·exact g
     grind
    have hbl:bs.length=len*i.size:=by rw[h3.1,k3,e4]
    have J:∀j oj m,AS (GV st.ob id) j=some oj->Bu ρ id none j≠some (b,m):=by
     intro j oj m hj hjr;rw[Du]at hj;split at hj
     ·cases hj
     ·rename_i hne;simp only[Bu,hne,vf]at hjr;exact hne<|hr.inj j id oj _ b m n hj ho hjr h1
    have K:=hr.del id;have S:Le F ρ st.nx F (Bu ρ id none) st.nx:=Le.Ju id;have hnew:Dr F r (l'++new) (bs++cs):=h3.append L;have D:(l'++new).length=len+new.length:=ah
    have hone:cs.all V.one=true:=L.VH;rw[G];simp only;by_cases hn:new.length=0
    ·
     have R:new=[]:=ah;have Z:cs=[]:=z6.1 (by rw[L.1,hn,z7]);subst Z;have P:zi (len+new.length) len=true:=(by simp_all);have hw:wr h b (0*r.sz+len*i.size) []=some (h.put b<|.cells (CA (0*r.sz+len*i.size) [] bs) e fz):=NR h2 ah h4 rfl;have U:∀c,(h.put b<|.cells (CA (0*r.sz+len*i.size) [] bs) e fz).get c=h.get c:=by
      simp_all [O5]
     refine⟨.sl b (0*r.sz) (len+new.length) len o,h.put b<|.cells (CA (0*r.sz+len*i.size) [] bs) e fz,F,Bu (Bu ρ id none) st.nx<|some (b,n),.inl ?_,?_,?_,S.trans<|Le.new _,rfl,rfl,zd _,ah⟩
     ·simp only[P,we,hw,z8,Fu]
     ·unfold PR;refine⟨Nat.lt_succ_self _,fun b' n' hb=>.inl ?_⟩;simp_all [Bu]
     ·refine SR.mF (ob:=GV st.ob id) ?_ (x:=.cells bs e fz) ah J hFb hB hPb rfl ⟨bs,fz,rfl,?_,h4,?_⟩
      ·exact SR.congr (st:=⟨st.n,st.fr,GV st.ob id,st.nx⟩) K U rfl
      ·grind
      omega
    ·
     have P:zi (len+new.length) len=false:=by
      cases hb:zi (len+new.length) len with
      |false=>rfl
      |true=>have:=zu hb;omega
     have b2:zi ((3*(len+new.length)+2000)*i.bytes) 562949953421312=true:=Nat.ble_eq_true_of_le k4;have hsrc:src h i.size (.sl b (0*r.sz) len len o) len=some bs:=by
      show rd h b (0*r.sz) (len*i.size)=_;rw[rd_some h2 ae<|fun u hu=>h3.ok u ah];grind
     simp only[P,b2,wg,we,hsrc];have fin:∀ {E:H},SR B h0 F (Bu ρ id none) st.nx (GV st.ob id) E->E.nx=h.nx->(∀c,c≠b->E.get c=h.get c)->
       OK B h0 F ρ st h [id] (Fu<|some (.sl h.nx 0 (len+new.length) (len+new.length) i.size,E.push<|.cells (bs++cs) e (0,0))) (.sl st.nx r.sz 0 (Nat.add len new.length) none) ((st.FQ id).push<|.arr false e r<|l'++new):=by
      intro E hr1 hnx hg;have hp:=hr1.push (o:=.arr false e r<|l'++new) (x:=.cells (bs++cs) e (0,0)) (n:=len+new.length) rfl ⟨_,_,rfl,hnew,zd _,D⟩;refine⟨_,_,F,_,.inl rfl,?_,hp,S.trans<|Le.new _,rfl,rfl,by simp_all,fun c hc=>?_⟩
      ·rw[<-hnx];exact Py<|.inr e4
      ·rw[H.CE,wc ae];grind
     rcases g5 with rfl|rfl
     ·exact fin K rfl (fun _ _=>rfl)
     ·have b3:zf r.sz 0=false:=by
       rw[<-e4];cases hb:zf i.size 0 with
       |false=>rfl
       |true=>simp_all
      have b4:(zf (0*r.sz) 0&&zf r.sz i.size&&zf e e&&zi fz.2 fz.1&&cs.all V.one)=true:=by
       simp_all
      simp only[b3,wg,h2,b4,we];exact fin (K.kill J hFb hB hPb) rfl (by simp_all)
theorem Fj:∀ {s:Sh} {x:s.T} {v:V},DV F s x v->PR F ρ N (B1 s x) v
 | .pair a b,x,v,h=>by obtain⟨cs,rfl,c⟩:=h.1 rfl;simp_all [B1,PR,C4]
 | .unit,x,v,h=>by obtain⟨cs,rfl,c⟩:=h.1 rfl;simp_all [DC,B1,PR]
 | .int _,x,v,h=>by have:=h.2 rfl;unfold B1 PR;omega
 | .bool,x,v,h=>by have:=h.2 rfl;unfold B1 PR;omega
 | .str,x,v,h=>by have:=h.2 rfl;unfold B1 PR;omega
 | .list _,x,v,h=>by have:=h.2 rfl;unfold B1 PR;omega
 | .nlist _,x,v,h=>by have:=h.2 rfl;unfold B1 PR;omega
 | .fnv,x,v,h=>by
  have:=h.2 rfl;simp only[DC,zq,ve]at this;subst this;unfold B1;cases (x:Option Fn)<;>simp[PR]
 | .ptr s,x,v,h=>by
  have:=h.2 rfl;grind [DC,B1,PR]
theorem Aap{s:Sh}{p:PV}{x:s.T}{v:V}(hp:PR F ρ N p v)(b:asV s p=some x):DV F s x v:=by
 unfold asV at b;cases a:(Oh p==s.N4)with
 |false=>grind
 |true=>
  rw[a]at b;refine⟨fun e=>?_,fun e=>?_⟩
  ·rw[e]at a;cases p<;>simp only[Oh]at a<;>try (cases a;done)
   obtain⟨cs,rfl,c⟩:=hp;exact⟨cs,rfl,CV c b⟩
  ·rw[e]at a;have:p.cells=[p]:=by cases p<;>first|rfl|(simp[Oh]at a)
   rw[this]at b;exact CV (by simpa using hp) b
theorem tK{T:B6}{t:TypeId}{s:Sh}(h:yC T t=some s):(∃k,s=.int k/\T.und t=some (.int k))\/(s=.str/\T.und t=some .string)\/(s=.bool/\T.und t=some .bool):=by
 unfold yC at h;grind
theorem Xt{T:B6}{t:TypeId}{s:Sh}(b:yC T t=some s){p:PV}{x:s.T}{v:V}(hp:PR F ρ N p v)(a:zG s p=some x):DV F s x v:=by
 have:=GD hp a;rcases tK b with⟨k,rfl,_⟩|⟨rfl,_⟩|⟨rfl,_⟩<;>exact⟨fun e=>(by cases e),fun _=>this⟩
theorem Un{T:B6}{t:TypeId}{s:Sh}(g:yC T t=some s){x:s.T}{v:V}(e:DV F s x v):∃d,T.und t=some d/\Js T t d v=true/\(∀es,KM T t v es=Lm T t v es 0)/\∀y u,DV F s y u->nV T t v u=some (Y8 s x y):=by
 rcases tK g with⟨k,rfl,a⟩|⟨rfl,a⟩|⟨rfl,a⟩<;>
 ·have b:=e.2 rfl;simp only[DC,zq,ve]at b;subst b;refine⟨_,a,rfl,fun _=>rfl,fun y u c=>?_⟩;have i:=c.2 rfl;simp_all [DC,nV,Y8]
theorem PY{T:B6}{t:TypeId}{ks vs:Sh}(J:yC T t=some ks){k:ks.T}{p:V}(s:DV F ks k p):∀ {l:List (ks.T×vs.T)} {es:List (V×V×Nat)},MR F ks vs l es->∀i,∃r,Lm T t p es i=some r/\
  (match r with
   |none=>Ee ks vs k l=none/\U3 ks vs k l=l/\∀x g c,DV F vs x g->MR F ks vs (He ks vs k x l) (es++[(p,g,c)])
   |some (j,u)=>(∃v,Ee ks vs k l=some v/\DV F vs v u)/\i<=j/\MR F ks vs (U3 ks vs k l) (es.eraseIdx<|j-i)/\∀x g,DV F vs x g->MR F ks vs (He ks vs k x l) (XY es (j-i) p g)):=by
 intro l es I;induction I with
 |nil=>intro i;exact⟨none,rfl,rfl,rfl,fun x g c m=>.cons s m .nil⟩
 |@cons a b l L K n es o w G D=>
  intro i;obtain⟨d,_,_,_,y⟩:=Un J s;have y:=y a L o;unfold Lm;rw[y];cases q:Y8 ks k a with
  |true=>
   refine⟨some (i,K),rfl,(by grind [Ee]),zd _,?_,fun x g m=>?_⟩
   ·simp_all [U3]
   ·simp only[Nat.sub_self,He,q,we,XY,List.modify_zero_cons];exact .cons s m G
  |false=>
   obtain⟨r,O,A⟩:=D<|i+1;refine⟨r,O,?_⟩;cases r with
   |none=>
    obtain⟨E,P,z⟩:=A;refine⟨by simp_all [Ee],by simp_all [U3],fun x g c m=>?_⟩;simp only[He,q,wg,List.cons_append];exact .cons o w<|z x g c m
   |some M=>
    obtain⟨j,u⟩:=M;obtain⟨⟨v,E,P⟩,z,k4,k5⟩:=A;have e:j-i=(j-(i+1))+1:=ae
    refine⟨(by simp_all [Ee]),by omega,?_,fun x g m=>?_⟩
    ·rw[e];simp only[List.eraseIdx_cons_succ,U3,q,wg];exact .cons o w k4
    ·rw[e];simp only[He,q,wg,XY,List.modify_succ_cons];exact .cons o w<|k5 x g m
theorem yM(hr:SR B h0 F ρ st.nx st.ob h){t:TypeId}{v:PV}(a:(YH C.T t st).To v st'):OK B h0 F ρ st h [] (Fu<|IP h none) v st':=by
 unfold YH at a;split at a
 case h_2=>simp at a
 split at a
 case h_2=>simp at a
 rename_i ks vs c b;obtain⟨rfl,rfl⟩:=a;refine OK.new hr (o:=.map ks vs []) (x:=.map [] 0) (n:=0) rfl ⟨[],0,rfl,.nil⟩ ?_;simp_all [PR,Bu]
theorem iC(hr:SR B h0 F ρ st.nx st.ob h){ks vs:Sh}{m:PV}{l:List (ks.T×vs.T)}{x:V}(c:PR F ρ st.nx m x)(a:oW st ks vs m=some l):∃es,entries h x=some es/\MR F ks vs l es:=by
 unfold oW at a;split at a
 ·cases a;subst c;exact⟨[],rfl,.nil⟩
 ·split at a
  case h_2=>cases a
  rename_i i d l' g;obtain⟨e,j⟩:=CG a;obtain⟨rfl,rfl⟩:=e;obtain⟨b,n,o,h1,h2,⟨es,clk,rfl,h4⟩,_⟩:=hr.at g;simp_all [PR,entries]
 grind
theorem qP{ks vs:Sh}{ok:Bool}{z:vs.T}{x:ks.T}:∀ {l:List (ks.T×vs.T)} {v:PV},(plk ks vs ok z x st l).To v st'->st=st'/\((Ee ks vs x l=none/\v=bif ok then .tup [B1 vs z,.bl false]else B1 vs z)\/∃w,Ee ks vs x l=some w/\v=bif ok then .tup [B1 vs w,.bl true]else B1 vs w)
 |[],v,d=>by
  unfold plk at d;simp only[Ch]at d;exact⟨d.2,.inl ⟨rfl,d.1.symm⟩⟩
 |(a,b)::l,v,d=>by
  unfold plk at d;generalize i:Y8 ks x a=c at d;cases d with
  |tt d=>
   grind [Ch,Ee]
  |ff d=>
   obtain⟨g,e⟩:=qP d;grind [Ee]
theorem tZ(hr:SR B h0 F ρ st.nx st.ob h){t:TypeId}{p q:PV}{x y:V}(R:PR F ρ st.nx p x)(J:PR F ρ st.nx q y){ok:Bool}{v:PV}(a:(Th C.T t p q ok st).To v st'):OK B h0 F ρ st h [] (BD h<|ES C.T h t x y ok) v st':=by
 unfold Th at a;split at a
 case h_2=>simp at a
 rename_i Y e L;split at a
 case h_2=>simp at a
 rename_i ks vs i c W G;split at a
 case h_2=>simp at a
 rename_i k l z K I P;cases b:(vAg i.zv==vs.N4)with
 |false=>simp_all
 |true=>
  rw[b]at a;have j:=Xt c J K;obtain⟨es,S,M⟩:=iC hr R I;obtain⟨kd,g1,g2,g3,_⟩:=Un c j;obtain⟨r,r1,r2⟩:=PY c j M 0;have s:DV F vs z i.zv:=by
   have A:DC F vs z i.zv.cells:=CV (Eg (F:=F) (ρ:=ρ) (N:=st.nx) i.zero) P;refine⟨fun e=>?_,fun e=>?_⟩
   ·rw[e]at b;cases d:i.zv<;>rw[d]at b<;>simp only[vAg]at b<;>try (cases b;done)
    rw[d]at A;exact⟨_,rfl,A⟩
   ·rw[e]at b;have:i.zv.cells=[i.zv]:=by cases d:i.zv<;>rw[d]at b<;>first|rfl|(simp[vAg]at b)
    grind
  unfold ES;simp only[L,g1,S,g2,we,g3,r1];cases D:vs.wA with
  |true=>
   rw[D]at a;have m:=qP a;obtain⟨O,u⟩:=m;subst O;rcases u with⟨Z,d⟩|⟨w,U,d⟩
   ·cases r with
    |none=>
     simp only[G];cases ok with
     |true=>exact zo hr rfl (by simp_all [PR,Fj])
     |false=>exact zo hr rfl (by grind [Fj])
    |some E=>
     grind
   ·cases r with
    |none=>grind
    |some E=>
     obtain⟨⟨v',g,o⟩,_⟩:=r2;rw[U]at g;cases g;cases ok with
     |true=>exact zo hr rfl (by simp_all [PR,Fj])
     |false=>exact zo hr rfl (by rw[d];exact Fj o)
  |false=>
  rw[D]at a;obtain⟨rfl,rfl⟩:=a;cases r with
  |none=>
   obtain⟨g,_⟩:=r2;simp only[G,g,Option.getD_none,Option.isSome_none];cases ok with
   |true=>exact zo hr rfl (by simp only[we,PR];simp_all [Fj,DQ])
   |false=>exact zo hr rfl (Fj s)
  |some E=>
   obtain⟨⟨v,g,o⟩,_⟩:=r2;simp only[g,zz,Option.isSome_some];cases ok with
   |true=>exact zo hr rfl (by simp only[we,PR];simp_all [Fj,DQ])
   |false=>exact zo hr rfl (Fj o)
theorem nM(hr:SR B h0 F ρ st.nx st.ob h){t:TypeId}{p q r:PV}{x y z:V}(J:PR F ρ st.nx p x)(L:PR F ρ st.nx q y)(I:PR F ρ st.nx r z){v:PV}(i:(S4 C.T t p q r st).To v st'):
  ∃id,p=.mp id/\OK B h0 F ρ st h [id] (sN<|H2 C.T h t x y z) v st':=by
 unfold S4 at i;split at i
 case h_2=>simp at i
 rename_i O e id P;split at i
 case h_2=>simp at i
 rename_i ks g vs l j u;split at i
 case h_2=>simp at i
 rename_i k S w E D K;obtain⟨A,U⟩:=CG D;simp only[Sh.list.injEq,Sh.pair.injEq,ve]at A;subst A;simp only[Ch]at i;have m:=Xt j L E;have G:=Aap I K;obtain⟨b,n,o,h1,h2,⟨es,clk,rfl,h4⟩,_⟩:=hr.at u;have s:=J;simp only[PR]at s;obtain⟨kd,g1,g2,g3,_⟩:=Un j m;obtain⟨r',r1,r2⟩:=PY j m h4 0;have fin:∀d a,MR F g vs (He g vs k w l) d->OK B h0 F ρ st h [id] (sN<|some<|h.put b<|.map d a) (.tup []) (st.setObj id<|.map g vs<|He g vs k w l):=by
  intro d a M;refine⟨.tup [],_,F,ρ,.inr ⟨rfl,rfl⟩,by simp[PR],hr.set u h1 h2 rfl rfl ⟨d,a,rfl,M⟩,zk,rfl,rfl,zd _,fun c _=>?_⟩;by_cases R:c=b
  ·grind
  simp_all
 unfold H2;grind
theorem lW(hr:SR B h0 F ρ st.nx st.ob h){ts:Array TypeId}{ps:List PV}{p:List V}(s:BE F ρ st.nx ps p){v:PV}(a:(Uw C.T ts ps st).To v st'):
  ∃id A,ps=.mp id::A/\OK B h0 F ρ st h [id] (Fu<|LY C.T h ts p) v st':=by
 unfold Uw at a;split at a
 case h_2=>simp at a
 rename_i t id q z;split at a
 case h_2=>simp at a
 split at a
 case h_2=>simp at a
 rename_i ks e vs l g j;split at a
 case h_2=>simp at a
 rename_i k D u r;obtain⟨m,E⟩:=CG r;simp only[Sh.list.injEq,Sh.pair.injEq,ve]at m;subst m;simp only[Ch]at a;obtain⟨x,xs',rfl,hx1,y,xs'',rfl,hy,rfl⟩:=s;have i:=Xt g hy u;obtain⟨b,n,o,h1,h2,⟨es,clk,rfl,h4⟩,_⟩:=hr.at j;obtain rfl:=hx1.2 b n h1;obtain⟨kd,g1,g2,g3,_⟩:=Un g i;obtain⟨r',r1,r2⟩:=PY g i h4 0;have fin:∀d,MR F e vs (U3 e vs k l) d->OK B h0 F ρ st h [id] (Fu<|some (.tup [],h.put b<|.map d clk)) (.tup []) (st.setObj id<|.map e vs<|U3 e vs k l):=by
  intro d w;refine⟨.tup [],_,F,ρ,.inl rfl,by simp[PR],hr.set j h1 h2 rfl rfl ⟨d,clk,rfl,w⟩,zk,rfl,rfl,zd _,fun c _=>?_⟩;by_cases G:c=b
  ·grind
  simp_all
 unfold LY;grind
theorem SR.same(hr:SR B h0 F ρ st.nx st.ob h){id b n:Nat}{o o':Obj}{x:O}(g:st.obj id=some o)(j:ρ id=some (b,n))(i:h.get b=some x)(k:o.frozen=false)(d:o'.frozen=false)
  (e:Yc F ρ st.nx n o' x):SR B h0 F ρ st.nx (D5 st.ob id o') h:=by
 have a:∀c,h.get c=(h.put b x).get c:=by
  simp_all
 exact SR.congr (st:=⟨st.n,st.fr,D5 st.ob id o',st.nx⟩) (hr.set g j i k d e) a rfl
theorem xV(hr:SR B h0 F ρ st.nx st.ob h){ts:Array TypeId}{ps:List PV}{E:List V}(q:BE F ρ st.nx ps E){v:PV}(d:(Zf C.T ts ps st).To v st'):OK B h0 F ρ st h (FJ ps) (Fu<|Gm C.T h ts E) v st':=by
 unfold Zf at d;split at d
 case h_2=>simp at d
 rename_i t p u;obtain⟨x,_,rfl,q,rfl⟩:=q;split at d
 case h_2=>simp at d
 rename_i e K;split at d
 case h_3=>simp at d
 case h_1=>
  obtain⟨rfl,rfl⟩:=d;simp only[PR]at q;exact⟨.tup [],h,F,ρ,(by simp_all [Gm,Fu]),by simp[PR],hr,zk,rfl,rfl,zd _,(by simp)⟩
 rename_i id sz off len cap;split at d
 case h_2=>simp at d
 rename_i i m s l S D;cases r:(zf sz s.sz&&zl 0 i.zero.length&&zf i.zero.length s.sz&&Det.Mb V.one i.zero)with
 |false=>simp_all
 |true=>
  rw[r]at d;simp only[ze,FF]at r;obtain⟨⟨⟨w,O⟩,Y⟩,c4⟩:=r;have w:=zg w;subst w;simp only[we]at d;split at d
  case h_2=>simp at d
  rename_i z M;simp only[Cg,w5]at d;obtain⟨L,rfl,rfl⟩:=d;obtain⟨b,n,y,h1,h2,⟨bs,fz,rfl,h3,h4,h5⟩,h6,_⟩:=hr.at D;have A:DC F s z i.zero:=CV (Eg (F:=F) (ρ:=ρ) (N:=st.nx) i.zero) M;have g:=Dr.replicate A len;have j:=Dr.uK h3 g (a:=off) ah;rw[List.length_replicate]at j;have k:(l.take off++(zt len z++l.drop (off+len))).length=l.length:=ah
  have skip:Gm C.T h ts [x]=some (.tup [],h)->len=0->OK B h0 F ρ st h (FJ [.sl id s.sz off len cap]) (Fu<|Gm C.T h ts [x]) (.tup []) (st.setObj id<|.arr false m s<|l.take off++(zt len z++l.drop (off+len))):=by
   intro I h0;subst h0;have el:l.take off++(zt 0 z++l.drop (off+0))=l:=by simp
   refine⟨.tup [],h,F,ρ,.inl (by rw[I];rfl),by simp[PR],hr.same D h1 h2 rfl rfl (o':=.arr false m s _) ⟨bs,fz,rfl,?_,h4,?_⟩,zk,rfl,rfl,zd _,(by simp)⟩
   ·grind
   omega
  rcases q.2 b n h1 with⟨_,P,o,Z,rfl⟩|⟨W,U,P,rfl|⟨G,rfl,_⟩⟩
  ·by_cases h0:len=0
   ·simp_all [Gm]
   ·have R:wr h b (off*s.sz) (FA i.zero<|len*i.zero.length)=some (h.put b<|.cells (CA (off*s.sz) ((zt len i.zero).flatten) bs) m fz):=by
     rw[HS];refine NR h2 ?_ h4 ?_
     ·rw[g.1,List.length_replicate, <-yb,h3.1];exact zm _ L
     grind
    have J:zf len 0=false:=by rw[Bn];simp[h0]
    refine⟨.tup [],h.put b<|.cells (CA (off*s.sz) ((zt len i.zero).flatten) bs) m fz,F,ρ,.inl ?_,by simp[PR],hr.set D h1 h2 rfl rfl (o':=.arr false m s _) ⟨_,fz,rfl,j,h4,k.trans h5⟩,zk,rfl,rfl,zd _,fun c _=>?_⟩
    ·simp only[Gm,u,K,J,wg,S,O,we,R,z8,Fu]
    ·rw[H.B3];by_cases e:c=b
     ·grind [FJ]
     grind
  ·simp_all [Gm]
  simp_all [Gm]
theorem Abi(hr:SR B h0 F ρ st.nx st.ob h){t:TypeId}{p:PV}{x:V}(c:PR F ρ st.nx p x){v:PV}(a:(Xz C.T t p st).To v st'):OK B h0 F ρ st h [] (Fu<|HR C.T h t x) v st':=by
 unfold Xz at a;split at a
 case h_2=>simp at a
 rename_i s d;obtain⟨rfl,rfl⟩:=a;obtain rfl:=Fv c;have b:HR C.T h t (.str s)=some (.ptr h.nx 0,h.push<|.siter s 0):=by simp[HR,TX,d]
 rw[b];exact OK.new hr (o:=.siter s 0) (n:=0) rfl rfl Lq
theorem Ack(hr:SR B h0 F ρ st.nx st.ob h){p:PV}{x:V}(k:PR F ρ st.nx p x){i:Bool}{v:PV}(a:(uJ p i st).To v st'):i=true/\∃id off,p=.ptr id off/\OK B h0 F ρ st h [id] (Fu<|NF h x i) v st':=by
 unfold uJ at a;split at a
 case h_2=>simp at a
 rename_i id;split at a
 case h_2=>simp at a
 rename_i s pos e;obtain⟨b,n,y,d,g,l,m,_⟩:=hr.at e;subst l;obtain rfl:=k.2 b n d;refine⟨rfl,id,0,rfl,?_⟩;by_cases hp:pos<s.length
 ·rw[w4 hp]at a;cases a with
  |tt a=>
   obtain⟨rfl,rfl⟩:=a;have j:NF h (.ptr b 0) true=some (.tup [.bool true,i64 pos,.int .i32<|rune s pos],h.put b<|.siter s<|pos+Ki s pos):=by
    simp only[NF,g,Hu,w4 hp,we];rfl
   refine⟨_,_,F,ρ,.inl (by rw[j];rfl),?_,hr.set e d g rfl rfl (o':=.siter s _) rfl,zk,rfl,rfl,zd _,fun c _=>?_⟩
   ·simp[PR,DC,i64]
   ·rw[H.B3];grind
 ·rw[w8 hp]at a;cases a with
  |ff a=>
   obtain⟨rfl,rfl⟩:=a;refine⟨.tup [.bool false],h,F,ρ,.inl ?_,by simp[PR],hr,zk,rfl,rfl,zd _,(by simp)⟩;simp_all [NF,Hu,w8,Fu]
end
section
variable {B:Nat}{h0:H0}{F:Fz}{ρ:Ec}{N:Nat}{C:Ctx}{st st':AN}{h:H}
def AcW:List PV->List Nat
 | .eptr id _ _ _::_=>[id]
 |_=>[]
theorem AaM(hr:SR B h0 F ρ st.nx st.ob h){ps:List PV}{e:List V}(c:BE F ρ st.nx ps e){v:PV}(a:(YG ps st).To v st'):OK B h0 F ρ st h [] (BD h<|P2 e) v st':=by
 unfold YG at a;split at a
 case h_2=>simp at a
 rename_i id sz off len;cases d:ID (st.obj id)with
 |false=>simp_all
 |true=>
  rw[d]at a;simp only[we,Cg,w5]at a;obtain⟨g,rfl,rfl⟩:=a;obtain⟨o,ho⟩:=XE d;obtain⟨b,n,z,g1,_⟩:=hr.at ho;obtain⟨x,_,rfl,c,rfl⟩:=c;simp only[PR]at c;obtain⟨_,_,o',_,rfl⟩:len<=len/\off+len<=n/\∃o,(o=0\/o=sz)/\x=.sl b (off*sz) len len o:=by
   grind
  refine zo hr (v':=.ptr b<|off*sz) ?_ ?_
  ·have:zl 0 len=true:=by simp_all
   simp only[P2,this,we];rfl
  grind [PR]
theorem qE{k:IntKind}:∀ {l:List Int} {cs:List V},Dr F (.int k) l cs->cs=l.map (V.int k):=by
 intro l cs a;have d:cs.length=l.length:=by rw[a.1];simp[Sh.sz]
 apply List.ext_getElem
 ·grind
 ·intro i b g;have c:i<l.length:=ae
  have:=a.2 i c;have e:(cs.drop<|i*Sh.sz (.int k)).take (Sh.sz<|.int k)=[cs[i]]:=by
   rw[show Sh.sz (.int k)=1 from rfl,Nat.mul_one,zw b];rfl
  grind [DC]
theorem P7:∀ {l:List Int},Sr l=true->HP (l.map<|V.int .u8)=some (Tz l)
 |[],_=>rfl
 |x::l,h=>by
  unfold Sr at h;rw[yd,ze,ze,w5,w5]at h;have a:=P7 (l:=l) h.2;grind [Nat.blt_eq,Ud,HP,Tz]
theorem X9{l:List Int}(h:Sr l=true)(n:Nat):Sr (l.take n)=true:=by
 grind [Sr]
theorem AcD(hr:SR B h0 F ρ st.nx st.ob h){ts:Array TypeId}{ps:List PV}{E:List V}(t:BE F ρ st.nx ps E){v:PV}(a:(jE C.T ts.toList ps st).To v st'):OK B h0 F ρ st h (AcW ps) (Fu<|Xh C.T h ts.toList E) v st':=by
 unfold jE at a;split at a
 case h_2=>simp at a
 rename_i pt Z id sz i n q;split at a
 case h_2=>simp at a
 rename_i e A s l Y G;split at a
 case h_2=>simp at a
 rename_i O D hi w;cases K:(zf O.size 1&&zf e A)with
 |false=>simp_all
 |true=>
  rw[K]at a;simp only[we,Cg,ze,w5]at a;obtain⟨⟨⟨⟨⟨P,W⟩,k3⟩,k4⟩,M⟩,rfl,rfl⟩:=a;subst P;obtain⟨es,he⟩:=CG w;have J:s=.int .u8:=ah
  subst J;have:D=l:=ah
  subst this;obtain⟨m,rfl⟩:=Int.eq_ofNat_of_zero_le<|Int.le_of_lt W;obtain⟨b,n',z,h1,h2,⟨cs,fz,rfl,h3,h4,h5⟩,h6,_⟩:=hr.at G;have u:=h6 rfl;obtain⟨x,_,rfl,t,y,_,rfl,hy,rfl⟩:=t;obtain rfl:=CH hy;obtain rfl:=t.2 b n' h1;have R:=(hr.own id b n' h1).2;have r:b∉h0.pin:=fun hp=>(hr.pn b hp).2.2 id n' h1
  have d:∀j oj m,AS (GV st.ob id) j=some oj->Bu ρ id none j≠some (b,m):=by
   intro j oj m p o;rw[Du]at p;split at p
   ·cases p
   ·rename_i g;simp only[Bu,g,vf]at o;exact g<|hr.inj j id oj _ b m n' p G o h1
  have k:=hr.del id;have L:=qE h3;have U:cs.take m=(D.take m).map (V.int .u8):=by simp_all
  have hb:=P7<|X9 M m;have I:Xh C.T h ts.toList [.ptr b<|0*sz+0,.int .i64 (m:Int)]=some (.str<|Tz<|D.take m,h.kill b):=by
   rw[z7];rw[q];show(match C.T.und pt,h.get b with
    |some (.pointer e),some (.cells cs A fz)=>(match C.T.inf e,HP (cs.take m)with
     |some i,some l=>bif zf i.size 1&&zf e A&&zl 0 m&&zi m cs.length&&zi m 9223372036854775807&&zi fz.2 fz.1 then some (V.str l,h.kill b)else none
     |_,_=>none)
    |_,_=>none)=_
   have c1:zl 0 m=true:=by simp_all
   have c2:zi m cs.length=true:=(by simp_all);have c3:zi m 9223372036854775807=true:=(by simp_all);have c4:zi fz.2 fz.1=true:=(by simp_all);grind
  rw[I];refine⟨_,_,F,Bu ρ id none,.inl rfl,ME _,k.kill d u R r,Le.Ju id,rfl,rfl,zd _,fun c _=>?_⟩;rw[H.DL];by_cases S:c=b
  ·exact .inr ⟨id,zc.2 rfl,n',S▸h1⟩
  grind
end
section
variable {B:Nat}{h0:H0}{C:Ctx}{F F1 F':Fz}{ρ:Ec}{N:Nat}{st st':AN}{fr:Fr}{h h':H}
def PC(F:Fz)(p:PV)(v:V):Prop:=∀ρ N,PR F ρ N p v
def KN(F:Fz)(ps:List PV)(vs:List V):Prop:=∀ρ N,BE F ρ N ps vs
theorem Le.eJ(a:∀b cs,F b=some cs->F1 b=some cs):Le F ρ N F1 ρ N:=⟨a,(by simp),zd _⟩
theorem PC.mono(a:∀b cs,F b=some cs->F1 b=some cs){p:PV}{v:V}(hp:PC F p v):PC F1 p v:=fun ρ N=>(hp ρ N).mono<|Le.eJ a
theorem KN.cons{p:PV}{ps:List PV}{v:V}{vs:List V}(a:PC F p v)(b:KN F ps vs):KN F (p::ps) (v::vs):=fun ρ N=>(BH ..).2 ⟨a ρ N,b ρ N⟩
theorem KN.dc{s:Sh}{ps:List PV}{vs:List V}{x:s.T}(hp:KN F ps vs)(a:Dp s ps=some x):DC F s x vs:=CV (hp (fun _=>none) 0) a
theorem PC.B1:∀ {s:Sh} {x:s.T} {cs:List V},DC F s x cs->(s.N4=true->PC F (B1 s x) (.agg cs))/\(s.N4=false->∀v,cs=[v]->PC F (B1 s x) v)
 | .pair a b,x,cs,h=>⟨fun _ ρ N=>by simp_all [yg,PR,C4],fun e=>by cases e⟩
 | .unit,x,cs,h=>⟨fun _ ρ N=>by simp_all [DC,yg,PR],fun e=>by cases e⟩
 | .int _,x,cs,h=>(by grind [yg,PR,Sh.N4,PC])
 | .bool,x,cs,h=>(by grind [yg,PR,Sh.N4,PC])
 | .str,x,cs,h=>(by grind [yg,PR,Sh.N4,PC])
 | .list _,x,cs,h=>(by grind [yg,PR,Sh.N4,PC])
 | .nlist _,x,cs,h=>(by grind [yg,PR,Sh.N4,PC])
 | .fnv,x,cs,h=>⟨fun e=>(by cases e),fun _ v c ρ N=>by
   subst c;simp only[DC,zq,ve]at h;subst h;unfold yg;cases (x:Option Fn)<;>simp[PR]⟩
 | .ptr s,x,cs,h=>(by grind [DC,yg,PR,Sh.N4,PC])
theorem SR.AeZ{ob a:Ob}(hr:SR B h0 F ρ N ob h)(c:∀j,AS a j=AS ob j):SR B h0 F ρ N a h:=
 ⟨fun id o e=>hr.obj id o<|c id▸e,fun id id' o o' b n n' d i=>hr.inj id id' o o' b n n' (c id▸d) ah,hr.frz,hr.own,fun id g=>hr.dead id ah,hr.old,hr.lt,hr.le,hr.fo,hr.gl,hr.pn⟩
theorem AdZ{s:Sh}{l:List s.T}{cs:List V}{b:Nat}(g:F b=some cs)(e:Dr F s l cs){off len:Nat}(d:off+len<=l.length){cap o:Nat}(c:len<=cap)(j:o=0\/o=s.sz):
  DC F (.list s) ((l.drop off).take len) [.sl b (off*s.sz) len cap o]:=by
 have a:((l.drop off).take len).length=len:=ah
 refine⟨_,rfl,.inr ⟨b,off*s.sz,cap,o,cs,by rw[a],by omega,g,?_,j,fun i k=>?_⟩⟩
 ·rw[a,e.1, <-yb];simp_all [zm]
 grind [Dr]
theorem Lo(st:AN)(p:PV):(Bz st p).nx=st.nx/\(Bz st p).fr=st.fr/\(Bz st p).n=st.n:=by
 unfold Bz;split
 ·split<;>exact⟨rfl,rfl,rfl⟩
 simp
theorem Dt:∀(ps:List PV) (st:AN),(Bm ps st).nx=st.nx/\(Bm ps st).fr=st.fr/\(Bm ps st).n=st.n
 |[],_=>⟨rfl,rfl,rfl⟩
 |p::ps,st=>by
  obtain⟨b,c,a⟩:=Dt ps<|Bz st p;grind [Lo,Bm]
theorem IG:∀(ps a:List PV) (st:AN),Bm (ps++a) st=Bm a (Bm ps st)
 |[],_,_=>rfl
 |p::ps,a,st=>IG ps a<|Bz st p
def D2:Option Obj->Option Obj->Prop
 |some (.arr _ e s l),o=>∃fz,o=some (.arr fz e s l)
 |a,b=>b=a
theorem D2.refl(o:Option Obj):D2 o o:=by
 cases o with
 |none=>rfl
 |some o=>cases o<;>first|rfl|exact⟨_,rfl⟩
theorem NY(st:AN)(p:PV)(j:Nat):D2 (st.obj j) ((Bz st p).obj j):=by
 unfold Bz;split
 case h_2=>exact D2.refl _
 split
 case h_2=>exact D2.refl _
 rename_i id _ _ _ _ _ fz e s l a;show D2 (AS st.ob j)<|AS (D5 st.ob id<|.arr true e s l) j;rw[Hp _ _ _ _<|by show(st.obj id).isSome=true;grind];split
 ·rename_i b;subst b;show D2 (st.obj j) _;rw[a];exact⟨_,rfl⟩
 ·exact D2.refl _
theorem pQ{st st':AN}(h:∀id,D2 (st.obj id)<|st'.obj id)(p:PV):Cr st' p=Cr st p:=by
 cases p<;>try rfl
 case fn f a c=>cases a<;>cases c<;>rfl
 unfold Cr;rename_i id sz off len cap;have:=h id;cases b:st.obj id with
 |none=>rw[b]at this;simp only[b,show st'.obj id=none from this]
 |some o=>
  rw[b]at this;cases o with
  |arr fz e s l=>
   obtain⟨fz',d⟩:=this;grind
  |box _=>simp only[b,show st'.obj id=_ from this]
  |tbox _ _=>simp only[b,show st'.obj id=_ from this]
  |map _ _ _=>simp only[b,show st'.obj id=_ from this]
  |siter _ _=>simp only[b,show st'.obj id=_ from this]
  |lp _ _ _ _ _ _ _ _=>simp only[b,show st'.obj id=_ from this]
theorem Nc{st st':AN}(h:∀id,D2 (st.obj id)<|st'.obj id):∀ps:List PV,DB st' ps=DB st ps
 |[]=>rfl
 |p::ps=>by unfold DB;rw[pQ h p,Nc h ps]
theorem D2.trans{a b c:Option Obj}(d:D2 a b)(g:D2 b c):D2 a c:=by
 cases a with
 |none=>have:b=none:=d;grind
 |some o=>
  cases o with
  |arr fz e s l=>obtain⟨fz',rfl⟩:=d;exact g
  |box _=>have:b=_:=d;grind
  |tbox _ _=>have:b=_:=d;grind
  |map _ _ _=>have:b=_:=d;grind
  |siter _ _=>have:b=_:=d;grind
  |lp _ _ _ _ _ _ _ _=>have:b=_:=d;grind
theorem NZ:∀(ps:List PV) (st:AN) (id:Nat),D2 (st.obj id)<|(Bm ps st).obj id
 |[],_,_=>D2.refl _
 |p::ps,st,id=>(NY st p id).trans<|NZ ps (Bz st p) id
theorem WW{st st':AN}(h:∀id,D2 (st.obj id)<|st'.obj id)(s:Sh)(p:PV):Hc st' s p=Hc st s p:=by
 grind [Hc,Nc]
theorem Nq{st st':AN}(h:∀id,D2 (st.obj id)<|st'.obj id):∀(l:List Sh) (ps:List PV),C6 st' l ps=C6 st l ps
 |[],[]=>rfl
 |[],_::_=>rfl
 |[a],[p]=>WW h a p
 |[a],[]=>rfl
 |[a],_::_::_=>rfl
 |a::b::l,[]=>rfl
 |a::b::l,p::ps=>by unfold C6;rw[WW h a p,Nq h (b::l) ps]
theorem Ny(hr:SR B h0 F ρ st.nx st.ob h){p:PV}{v:V}(hp:PR F ρ st.nx p v):
  ∃F1,SR B h0 F1 ρ (Bz st p).nx (Bz st p).ob h/\(∀b cs,F b=some cs->F1 b=some cs)/\∀x,Cr st p=some (true,x)->PC F1 x v:=by
 have same:∀ {q:PV},(∀x,Cr st q=some (true,x)->PC F x v)->Bz st q=st->∃F1,SR B h0 F1 ρ (Bz st q).nx (Bz st q).ob h/\(∀b cs,F b=some cs->F1 b=some cs)/\∀x,Cr st q=some (true,x)->PC F1 x v:=
  fun D Z=>⟨F,by grind,fun _ _ h=>h,D⟩
 cases p with
 |sl id sz off len cap=>
  cases E:st.obj id with
  |none=>grind [Cr,Bz]
  |some o=>
   cases o with
   |box _=>grind [Cr,Bz]
   |tbox _ _=>grind [Cr,Bz]
   |map _ _ _=>grind [Cr,Bz]
   |siter _ _=>grind [Cr,Bz]
   |lp _ _ _ _ _ _ _ _=>grind [Cr,Bz]
   |arr fz e s l=>
    obtain⟨b,n,x,D,Z,⟨cs,fz',rfl,P,h5,h6⟩,h7,h8⟩:=hr.at E;have R:Bz st (.sl id sz off len cap)=st.setObj id (.arr true e s l):=by simp[Bz,E]
    have z:∀j,AS (D5 st.ob id<|.arr true e s l) j=if j=id then some (.arr true e s l)else AS st.ob j:=(by grind [Hp,AN.obj])
    have fin:∀ {G:Fz},G b=some cs->(∀b cs,F b=some cs->G b=some cs)->∀x,Cr st (.sl id sz off len cap)=some (true,x)->PC G x v:=by
     intro G hG T x r ρ' N';simp only[Cr,E]at r;cases u:zf sz s.sz with
     |false=>grind
     |true=>
      rw[u]at r;simp only[we,zh,zn,w5]at r;obtain⟨A,rfl⟩:=r;have u:=zg u;subst u;unfold PR;rcases hp.2 b n D with⟨L,W,o,Y,rfl⟩|⟨rfl,rfl,Y,rfl|⟨I,rfl,k4⟩⟩
      ·exact AdZ hG (P.mono T) A L Y
      ·simp[DC]
      ·simp only[List.take_zero,DC];refine⟨_,rfl,.inr ⟨b,I,0,0,cs,rfl,zd _,hG,?_,.inl rfl,(by simp)⟩⟩;simp only[List.length_nil,z7,Nat.add_zero];rw[P.1];exact zp k4 (by simp_all [zm])
    cases M:fz with
    |true=>
     subst M;obtain⟨cs',t',fz2,L,W⟩:=h8 rfl;refine⟨F,?_,fun _ _ h=>h,ah⟩;grind [SR.AeZ,AN.setObj,AN.obj]
    |false=>
     have g:∀c cs',F c=some cs'->(fun c=>if c=b then some cs else F c) c=some cs':=by
      grind
     refine⟨fun c=>if c=b then some cs else F c,?_,g,ah⟩;rw[R];have A:Le F ρ st.nx (fun c=>if c=b then some cs else F c) ρ st.nx:=Le.eJ g;have w:∀k ok,AS (D5 st.ob id<|.arr true e s l) k=some ok->∃o2,AS st.ob k=some o2:=by
      intro k ok hk;by_cases ek:k=id
      ·exact⟨_,ek▸E⟩
      grind
     refine⟨fun j oj d=>?_,fun i j oi oj c m m' hi d K U=>?_,fun c cs' J=>?_,hr.own,fun j d=>?_,hr.old,hr.lt,hr.le,fun c cs' J=>?_,hr.gl,hr.pn⟩
     ·have d:AS (D5 st.ob id<|.arr true e s l) j=some oj:=d;rw[z]at d;by_cases S:j=id
      ·subst S;simp only[wm,zh]at d;subst d;refine⟨b,n,_,D,Z,⟨cs,fz',rfl,P.mono g,h5,h6⟩,fun e=>(by cases e),(by simp)⟩
      ·rw[wc S]at d;obtain⟨c,m,y,K,U,g3,g4,g5⟩:=hr.obj j oj d;have hne:c≠b:=fun O=>S<|hr.inj j id oj _ c m n d E K<|O▸D
       exact⟨c,m,y,K,U,g3.mono A,ah,ah⟩
     ·obtain⟨_,L⟩:=w i oi hi;obtain⟨_,W⟩:=w j oj d;exact hr.inj i j _ _ c m m' L W K U
     ·split at J
      ·grind
      ·exact hr.frz c cs' J
     ·have d:AS (D5 st.ob id<|.arr true e s l) j=none:=d;rw[z]at d;split at d
      ·cases d
      ·exact hr.dead j d
     ·split at J
      ·rename_i O;subst O;exact .inr (hr.own id c n D).2
      ·exact hr.fo c cs' J
 |dat s x=>exact same (fun y t ρ' N'=>by simp only[Cr,zh,zn,true_and]at t;grind [PR]) rfl
 |bl b=>exact same (fun y t ρ' N'=>by simp only[Cr,zh,zn,true_and]at t;grind [PR]) rfl
 |nil=>exact same (fun y t ρ' N'=>by simp only[Cr,zh,zn,true_and]at t;grind [PR]) rfl
 |BL s x off=>exact same (fun y t ρ' N'=>by simp only[Cr,zh,zn,true_and]at t;grind [PR]) rfl
 |any|ub|yl _|nilp|nilm|nilf|nili|agg _|tup _|ptr _ _|eptr _ _ _ _|mp _=>exact same (fun x r=>by simp[Cr]at r) rfl
 |fn f a c=>cases a with
  |cons _ _=>exact same (fun x r=>by simp[Cr]at r) rfl
  |nil=>cases c with
   |cons _ _=>exact same (fun x r=>by simp[Cr]at r) rfl
   |nil=>exact same (fun y t ρ' N'=>by simp only[Cr,zh,zn,true_and]at t;grind [PR,BE]) rfl
theorem I7:∀ {ps:List PV} {vs:List V} {st:AN} {F:Fz},SR B h0 F ρ st.nx st.ob h->BE F ρ st.nx ps vs->
  ∃F1,SR B h0 F1 ρ (Bm ps st).nx (Bm ps st).ob h/\(∀b cs,F b=some cs->F1 b=some cs)/\∀g,DB st ps=some (true,g)->KN F1 g vs
 |[],vs,st,F,hr,hp=>⟨F,hr,fun _ _ h=>h,(by grind [DB,KN,BE])⟩
 |p::ps,vs,st,F,hr,hp=>by
  obtain⟨v,vs,rfl,j,m⟩:=hp;obtain⟨F1,g1,g2,g3⟩:=Ny hr j;have e:BE F1 ρ (Bz st p).nx ps vs:=by rw[(Lo st p).1];exact m.mono<|Le.eJ g2
  obtain⟨i,l,o,s⟩:=I7 g1 e;refine⟨i,l,ah,fun g a=>?_⟩;unfold DB at a;split at a
  case h_2=>cases a
  rename_i c x d q k r;simp only[zh,zn,ze]at a;obtain⟨⟨rfl,rfl⟩,rfl⟩:=a;exact KN.cons ((g3 x k).mono o) (by grind [Nc,NY])
theorem lZ(hr:SR B h0 F ρ st.nx st.ob h){t:TypeId}{n:Nat}{l:List (Nat×PV)}{l':List (Nat×V)}(D:PRn F ρ st.nx l l'){v:PV}(a:(TM C.T t n l st).To v st'):OK B h0 F ρ st h [] (Fu<|EV C.T h t n l') v st':=by
 unfold TM at a;split at a
 case h_2=>simp at a
 rename_i e E;split at a
 case h_2=>simp at a
 rename_i i s K Z;cases p:(zi (Nat.mul n i.size) 16777216&&zl 0 i.zero.length&&zf i.zero.length i.size&&zf i.size s.sz)with
 |false=>rw[p]at a;simp at a
 |true=>
  rw[p]at a;simp only[ze]at p;obtain⟨⟨⟨I,J⟩,q⟩,G⟩:=p;simp only[we]at a;split at a
  case h_2=>simp at a
  rename_i cs k;split at a
  case h_2=>
   split at a
   case h_2=>simp at a
   rename_i c cs' R;split at a
   case h_2=>simp at a
   rename_i el g;simp only[Cg]at a;obtain⟨rfl,rfl,rfl⟩:=a;have O:=zg q;have A:=zg G;have y:BE F ρ st.nx (QN (i.zero.map XK) n) (FA i.zero<|n*i.size):=by
    grind [HS,KV]
   obtain⟨j,m,z⟩:=JT hr D y k;have b:j.length=n*s.sz:=by
    rw[<-A];rw[MJ m];simp[FA]
   obtain⟨F1,Y,U,S⟩:=I7 hr z;obtain⟨w,W⟩:=JG (S cs' R ρ st.nx) g b;have u:EV C.T h t n l'=some (.sl h.nx 0 n n 0,h.push<|.cells j e (0,0)):=by
    have d:zi (n*i.size) 16777216=true:=I;simp only[EV,E,K,d,J,q,Bool.and_self,we,m,II]
   rw[u];obtain⟨L,M,P⟩:=Dt cs st;have r:=OK.new (F:=F1) (ρ:=ρ) (st:=Bm cs st) Y (o:=.arr false e s el) (x:=.cells j e (0,0)) (n:=n) (v:=.sl (Bm cs st).nx s.sz 0 n none) (v':=.sl h.nx 0 n n 0) rfl ⟨_,_,rfl,ae,zd _,w⟩ (Py<|.inl rfl);obtain⟨v',h',F',ρ',q1,q2,q3,q4,q5,q6,q7,q8⟩:=r;rw[L]at q2;exact⟨v',h',F',ρ',q1,q2,q3,(by rw[L]at q4;exact(Le.eJ U).trans q4),q5.trans M,q6.trans P,q7,q8⟩
  rename_i el g;obtain⟨rfl,rfl⟩:=a;have O:=zg q;have A:=zg G;have y:BE F ρ st.nx (QN (i.zero.map XK) n) (FA i.zero<|n*i.size):=by
   grind [HS,KV]
  obtain⟨j,m,z⟩:=JT hr D y k;have b:j.length=n*s.sz:=by
   rw[<-A];rw[MJ m];simp[FA]
  obtain⟨w,W⟩:=JG z g b;have u:EV C.T h t n l'=some (.sl h.nx 0 n n 0,h.push<|.cells j e (0,0)):=by
   have d:zi (n*i.size) 16777216=true:=I;simp only[EV,E,K,d,J,q,Bool.and_self,we,m,II]
  rw[u];exact OK.new hr (o:=.arr false e s el) (n:=n) rfl ⟨_,_,rfl,ae,zd _,w⟩ (Py<|.inl rfl)
end
section
variable {B:Nat}{h0:H0}{F:Fz}{ρ:Ec}{N:Nat}{C:Ctx}{st st':AN}{fr:Fr}{h h':H}
theorem D6{x:Operand}{k:PV->PO}{v:PV}:(v1 st x k).To v st'↔∃p,Rg st x=some p/\(k p).To v st':=by
 unfold v1;cases Rg st x with
 |none=>simp
 |some p=>simp
theorem rU(d:FP F ρ N st fr){x:Option Operand}{k:Option PV->PO}{v:PV}(a:(o1 st x k).To v st'):∃p y,Xj C fr x=some y/\Xl F ρ N p y/\(k p).To v st':=by
 cases x with
 |none=>exact⟨none,none,rfl,rfl,a⟩
 |some x=>
  obtain⟨p,c,b⟩:=D6.1 a;obtain⟨y,g1,g2⟩:=Cc (C:=C) d c;exact⟨some p,some y,by simp[Xj,g1],⟨y,rfl,g2⟩,b⟩
theorem fW(hr:SR B h0 F ρ st.nx st.ob h){b:Builtin}{ts:Array TypeId}{ps:List PV}{d:List V}(c:BE F ρ st.nx ps d){v:PV}(a:(I0 C.T b ts ps st).To v st'):
  OK B h0 F ρ st h (match b with| .append| .clear=>FJ ps| .unsafeString=>AcW ps|_=>[]) (E8 C h b ts d) v st':=by
 unfold I0 at a;split at a
 case h_8=>simp at a
 case h_7=>exact AcD hr c a
 case h_6=>exact AaM hr c a
 case h_5=>exact xV hr c a
 case h_1=>exact AfA hr c a
 case h_2=>exact rT hr c a
 case h_3=>exact AeI (g:=sT) hr (by grind [sT,imax]) c a
 case h_4=>exact AeI (g:=Aa9) hr (fun k x y=>by rfl) c a
theorem yY(hr:Rel B h0 F ρ st fr h){o:Oper}{v:PV}(e:(pop o.op C.T st).To v st'):
  ∃K,OK B h0 F ρ st h K (G0 C fr h o) v st'/\∀sp I,Ht sp st o.op=some I->∀i∈K,i∈I:=by
 have nil:∀ {d:Option OR} {op:Op},OK B h0 F ρ st h [] d v st'->∃K,OK B h0 F ρ st h K d v st'/\∀sp I,Ht sp st op=some I->∀i∈K,i∈I:=ah;have g:∀ {x p},Rg st x=some p->∃y,ev C fr x=some y/\PR F ρ st.nx p y:=fun hp=>Cc hr.fp hp
 unfold pop at e;rw[C1];unfold G2;cases V:o.op<;>rw[V]at e<;>simp only[Kb,M0]at e<;>simp only
 case move x|assign x=>
  simp only[X6,Sl]at e;obtain⟨E,rfl⟩:=e;obtain⟨y,D,A⟩:=g E;refine nil ?_;rw[D];exact zo hr.sr rfl A
 case pick c a b=>
  simp only[oH,D6]at e;obtain⟨p,E,q,J,r,S,e⟩:=e;obtain⟨x,D,A⟩:=g E;obtain⟨y,g3,g4⟩:=g J;obtain⟨z,g5,g6⟩:=g S;obtain⟨t,rfl,P⟩:=AdE hr.sr A g4 g6 e;grind
 case alloc t=>exact nil<|xL hr.sr e
 case box t x=>
  simp only[AbF,D6]at e;obtain⟨p,E,e⟩:=e;obtain⟨y,D,A⟩:=g E;split at e
  case h_2=>simp at e
  rename_i cs U;cases Y:Det.Mb (Mq st) cs with
  |false=>simp_all
  |true=>
  rw[Y]at e;simp only[we,Ch]at e;obtain⟨rfl,rfl⟩:=e;refine nil ?_;rw[D];exact Agj hr.sr A U (by rw[<-FF];exact Y)
 case build t ps=>
  simp only[cD]at e;split at e
  case h_2=>simp at e
  rename_i l L;obtain⟨l',D,A⟩:=Pa (C:=C) hr.fp L;refine nil ?_;rw[D];exact wL hr.sr A e
 case buildSlice t n ps=>
  simp only[VD]at e;split at e
  case h_2=>simp at e
  rename_i l L;obtain⟨l',D,A⟩:=Pa (C:=C) hr.fp L;refine nil ?_;rw[D];exact lZ hr.sr A e
 case load t x=>
  simp only[rZ,D6]at e;obtain⟨p,E,e⟩:=e;obtain⟨y,D,A⟩:=g E;refine nil ?_;rw[D];exact mA hr.sr A e
 case store t x y=>
  simp only[aV,D6]at e;obtain⟨p,E,q,J,e⟩:=e;obtain⟨a,D,A⟩:=g E;obtain⟨b,g3,g4⟩:=g J;obtain⟨id,hid,P⟩:=vX hr.sr A g4 e;refine⟨[id],by grind,fun sp I M=>?_⟩;simp only[Ht,E]at M;grind
 case nilCheck x=>
  simp only[PN,D6]at e;obtain⟨p,E,e⟩:=e;obtain⟨y,D,A⟩:=g E;rw[D];split at e
  case h_4=>simp at e
  case h_1=>
   rename_i id off;cases L:ID (st.obj id)with
   |false=>simp_all
   |true=>
    rw[L]at e;simp only[we,Ch]at e;obtain⟨rfl,rfl⟩:=e;obtain⟨b,n,k1⟩:=hr.sr.live L;have G:=A;simp only[PR]at G;obtain rfl:=G.2 b n k1;exact nil<|zo hr.sr rfl A
  case h_2=>
   rename_i id sz j off;cases L:ID (st.obj id)with
   |false=>simp_all
   |true=>
    rw[L]at e;simp only[we,Ch]at e;obtain⟨rfl,rfl⟩:=e;obtain⟨b,n,k1⟩:=hr.sr.live L;have G:=A;simp only[PR]at G;obtain rfl:=G.2 b n k1;exact nil<|zo hr.sr rfl A
  case h_3=>
   simp only[Ch]at e;obtain⟨rfl,rfl⟩:=e;have G:=A;simp only[PR]at G;obtain⟨b,o',cs,rfl,_⟩:=G;exact nil<|zo hr.sr rfl A
 case binOp op t x y t2=>
  simp only[AbQ,D6]at e;obtain⟨p,E,q,J,e⟩:=e;obtain⟨a,D,A⟩:=g E;obtain⟨b,g3,g4⟩:=g J;refine nil ?_;rw[D,g3];split at e
  case h_2=>exact AfQ hr.sr A g4 e
  rename_i r R;simp only[Ch]at e;obtain⟨rfl,rfl⟩:=e;unfold Ach at R;split at R
  case h_3=>cases R
  all_goals
   rename_i m Z;cases W:(ZV x||ZV y)with
   |false=>grind
   |true=>
    rw[W]at R;cases R;simp only[PR]at A g4;subst A g4;exact zo hr.sr (by simp only[Kj,AaF,Z,W,we,BD])<|sR _
 case unOp op t x=>
  simp only[Af8,D6]at e;obtain⟨p,E,e⟩:=e;obtain⟨y,D,A⟩:=g E;refine nil ?_;rw[D];exact Ag6 hr.sr A e
 case convert s d x=>
  simp only[iX,D6]at e;obtain⟨p,E,e⟩:=e;obtain⟨y,D,A⟩:=g E;refine nil ?_;rw[D];exact AcK hr.sr A e
 case makeFunc f a b=>
  simp only[pV]at e;split at e
  case h_2=>simp at e
  rename_i x y hx hy;simp only[Ch]at e;obtain⟨rfl,rfl⟩:=e;obtain⟨u,D,A⟩:=Fc (C:=C) hr.fp hx;obtain⟨w,g3,g4⟩:=Fc (C:=C) hr.fp hy;refine nil ?_;rw[D,g3];exact zo hr.sr rfl (by unfold PR;grind)
 case makeMap t r=>
  simp only[Zp]at e;split at e
  case h_2=>simp at e
  refine nil ?_;exact yM hr.sr e
 case lookup t x i ok=>
  simp only[Vl,D6]at e;obtain⟨p,E,q,J,e⟩:=e;obtain⟨a,D,A⟩:=g E;obtain⟨b,g3,g4⟩:=g J;refine nil ?_;rw[D,g3];exact tZ hr.sr A g4 e
 case mapUpdate t m k x|insert t m k x=>
  simp only[Pp,D6]at e;obtain⟨p,E,q,J,r,S,e⟩:=e;obtain⟨a,D,A⟩:=g E;obtain⟨b,g3,g4⟩:=g J;obtain⟨c,g5,g6⟩:=g S;obtain⟨id,rfl,P⟩:=nM hr.sr A g4 g6 e;grind [Ht]
 case makeSlice t l c=>
  simp only[tU,D6]at e;obtain⟨p,E,q,J,e⟩:=e;obtain⟨a,D,A⟩:=g E;obtain⟨b,g3,g4⟩:=g J;refine nil ?_;rw[D,g3];exact AdT hr.sr A g4 e
 case slice t x lo hi mx=>
  simp only[aZ,D6]at e;obtain⟨p,E,e⟩:=e;obtain⟨a,D,A⟩:=g E;obtain⟨l,l',k1,k2,e⟩:=rU (C:=C) hr.fp e;obtain⟨m,m',k3,k4,e⟩:=rU (C:=C) hr.fp e;obtain⟨n,n',k5,k6,e⟩:=rU (C:=C) hr.fp e;refine nil ?_;rw[D,k1,k3,k5];exact Aa4 hr.sr A k2 k4 k6 e
 case fieldAddr t x f=>
  simp only[cG,D6]at e;obtain⟨p,E,e⟩:=e;obtain⟨y,D,A⟩:=g E;refine nil ?_;rw[D];exact zX hr.sr A e
 case field t x f=>
  simp only[ZI,D6]at e;obtain⟨p,E,e⟩:=e;obtain⟨y,D,A⟩:=g E;refine nil ?_;rw[D];exact AaA hr.sr A e
 case indexAddr t x i=>
  simp only[Zl,D6]at e;obtain⟨p,E,q,J,e⟩:=e;obtain⟨a,D,A⟩:=g E;obtain⟨b,g3,g4⟩:=g J;refine nil ?_;rw[D,g3];exact AaC hr.sr A g4 e
 case index t x i=>
  simp only[ZD,D6]at e;obtain⟨p,E,q,J,e⟩:=e;obtain⟨a,D,A⟩:=g E;obtain⟨b,g3,g4⟩:=g J;refine nil ?_;rw[D,g3];exact yW hr.sr A g4 e
 case extract x i=>
  simp only[RV,D6]at e;obtain⟨p,E,e⟩:=e;obtain⟨y,D,A⟩:=g E;refine nil ?_;rw[D];exact eA hr.sr A e
 case range t x=>
  simp only[cQ,D6]at e;obtain⟨p,E,e⟩:=e;obtain⟨y,D,A⟩:=g E;refine nil ?_;rw[D];exact Abi hr.sr A e
 case next x i=>
  simp only[rB,D6]at e;obtain⟨p,E,e⟩:=e;obtain⟨y,D,A⟩:=g E;obtain⟨rfl,id,off,rfl,P⟩:=Ack hr.sr A e;grind [Ht]
 case call c=>
  simp only[U0]at e;split at e
  case h_1=>simp at e
  rename_i args O;obtain⟨args',D,A⟩:=Fc (C:=C) hr.fp O;split at e
  case h_2=>simp at e
  case h_1=>
   rename_i b hb;split at e
   case h_1=>
    obtain⟨id,qs,rfl,P⟩:=lW hr.sr A e;refine⟨[id],by rw[hb,D];exact P,fun sp I M=>?_⟩;grind [Ht]
   case h_2=>
   have:=fW hr.sr A e;grind [Ht,FJ,AcW]
end
section
variable {B:Nat}{h0:H0}{F:Fz}{ρ:Ec}{N:Nat}{X:AO}{st st':AN}{fr:Fr}{h h':H}{Q:PV->Ob->Prop}{n:Nat}
@[simp] theorem Dv(st:AN)(t:Nat)(p:PV)(s:Nat):(st.set t p).get s=if s=t then p else st.get s:=by
 unfold AN.get AN.set;grind [PM.Dv]
theorem Rel.set(hr:Rel B h0 F ρ st fr h){t:Nat}{p:PV}{x:V}(hp:PR F ρ st.nx p x):Rel B h0 F ρ (st.set t p) ⟨fr.n,fr.m.set t<|some x⟩ h:=by
 refine⟨⟨hr.fp.n,fun s=>?_⟩,hr.sr⟩;rw[Dv];unfold Fr.get;simp only[PM.Dv];split
 ·exact hp
 ·exact hr.fp.slot s
theorem Rel.note(hr:Rel B h0 F ρ st fr h){t:Nat}{p:PV}(hp:PR F ρ st.nx p (fr.get t)):Rel B h0 F ρ (st.set t p) fr h:=by
 refine⟨⟨hr.fp.n,fun s=>?_⟩,hr.sr⟩;rw[Dv];split
 ·rename_i e;subst e;exact hp
 ·exact hr.fp.slot s
theorem Rel.put(hr:Rel B h0 F ρ st fr h){d:Option Nat}{p:PV}{x:V}(hp:PR F ρ st.nx p x)(a:st.put d p=some st'):∃fr',fr.put d x=some fr'/\Rel B h0 F ρ st' fr' h/\st'.nx=st.nx/\st'.ob=st.ob:=by
 unfold AN.put at a;unfold Fr.put;cases d with
 |none=>grind
 |some t=>
  simp only at a ⊢;have b:st.n=fr.n:=hr.fp.n;rw[b]at a;cases c:zl t fr.n with
  |false=>grind
  |true=>
   rw[c]at a;simp only[we,zh]at a;subst a;exact⟨_,rfl,hr.set hp,rfl,rfl⟩
structure Dh(B:Nat)(h0:H0)(F:Fz)(ρ:Ec)(N:Nat)(h:H)(st':AN)(fr':Fr)(h':H)(F':Fz)(ρ':Ec):Prop where
 rel:Rel B h0 F' ρ' st' fr' h'
 le:Le F ρ N F' ρ' st'.nx
 nx:h.nx<=h'.nx
theorem Dh.refl(hr:Rel B h0 F ρ st fr h):Dh B h0 F ρ st.nx h st fr h F ρ:=⟨hr,zk,zd _⟩
theorem Dh.trans{F' g:Fz}{ρ' e:Ec}{d:AN}{fr' c:Fr}{i:H}(a:Dh B h0 F ρ N h st' fr' h' F' ρ')(b:Dh B h0 F' ρ' st'.nx h' d c i g e):Dh B h0 F ρ N h d c i g e:=
 ⟨b.rel,a.le.trans b.le,zp a.nx b.nx⟩
def Afn(X:AO)(ρ:Ec)(h:H)(args':List V):Cal->Cl->Prop
 | .fn g,c=>c=.fn g args'/\X.C.prim g=none/\∃i,X.C.fn g=some i
 | .rnd id,c=>∃b n ls,ρ id=some (b,n)/\h.get b=some (.loop ls)/\args'.length=ls.ps.size/\c=.rnd b ls (HB ls.ps.toList args' ls.fr)
inductive NO (X:AO) (ρ:Ec) (h:H) (args':List V):Cal->List (V×H)->Prop where
 |Ba {g:Cal} {c:Cl} {l:List (V×H)} {M:Nat}:Afn X ρ h args' g c->(∀m,M<=m->Det.Ba X.C m c h=some l)->NO X ρ h args' g l
 |prim {g:FuncId} {q:List V->H->Option (V×H)} {x:V×H}:X.C.prim g=some q->q args' h=some x->NO X ρ h args' (.fn g) [x]
def Fx(B:Nat)(h0:H0)(X:AO)(nd:Bool)(call:F9):Prop:=
 ∀ {Q:PV->Ob->Prop} {n:Nat} {g:Cal} {args:List PV} {st:AN} {k:PV->AN->Tr},Ev X Q n (call g args st k)->∀ {F:Fz} {ρ:Ec} {fr:Fr} {h:H} {args':List V},Rel B h0 F ρ st fr h->BE F ρ st.nx args args'->
  ∃l,NO X ρ h args' g l/\(nd=false->∃x,l=[x])/\
   ∀x∈l,∃n',n'<=n/\∃r st',Ev X Q n' (k r st')/\∃F' ρ',PR F' ρ' st'.nx r x.1/\Dh B h0 F ρ st.nx h st' fr x.2 F' ρ'/\(∀a,g=.fn a->∀sp,X.sp a=some sp->∀b,b<h.nx->x.2.get b=h.get b)
theorem Ev.EW{c:Bool}{a b:Tr}(d:Ev X Q n (.ite c a b)):(c=true/\Ev X Q n a)\/(c=false/\Ev X Q n b):=by
 cases d with
 |ite e g=>
  grind
theorem Ev.Wb{a b:Tr}(c:Ev X Q n (.both a b)):Ev X Q n a/\Ev X Q n b:=by
 cases c with
 |both d e=>grind
theorem Ev.AD:¬Ev X Q n .fail:=fun h=>by cases h
theorem Ev.cL{v:PV}{ob:Ob}(a:Ev X Q n (.leaf v ob)):Q v ob:=by
 cases a with
 |leaf h=>exact h
theorem Nx(hr:Rel B h0 F ρ st fr h){ops:Array Oper}{o:Oper}{yes no:AN->Tr}(d:Ev X Q n (guarded ops o st yes no)):
  ∃i,Rel B h0 F ρ i fr h/\i.nx=st.nx/\i.ob=st.ob/\((Bb fr ops o=true/\Ev X Q n (yes i))\/(Bb fr ops o=false/\Ev X Q n (no i))):=by
 unfold guarded at d;unfold Bb;cases s:o.guard with
 |none=>grind
 |some r=>
  obtain⟨j,g⟩:=r;rw[s]at d;simp only at d ⊢;cases v:(ops[j]?).bind (·.dst)with
  |none=>grind [Ev.AD]
  |some t=>
   rw[v]at d;simp only at d ⊢;rw[show st.n=fr.n from hr.fp.n]at d;cases p:zl t fr.n with
   |false=>grind [Ev.AD]
   |true=>
    rw[p]at d;have k:=hr.fp.slot t;split at d
    case h_1=>
     rename_i b a;rw[a]at k;rw[OY k];grind
    case h_2=>
     rename_i b a;rw[a]at k;have m:=Mn k;have note:∀c:Bool,b=c->Rel B h0 F ρ (st.set t<|.bl c) fr h:=by
      rintro c rfl;exact hr.note (by rw[m];rfl)
     cases g with
     |true=>
      rcases d.EW with⟨e,d⟩|⟨e,d⟩
      ·exact⟨_,note true e,rfl,rfl,ah⟩
      ·exact⟨_,note false e,rfl,rfl,ah⟩
     |false=>
      rcases d.EW with⟨e,d⟩|⟨e,d⟩
      ·exact⟨_,note true e,rfl,rfl,ah⟩
      ·exact⟨_,note false e,rfl,rfl,ah⟩
    case h_5=>grind [Ev.AD]
    case h_4=>
     rename_i a;rw[a]at k;obtain⟨b,m⟩:=k;have note:∀c:Bool,b=c->Rel B h0 F ρ (st.set t<|.bl c) fr h:=by
      rintro c rfl;exact hr.note (by rw[m];rfl)
     obtain⟨q,u⟩:=d.Wb;cases b with
     |true=>
      cases g with
      |true=>exact⟨_,note true rfl,rfl,rfl,ah⟩
      |false=>exact⟨_,note true rfl,rfl,rfl,ah⟩
     |false=>
      cases g with
      |true=>exact⟨_,note false rfl,rfl,rfl,ah⟩
      |false=>exact⟨_,note false rfl,rfl,rfl,ah⟩
    case h_3=>
     rename_i l a;rw[a]at k;simp only[PR]at k;grind
theorem JD{d:Option Nat}{k:AN->Tr}:∀ {m:PO},Ev X Q n (SG d k m)->∃u s i,m.To u s/\s.put d u=some i/\Ev X Q n (k i)
 | .bad,e=>wh e Ev.AD
 | .val u s,e=>by
  simp only[SG]at e;split at e
  ·rename_i s1 o;exact⟨u,s,s1,.val,o,e⟩
  grind [Ev.AD]
 | .ite c a b,e=>by
  rcases e.EW with⟨rfl,g⟩|⟨rfl,g⟩
  ·obtain⟨u,s,s1,j,l⟩:=JD g;exact⟨u,s,s1,.tt j,l⟩
  ·obtain⟨u,s,s1,j,l⟩:=JD g;exact⟨u,s,s1,.ff j,l⟩
inductive zH (X:AO) (fr:Fr) (h:H) (o:Oper):List (V×H)->Prop where
 |val {x:V} {h':H}:G0 X.C fr h o=some (.val x h')->zH X fr h o [(x,h')]
 |skip {h':H}:G0 X.C fr h o=some (.skip h')->zH X fr h o [(.tup [],h')]
 |alts {l:List (V×H)}:G0 X.C fr h o=some (.alts l)->zH X fr h o l
 |call {g:FuncId} {args:List V} {l:List (V×H)} {M:Nat}:G0 X.C fr h o=some (.enter g args)->(∀m,M<=m->Ba X.C m (.fn g args) h=some l)->zH X fr h o l
 |round {b:Nat} {ls:LS} {f:Fr} {l:List (V×H)} {M:Nat}:G0 X.C fr h o=some (.round b ls f)->(∀m,M<=m->Ba X.C m (.rnd b ls f) h=some l)->zH X fr h o l
theorem H4{nd:Bool}{call:F9}(j:Fx B h0 X nd call)(hr:Rel B h0 F ρ st fr h){o:Oper}{k:AN->Tr}(M:Ev X Q n (Ic X.C.T call o st k)):
  ∃l,zH X fr h o l/\((nd=false->(∃x,l=[x])/\∀l',G0 X.C fr h o≠some (.alts l'))/\((∀id a,MV st o.op≠ .yes (.rnd id) a)->∀b ls f,G0 X.C fr h o≠some (.round b ls f)))/\∀x∈l,∃n',n'<=n/\∃e,Ev X Q n' (k e)/\∃F' ρ' fr',fr.put o.dst x.1=some fr'/\Dh B h0 F ρ st.nx h e fr' x.2 F' ρ'/\
   ∀w,Ht X.sp st o.op=some w->∀b,b<h.nx->x.2.get b=h.get b\/∃id∈w,∃m,ρ id=some (b,m):=by
 unfold Ic at M;split at M
 case h_2=>grind [Ev.AD]
 case h_1=>
  rename_i g args v;unfold MV at v;split at v
  case h_2=>cases v
  rename_i c hop;split at v
  case h_2=>cases v
  rename_i f L;split at v
  case h_3=>cases v
  case h_2=>
   rename_i id ps R G;cases v;obtain⟨fv,f1,P⟩:=Cc (C:=X.C) hr.fp R;obtain⟨av,a1,a2⟩:=Fc (C:=X.C) hr.fp G;simp only[PR]at P;obtain⟨l,hcd,hnd,hall⟩:=j M hr a2;obtain⟨hcd1,S⟩:=hcd;obtain⟨b,m,ls,c1,c2,c3,rfl⟩:=hcd1;have d:G0 X.C fr h o=some (.round b ls<|HB ls.ps.toList av ls.fr):=by
    simp_all [C1,G2,Ip]
   refine⟨l,.round d S,⟨ah,fun hno=>?_⟩,fun x I=>?_⟩
   ·grind [MV]
   obtain⟨n',V,r,st',z,F',ρ',hp,D,U⟩:=hall x I;split at z
   case h_2=>grind [Ev.AD]
   rename_i e p;obtain⟨fr',A,O,J,W⟩:=D.rel.put hp p;refine⟨n',V,e,z,F',ρ',fr',A,⟨O,by rw[J];exact D.le,D.nx⟩,fun w y b hb=>?_⟩;grind [Ht]
  rename_i g' first cap ps R G
  cases v;obtain⟨fv,f1,P⟩:=Cc (C:=X.C) hr.fp R;obtain⟨av,a1,a2⟩:=Fc (C:=X.C) hr.fp G;simp only[PR]at P;obtain⟨fa,fb,rfl,f3,f4⟩:=P;have E:BE F ρ st.nx (first++ps++cap) (fa++av++fb):=(f3.append a2).append f4;obtain⟨l,hcd,hnd,hall⟩:=j M hr E;have K:zH X fr h o l/\(∀l',G0 X.C fr h o≠some (.alts l'))/\∀b ls f,G0 X.C fr h o≠some (.round b ls f):=by
   cases hcd with
   |Ba v S=>
    obtain⟨rfl,Y,i,hfn⟩:=v;have d:G0 X.C fr h o=some (.enter g'<|fa++av++fb):=by
     simp_all [C1,G2,Ip]
    exact⟨.call d S,ah,ah⟩
   |prim hq I=>
    rename_i q x;have d:G0 X.C fr h o=some (.val x.1 x.2):=by
     grind [C1,G2,Ip,Fu]
    exact⟨.val d,ah,ah⟩
  refine⟨l,K.1,ah,fun x I=>?_⟩;obtain⟨n',V,r,st',z,F',ρ',hp,D,U⟩:=hall x I;split at z
  case h_2=>grind [Ev.AD]
  rename_i e p;obtain⟨fr',A,O,J,W⟩:=D.rel.put hp p;refine⟨n',V,e,z,F',ρ',fr',A,⟨O,by rw[J];exact D.le,D.nx⟩,fun w y b hb=>?_⟩;simp only[hop,Ht,L,R]at y;grind
 case h_3=>
  obtain⟨u,s,e,h1,h2,h3⟩:=JD M;obtain⟨tch,⟨v',h',F',ρ',A,O,J,W,g5,g6,g7,g8⟩,htch⟩:=yY (C:=X.C) hr h1;have Z:Rel B h0 F' ρ' s fr h':=⟨⟨by rw[g6];exact hr.fp.n,fun t=>by
   have:s.get t=st.get t:=by unfold AN.get;rw[g5]
   rw[this];exact(hr.fp.slot t).mono W⟩,J⟩
  obtain⟨fr',k1,k2,k3,k4⟩:=Z.put O h2;refine⟨[(v',h')],?_,ah,fun x I=>?_⟩
  ·rcases A with A|⟨A,rfl⟩
   ·exact .val A
   ·exact .skip A
  ·cases zc.1 I;refine⟨n,zd _,e,h3,F',ρ',fr',k1,⟨k2,by grind,g7⟩,fun w y b hb=>?_⟩;grind
theorem AcC{α a:Type}{f:α->Option (List a)}{x:α}:bl [x] f=f x:=by
 grind [bl]
theorem JS{α d:Type}{f:Nat->Nat->α->Option (List d)}{P:d->Prop}{nd:Bool}{l:List α}(c:nd=false->∃x,l=[x])(h:∀a∈l,∃r M,(∀m,M<=m->∀q,M<=q->f m q a=some r)/\(nd=false->∃x,r=[x])/\∀y∈r,P y):
  ∃r M,(∀m,M<=m->∀q,M<=q->bl l (f m q)=some r)/\(nd=false->∃x,r=[x])/\∀y∈r,P y:=by
 cases nd with
 |false=>
  obtain⟨x,rfl⟩:=c rfl;simp_all [AcC]
 |true=>
  clear c;suffices hs:∃r M,(∀m,M<=m->∀q,M<=q->bl l (f m q)=some r)/\∀y∈r,P y by
   simp_all
  induction l with
  |nil=>exact⟨[],0,fun _ _ _ _=>rfl,(by simp)⟩
  |cons a l e=>
   obtain⟨r,M,j,_,g⟩:=h a (by simp);obtain⟨r2,M2,h3,h4⟩:=e (by simp_all);cases l with
   |nil=>exact⟨r,M,(by grind [bl]),g⟩
   |cons b l=>
    refine⟨r++r2,max M M2,fun m o q k=>?_,fun y i=>?_⟩
    ·grind [bl]
    grind
theorem Q1{d:Option Nat}{P:Fr×H->Prop}:∀ {l:List (V×H)},(∀x∈l,∃fr',fr.put d x.1=some fr'/\P (fr',x.2))->∃r,HM fr d l=some r/\(∀y∈r,P y)/\((∃x,l=[x])->∃y,r=[y])
 |[],_=>⟨[],rfl,(by simp),(by simp)⟩
 |x::l,h=>by
  obtain⟨fr',e,c⟩:=h x (by simp);obtain⟨r,h3,h4,_⟩:=Q1 (l:=l) (fun y b=>h y ah);refine⟨(fr',x.2)::r,?_,fun y b=>?_,fun⟨z,a⟩=>?_⟩
  ·grind [HM]
  ·grind
  ·cases a;cases h3;simp
theorem zH.Ag3{l:List (V×H)}{o:Oper}{ops:Array Oper}(a:zH X fr h o l)(p:Bb fr ops o=true){P:Fr×H->Prop}(hp:∀x∈l,∃fr',fr.put o.dst x.1=some fr'/\P (fr',x.2)):
  ∃r M,(∀m,M<=m->step1 X.C (Ba X.C m) ops o fr h=some r)/\((∃x,l=[x])->∃y,r=[y])/\∀y∈r,P y:=by
 obtain⟨r,k,d,c⟩:=Q1 hp;cases a with
 |@val x h' a=>
  obtain⟨fr',e,i⟩:=hp _<|zc.2 rfl;exact⟨[(fr',h')],0,(by simp_all [step1,IN]),(by simp),ah⟩
 |@skip h' a=>
  obtain⟨fr',e,i⟩:=hp _<|zc.2 rfl;exact⟨[(fr',h')],0,(by simp_all [step1,IN]),(by simp),ah⟩
 |alts a=>exact⟨r,0,(by simp_all [step1,IN]),c,d⟩
 |@call g args l M a j=>exact⟨r,M,(by simp_all [step1,IN]),c,d⟩
 |@round b ls f l M a j=>exact⟨r,M,(by simp_all [step1,IN]),c,d⟩
theorem eF{T:B6}{h:H}{s d:TypeId}{b off:Nat}:F6 T h s d (.ptr b off)=none:=by
 simp_all [F6]
theorem kO(hr:Rel B h0 F ρ st fr h){o:Oper}{v:PV}(a:Acy X.C.T st o.op=some v):OK B h0 F ρ st h [] (IN X.C fr h o) v st:=by
 have fin:∀ {s d:TypeId} {x:Operand} {b off:Nat} {u:V},o.op=.convert s d x->ev X.C fr x=some (.ptr b off)->BL X.C.T h s d (.ptr b off)=some u->PR F ρ st.nx v u->OK B h0 F ρ st h [] (IN X.C fr h o) v st:=by
  intro s d x b off u c k g D;have q:G0 X.C fr h o=none:=by
   rw[C1];unfold G2;rw[c];simp only[k,eF];rfl
  refine zo hr.sr (v':=u) ?_ D;grind [IN]
 unfold Acy at a;split at a
 case h_2=>cases a
 rename_i s d x c;split at a
 case h_3=>cases a
 case h_1=>
  rename_i t id off w r m;split at a
  case h_2=>cases a
  rename_i i tb cs A p;cases j:(zl 0 i.size&&zl off (Det.FE cs))with
  |false=>grind
  |true=>
   rw[j]at a;cases a;obtain⟨y,k,g⟩:=Cc (C:=X.C) hr.fp m;obtain⟨b,n,z,k1,k2,⟨bs,fz,rfl,k4,_⟩,_⟩:=hr.sr.at p;have l:=g;obtain rfl:=l.2 b n k1;refine fin c k ?_ g;unfold BL;rw[DN,k4.len]at j;grind
 case h_2=>
  rename_i u id off w r m;split at a
  case h_2=>cases a
  rename_i i e cs A p;cases j:(zl 0 i.size&&zi i.size (Det.FE cs)&&zf e u&&zf off 0)with
  |false=>grind
  |true=>
   rw[j]at a;cases a;obtain⟨y,k,g⟩:=Cc (C:=X.C) hr.fp m;obtain⟨b,n,z,k1,k2,⟨bs,fz,rfl,k4,_⟩,_⟩:=hr.sr.at p;have l:=g;obtain rfl:=l.2 b n k1;have h0:off=0:=by
    simp_all
   subst h0;refine fin c k (u:=.ptr b 0) ?_ g;unfold BL;rw[DN,k4.len]at j;grind
theorem Vx(hr:Rel B h0 F ρ st fr h){o:Oper}{v:PV}{c:AN}(a:TK X.C.T st o.op=some (v,c)):OK B h0 F ρ st h [] (IN X.C fr h o) v c:=by
 unfold TK at a;split at a
 case h_2=>cases a
 rename_i s d x i;split at a
 case h_2=>cases a
 rename_i e l q p g;split at a
 case h_2=>cases a
 cases a;obtain⟨y,t,r⟩:=Cc (C:=X.C) hr.fp g;obtain rfl:=Fv r;have k:G0 X.C fr h o=none:=by
  rw[C1];unfold G2;rw[i];simp only[t,F6,q,p];rfl
 have g:IN X.C fr h o=Fu (some (.sl h.nx 0 l.length l.length 1,h.push<|.cells (l.map fun b=>.int .u8<|.ofNat b.toNat) e (0,0))):=by
  simp_all [BL,IN,T2]
 rw[g];refine OK.new hr.sr (o:=.arr false e (.int .u8)<|l.map fun b=>(b.toNat:Int)) (n:=l.length) rfl ⟨l.map fun b=>V.int .u8<|.ofNat b.toNat,(0,0),rfl,⟨by simp[Sh.sz],fun j w=>?_⟩,zd _,by simp⟩ ?_
 ·have m:j<l.length:=ah
  have u:((l.map fun b=>V.int .u8<|.ofNat b.toNat).drop<|j*1).take 1=[V.int .u8<|.ofNat (l[j]).toNat]:=by
   simp_all [zw]
  grind [DC,Sh.sz]
 simp_all [PR,Bu]
theorem XN(hr:Rel B h0 F ρ st fr h){o:Oper}{v:PV}{a:AN}(b:YW X.C.T st o.op=some (v,a)):OK B h0 F ρ st h [] (IN X.C fr h o) v a:=by
 grind [YW,Vx,kO]
theorem VR{nd:Bool}{call:F9}(e:Fx B h0 X nd call){ops:Array Oper}:∀ {l:List Oper} {n:Nat} {st:AN} {F:Fz} {ρ:Ec} {fr:Fr} {h:H} {k:AN->Tr},Rel B h0 F ρ st fr h->Ev X Q n (prun X.C.T call ops l st k)->
  ∃r M,(∀m,M<=m->UX X.C (Ba X.C m) ops l fr h=some r)/\(nd=false->∃x,r=[x])/\∀x∈r,∃n',n'<=n/\∃b,Ev X Q n' (k b)/\∃F' ρ',Dh B h0 F ρ st.nx h b x.1 x.2 F' ρ'
 |[],n,st,F,ρ,fr,h,k,hr,c=>⟨[(fr,h)],0,fun _ _=>rfl,(by simp),fun x hx=>by cases zc.1 hx;exact⟨n,zd _,st,c,F,ρ,Dh.refl hr⟩⟩
 |o::d,n,st,F,ρ,fr,h,k,hr,c=>by
  unfold prun at c;obtain⟨b,i,e1,e2,p⟩:=Nx hr c;have fin:∀ {l:List (Fr×H)},(∃M,∀m,M<=m->step1 X.C (Ba X.C m) ops o fr h=some l)->(nd=false->∃x,l=[x])->
    (∀y∈l,∃n',n'<=n/\∃a,Ev X Q n' (prun X.C.T call ops d a k)/\∃F' ρ',Dh B h0 F ρ st.nx h a y.1 y.2 F' ρ')->
    ∃r M,(∀m,M<=m->UX X.C (Ba X.C m) ops (o::d) fr h=some r)/\(nd=false->∃x,r=[x])/\∀x∈r,∃n',n'<=n/\∃b,Ev X Q n' (k b)/\∃F' ρ',Dh B h0 F ρ st.nx h b x.1 x.2 F' ρ':=by
   rintro l ⟨M1,S⟩ D hl;obtain⟨r,M,J,G,I⟩:=JS (f:=fun m _ (x:Fr×H)=>UX X.C (Ba X.C m) ops d x.1 x.2) (P:=fun x=>∃n',n'<=n/\∃b,Ev X Q n' (k b)/\∃F' ρ',Dh B h0 F ρ st.nx h b x.1 x.2 F' ρ') D fun y E=>by
    obtain⟨n1,hn1,a,R,F1,ρ1,j⟩:=hl y E;obtain⟨r,M,J,I,G⟩:=VR e j.rel R;refine⟨r,M,ah,I,fun z hz=>?_⟩;obtain⟨n2,hn2,st3,he3,F2,ρ2,hwent2⟩:=G z hz;exact⟨n2,ae,st3,he3,F2,ρ2,j.trans hwent2⟩
   refine⟨r,max M M1,fun m hm=>?_,G,I⟩;simp only[UX,S m ae];exact J m ae m ae
  rcases p with⟨A,c⟩|⟨A,c⟩
  ·unfold AbM at c;split at c
   case h_1=>
    rename_i v s hb;split at c
    case h_2=>grind [Ev.AD]
    rename_i a g;obtain⟨v',h',F',ρ',q,L,O,Z,g5,g6,g7,g8⟩:=XN i hb;have U:Rel B h0 F' ρ' s fr h':=⟨⟨by rw[g6];exact i.fp.n,fun t=>by
     have:s.get t=b.get t:=by unfold AN.get;rw[g5]
     rw[this];exact(i.fp.slot t).mono Z⟩,O⟩
    have V:∃u,PR F' ρ' s.nx v u/\∀fr',fr.put o.dst u=some fr'->∀m,step1 X.C (Ba X.C m) ops o fr h=some [(fr',h')]:=by
     rcases q with q|⟨q,rfl⟩
     ·exact⟨v',L,fun fr' K m=>by simp only[step1,A,we,q,K]⟩
     ·exact⟨.tup [],L,fun fr' K m=>by simp only[step1,A,we,q,K]⟩
    obtain⟨u,hu,D7⟩:=V;obtain⟨fr',K,k2,k3,k4⟩:=U.put hu g;refine fin (l:=[(fr',h')]) ⟨0,ah⟩ (by simp) fun y E=>?_
    cases zc.1 E;exact⟨n,zd _,a,c,F',ρ',k2,by grind,g7⟩
   obtain⟨l,w,hnd,Y⟩:=H4 e i c;obtain⟨r,M,J,I,G⟩:=w.Ag3 (ops:=ops) (P:=fun y=>∃n',n'<=n/\∃a,Ev X Q n' (prun X.C.T call ops d a k)/\∃F' ρ',Dh B h0 F ρ st.nx h a y.1 y.2 F' ρ') A ah;exact fin ⟨M,J⟩ ah G
  ·unfold Nw at c;split at c
   case h_2=>grind [Ev.AD]
   rename_i a g;obtain⟨W,q,L,O,Z⟩:=i.put (x:=.tup []) (by simp[PR]) g;refine fin (l:=[(W,h)]) ⟨0,fun m _=>by simp only[step1,A,wg,q]⟩ (by simp) fun y E=>?_
   cases zc.1 E;exact⟨n,zd _,a,c,F,ρ,L,by rw[O,e1];exact zk,zd _⟩
mutual
theorem Nd:∀v:V,ye v v=true
 | .bool b=>by simp[ye]
 | .int k n=>by simp[ye]
 | .str s=>by simp[ye]
 | .nilp=>rfl
 | .ptr a i=>by simp[ye]
 | .nils=>rfl
 | .sl a b c d e=>by simp[ye]
 | .esl=>rfl
 | .es0=>rfl
 | .junk=>rfl
 | .nilm=>rfl
 | .map a=>by simp[ye]
 | .yld a=>by simp[ye]
 | .nilf=>rfl
 | .nili=>rfl
 | .fn f a b=>by simp only[ye,F4 a,F4 b,zy,wk]
 | .iface t x=>by simp only[ye,Nd x,zy];simp
 | .agg a=>by exact F4 a
 | .tup a=>by exact F4 a
theorem F4:∀vs:List V,V.LJ vs vs=true
 |[]=>rfl
 |v::vs=>by simp only[V.LJ,Nd v,F4 vs,zy]
end
theorem nE{T:B6}{t:TypeId}{a x:V}(c:Fe T h t a=some x):∃b off o,a=.ptr b off/\h.get b=some o/\(∀g:H,g.get b=h.get b->Fe T g t a=some x)/\
  ∀(g:H) cs t1 j t2 e,h.get b=some (.cells cs t1 j)->g.get b=some (.cells cs t2 e)->Fe T g t a=some x:=by
 unfold Fe at c;split at c
 case h_2=>cases c
 rename_i b off d i q p;have k:∃o,h.get b=some o:=by
  cases m:h.get b with
  |some o=>simp
  |none=>
   grind [rd]
 obtain⟨o,l⟩:=k;refine⟨b,off,o,rfl,l,fun g m=>?_,fun g cs t1 j t2 e r s=>?_⟩
 ·simp_all [Fe,rd]
 ·unfold Fe;grind [rd]
def Uu(C:Ctx)(F:Fz)(bl:List Nat)(h:H)(fr:Fr)(o:Oper)(x:V):Prop:=
 ∀g:H,(∀b cs,F b=some cs->∃t fz,g.get b=some (.cells cs t fz))->(∀b∈bl,g.get b=h.get b)->∃z,G0 C fr g o=some (.val x z)
theorem Y4:∀ {s:Sh} {x:s.T} {cs:List V} {b:Nat},DC F s x cs->V.map b∉cs
 | .int _,_,_,_,h,hm=>by grind [DC]
 | .bool,_,_,_,h,hm=>by grind [DC]
 | .str,_,_,_,h,hm=>by grind [DC]
 | .list s,l,_,_,h,hm=>by
  simp only[DC]at h;grind
 | .pair a b,x,_,_,h,hm=>by
  obtain⟨c,d,rfl,e,g⟩:=h;rcases List.mem_append.1 hm with hm|hm
  ·exact Y4 e hm
  ·exact Y4 g hm
 | .unit,_,_,_,h,hm=>by grind [DC]
 | .fnv,x,_,_,h,hm=>by simp only[DC]at h;grind
 | .ptr _,x,_,_,h,hm=>by simp only[DC]at h;grind
 | .nlist s,l,_,_,h,hm=>by
  simp only[DC]at h;grind
theorem Yq{s:Sh}{x:s.T}{b:Nat}(hp:PR F ρ N (.dat s x) (.map b)):False:=by
 exact Y4 hp<|zc.2 rfl
theorem XW{b:Nat}(hp:PR F ρ N .nil (.map b)):False:=by
 grind [PR]
theorem jI(hr:SR B h0 F ρ st.nx st.ob h){o:Oper}{c:Call}(g:o.op=.call c)(d:c.callee=.builtin .len){id sz off len:Nat}{cap:Option Nat}(e:MW st c.args.toList=some [.sl id sz off len cap]){u:PV}{s:AN}
  (a:(pop o.op X.C.T st).To u s) {b:Nat} (hp:PR F ρ st.nx (.sl id sz off len cap) (.map b)):False:=by
 rw[g]at a;simp only[pop,U0,e,d,I0,yN,Wl,List.map_cons,List.map_nil,lz]at a;split at a;split at a
 case h_3=>
  cases i:ID (st.obj id)with
  |false=>simp_all
  |true=>
   obtain⟨b',n,j⟩:=hr.live i;grind [PR]
 all_goals first|(simp at a;done)|grind|(cases he)
theorem OV{T:B6}{ts:Array TypeId}{a:V}{g:H}(c:∀b,a≠ .map b)(h:H):Gi T g ts [a]=Gi T h ts [a]:=by
 unfold Gi;grind
theorem gX(hr:Rel B h0 F ρ st fr h){o:Oper}{x:V}(A:G0 X.C fr h o=some (.val x h)){l:List Nat}(I:zV st o.op=some l)(Y:∃u s,(pop o.op X.C.T st).To u s):
  ∃bl,Uu X.C F bl h fr o x/\∀b∈bl,b<h.nx/\∃id∈l,id<st.nx/\∀y,ρ id=some y->y.1=b:=by
 unfold zV at I;rw[C1]at A;unfold G2 at A;split at I
 case h_5=>cases I
 case h_4 t y i ok r=>
  simp only[r]at A;have m:∀g,G0 X.C fr g o=(match ev X.C fr y,ev X.C fr i with|some v,some u=>BD g (ES X.C.T g t v u ok)|_,_=>none):=(by grind [C1,G2]);cases L:ev X.C fr y with
  |none=>grind
  |some a=>
   cases Z:ev X.C fr i with
   |none=>grind
   |some u=>
    rw[L,Z]at A;simp only at A;obtain⟨x',D,E⟩:=GP A;cases E;have G:∀g:H,entries g a=entries h a->ES X.C.T g t a u ok=some x:=by
     grind [ES]
    split at I
    case h_3=>cases I
    case h_1=>
     rename_i id hp;obtain⟨U,w,p⟩:=Cc (C:=X.C) hr.fp hp;rw[L]at w;cases w;have W:∃es,entries h a=some es:=by
      grind [ES]
     obtain⟨es,E⟩:=W;cases I;by_cases J:∃b,a=.map b
     ·obtain⟨b,rfl⟩:=J;have K:∃ob,h.get b=some ob:=by
       cases O:h.get b with
       |none=>simp[entries,O]at E
       |some ob=>simp
      obtain⟨ob,K⟩:=K;simp only[PR]at p;refine⟨[b],fun g _ O=>⟨g,?_⟩,fun b' R=>?_⟩
      ·rw[m,L,Z];simp only;rw[G g<|by simp_all [entries]];rfl
      ·cases zc.1 R;refine⟨hr.sr.lt b ob K,id,(by simp),p.1,fun z hz=>?_⟩;grind
     ·refine⟨[],fun g _ O=>⟨g,?_⟩,(by simp)⟩;rw[m,L,Z];simp only;rw[G g ?_];rfl;cases a<;>first|rfl|grind
    case h_2=>
     rename_i hp;obtain⟨U,w,p⟩:=Cc (C:=X.C) hr.fp hp;rw[L]at w;cases w;simp only[PR]at p;subst p;cases I;refine⟨[],fun g _ O=>⟨g,?_⟩,(by simp)⟩;rw[m,L,Z];simp only;rw[G g rfl];rfl
 case h_1 t y r=>
  simp only[r]at A;have m:∀g,G0 X.C fr g o=(match ev X.C fr y with|some v=>BD g (Fe X.C.T g t v)|none=>none):=(by grind [C1,G2]);cases L:ev X.C fr y with
  |none=>grind
  |some a=>
   rw[L]at A;simp only at A;obtain⟨x',D,E⟩:=GP A;cases E;obtain⟨b,off,ob,rfl,K,G,hfz⟩:=nE D;have hblt:=hr.sr.lt b ob K;have live:∀id,id<st.nx->(∀z,ρ id=some z->z.1=b)->l=[id]->∃bl,Uu X.C F bl h fr o x/\∀b∈bl,b<h.nx/\∃id∈l,id<st.nx/\∀y,ρ id=some y->y.1=b:=by
    rintro id hlt hid rfl;refine⟨[b],fun g _ O=>⟨g,?_⟩,fun b' R=>?_⟩
    ·rw[m,L];simp only;rw[G g ah];rfl
    simp_all
   split at I
   case h_4=>cases I
   case h_1=>
    rename_i id S hp;obtain⟨U,w,p⟩:=Cc (C:=X.C) hr.fp hp;grind [PR]
   case h_2=>
    rename_i id sz j S hp;obtain⟨U,w,p⟩:=Cc (C:=X.C) hr.fp hp;grind [PR]
   case h_3=>
    rename_i s y' S hp;obtain⟨U,w,p⟩:=Cc (C:=X.C) hr.fp hp;rw[L]at w;cases w;simp only[PR]at p;obtain⟨b',o',cs,E,hF,_⟩:=p;cases E;obtain⟨t1,f1,k1⟩:=hr.sr.frz b cs hF;refine⟨[],fun g O _=>⟨g,?_⟩,(by simp)⟩;obtain⟨t2,f2,k2⟩:=O b cs hF;rw[m,L];simp only;rw[hfz g cs t1 f1 t2 f2 k1 k2];rfl
 case h_2 s d y r=>
  simp only[r]at A;have m:∀g,G0 X.C fr g o=(match ev X.C fr y with|some v=>BD g (F6 X.C.T g s d v)|none=>none):=(by grind [C1,G2]);have fin:∀a,ev X.C fr y=some a->(∀g,F6 X.C.T g s d a=F6 X.C.T h s d a)->∃bl,Uu X.C F bl h fr o x/\∀b∈bl,b<h.nx/\∃id∈l,id<st.nx/\∀y,ρ id=some y->y.1=b:=by
   intro a ha O;rw[ha]at A;simp only at A;obtain⟨x',D,E⟩:=GP A;cases E;exact⟨[],fun g _ _=>⟨g,by rw[m,ha];simp only;rw[O,D];rfl⟩,(by simp)⟩
  split at I
  case h_3=>cases I
  case h_1=>
   rename_i k z hp;obtain⟨U,w,p⟩:=Cc (C:=X.C) hr.fp hp;simp only[PR,DC,zq,ve]at p;subst p;exact fin _ w fun g=>by
    unfold F6;grind
  case h_2=>
   rename_i z hp;obtain⟨U,w,p⟩:=Cc (C:=X.C) hr.fp hp;simp only[PR,DC,zq,ve]at p;subst p;exact fin _ w fun g=>by
    unfold F6;grind
 case h_3 c r=>
  simp only[r]at A;split at I
  case h_5=>cases I
  case h_4=>
   rename_i id q M;obtain⟨AiW,w,p⟩:=Fc (C:=X.C) hr.fp M;simp only[BE]at p;obtain⟨a,as',rfl,p,rfl⟩:=p;have m:∀g,G0 X.C fr g o=BD g (Gi X.C.T g c.argTypes [a]):=fun g=>by rw[C1];unfold G2;simp only[r,q,w];rfl
   simp only[q,w,E8]at A;obtain⟨x',D,E⟩:=GP A;cases E;cases I;by_cases J:∃b,a=.map b
   ·obtain⟨b,rfl⟩:=J;simp only[PR]at p;by_cases K:∃ob,h.get b=some ob
    ·obtain⟨ob,K⟩:=K;refine⟨[b],fun g _ O=>⟨g,?_⟩,fun b' R=>?_⟩
     ·rw[m];have:Gi X.C.T g c.argTypes [.map b]=Gi X.C.T h c.argTypes [.map b]:=by
       unfold Gi;grind
      rw[this,D];rfl
     ·cases zc.1 R;refine⟨hr.sr.lt b ob K,id,(by simp),p.1,fun z hz=>?_⟩;grind
    ·have hnone:h.get b=none:=by
      cases O:h.get b with
      |none=>rfl
      |some ob=>grind
     refine⟨[],fun g _ _=>⟨g,?_⟩,(by simp)⟩;obtain⟨uu,s,P⟩:=Y;exfalso;rw[r]at P;simp only[pop,U0,M,q,I0,yN,Wl,List.map_cons,List.map_nil,lz]at P;split at P
     case h_2=>simp at P
     rename_i t x _ E;cases E;split at P
     case h_5=>
      rename_i E;cases E;split at P
      case h_2=>simp at P
      rename_i ks vs l ho;obtain⟨b1,n1,o1,q1,q2,_⟩:=hr.sr.at ho;grind
     all_goals first|(simp at P;done)|grind|(cases E)
   ·refine⟨[],fun g _ _=>⟨g,?_⟩,(by simp)⟩;rw[m,OV ah h,D];rfl
  all_goals
   rename_i q M;obtain⟨AiW,w,p⟩:=Fc (C:=X.C) hr.fp M;obtain⟨a,as',rfl,p,rfl⟩:=p;have m:∀g,G0 X.C fr g o=BD g (Gi X.C.T g c.argTypes [a]):=fun g=>by rw[C1];unfold G2;simp only[r,q,w];rfl
   simp only[q,w,E8]at A;have hnm:∀b,a≠ .map b:=by
    intro b e;subst e;first
     |exact Yq p
     |exact XW p
     |(obtain⟨u,s,P⟩:=Y
       exact jI hr.sr r q M P p)
   obtain⟨x',D,E⟩:=GP A;cases E;refine⟨[],fun g _ _=>⟨g,?_⟩,fun b K=>by cases K⟩;rw[m];rw[OV hnm h,D];rfl
structure jR(C:Ctx)(F:Fz)(ρ:Ec)(N:Nat)(h:H)(r:Nat×Option (List Nat))(c:Rc):Prop where
 i:c.i=r.1
 k:∀l,r.2=some l->∃bl,Uu C F bl h c.f c.o c.v/\∀b∈bl,b<h.nx/\∃id∈l,id<N/\∀y,ρ id=some y->y.1=b
def Yu(C:Ctx)(F:Fz)(ρ:Ec)(N:Nat)(h:H):Rs->List Rc->Prop
 |[],l=>l=[]
 |r::a,l=>∃c cs,l=c::cs/\jR C F ρ N h r c/\Yu C F ρ N h a cs
theorem jR.mono{F':Fz}{ρ':Ec}{N':Nat}{r:Nat×Option (List Nat)}{c:Rc}(j:jR X.C F ρ N h r c)(d:Le F ρ N F' ρ' N')(x:h.nx<=h'.nx)
  (w:∀l,r.2=some l->∀b,b<h.nx->(∃id∈l,id<N/\∀y,ρ id=some y->y.1=b)->h'.get b=h.get b):jR X.C F' ρ' N' h' r c:=by
 refine⟨j.i,fun l e=>?_⟩;obtain⟨bl,p,s⟩:=j.k l e;refine⟨bl,fun g u A=>p g (fun b cs q=>u b cs<|d.fz b cs q)<|fun b a=>?_,fun b a=>?_⟩
 ·grind
 ·obtain⟨z,id,t,m,v⟩:=s b a;exact⟨ae,id,t,Nat.lt_of_lt_of_le m d.n,fun y o=>v y<|d.at m o⟩
theorem Yu.mono{F':Fz}{ρ':Ec}{N':Nat}(e:Le F ρ N F' ρ' N')(g:h.nx<=h'.nx)(j:∀b,b<h.nx->h'.get b=h.get b):∀ {d:Rs} {cs:List Rc},Yu X.C F ρ N h d cs->Yu X.C F' ρ' N' h' d cs
 |[],_,a=>a
 |r::d,_,a=>by
  obtain⟨c,cs,rfl,i,k⟩:=a;exact⟨c,cs,rfl,i.mono e g ah,Yu.mono e g j k⟩
theorem Yu.apart{F':Fz}{ρ':Ec}{fr':Fr}{anc:Nat->Nat->Bool}{i:Nat}{t:Option (List Nat)}(hr:Rel B h0 F ρ st fr h)(j:Dh B h0 F ρ st.nx h st' fr' h' F' ρ')
  (E:∀d,t=some d->∀b,b<h.nx->h'.get b=h.get b\/∃id∈d,∃m,ρ id=some (b,m)):
  ∀ {q:Rs} {cs:List Rc},Yu X.C F ρ st.nx h q cs->yc anc i st t q=true->cs.all (still X.C anc i h')=true/\Yu X.C F' ρ' st'.nx h' (behind st t q) cs
 |[],_,w,_=>by
  cases w;exact⟨rfl,rfl⟩
 |r::q,_,w,u=>by
  obtain⟨c,cs,rfl,p,K⟩:=w;unfold yc at u;rw[yd,ze]at u;obtain⟨h3,h4⟩:=Yu.apart hr j E K (by exact u.2);have key:(VZ r.2 t&&Ll st r.2)=true->∀l,r.2=some l->∀b,b<h.nx->(∃id∈l,id<st.nx/\∀y,ρ id=some y->y.1=b)->h'.get b=h.get b:=by
   rintro o l g b M ⟨id,x,R,L⟩;simp only[ze,g]at o;have a:=List.all_eq_true.1 o.2 id x;obtain⟨D,T,G⟩:=hr.sr.live a;obtain rfl:D=b:=L _ G;cases t with
   |none=>
    grind [VZ]
   |some d=>
    rcases E d rfl D M with e|⟨id',U,m,v⟩
    ·exact e
    ·obtain⟨o1,P⟩:=Jo a;have A:∃s,AS st.ob id'=some s:=by
      cases S:AS st.ob id' with
      |some s=>simp
      |none=>rw[hr.sr.dead id' S]at v;cases v
     obtain⟨s,A⟩:=A;obtain rfl:=hr.sr.inj id id' o1 s D T m P A G v;grind [Nat.beq_refl,VZ]
  refine⟨?_,c,cs,rfl,?_,h4⟩
  ·rw[yd,h3,zy];unfold still;rw[p.i];cases J:anc i r.1 with
   |true=>rfl
   |false=>
    have g:∃l,r.2=some l:=by
     cases I:r.2 with
     |some l=>simp
     |none=>grind [VZ]
    obtain⟨l,g⟩:=g;obtain⟨bl,x,R⟩:=p.k l g;obtain⟨z,hz⟩:=x h' (fun b cs O=>j.rel.sr.frz b cs<|j.le.fz b cs O) ah;grind [Nd]
  ·show jR X.C F' ρ' st'.nx h' (bif VZ r.2 t&&Ll st r.2 then r else(r.1,none)) c;cases o:(VZ r.2 t&&Ll st r.2)with
   |true=>exact p.mono j.le j.nx<|key o
   |false=>
    exact⟨p.i,(by simp)⟩
theorem Ux{C:Ctx}{o:Oper}(g:CJ o=true){r:OR}(a:G0 C fr h o=some r):∃ob f,uW C fr o=some (ob,f)/\r=.val (f h.nx) (h.push ob):=by
 rw[C1]at a;unfold G2 at a;unfold CJ at g;unfold uW;split at g
 case h_4=>cases g
 case h_1 t b=>
  simp only[b]at a ⊢;unfold G8 at a;cases d:C.T.inf t with
  |none=>rw[d]at a;cases a
  |some i=>rw[d]at a;cases a;exact⟨_,_,rfl,rfl⟩
 case h_2 t x b=>
  simp only[b]at a ⊢;cases c:ev C fr x with
  |none=>rw[c]at a;cases a
  |some y=>rw[c]at a;cases a;exact⟨_,_,rfl,rfl⟩
 case h_3 t n ps b=>
  simp only[b]at a ⊢;cases c:YD C fr ps.toList with
  |none=>grind
  |some y=>
   rw[c]at a;simp only at a ⊢;unfold EV at a;unfold XQ;split at a
   case h_2=>cases a
   rename_i e l;simp only[l];split at a
   case h_2=>cases a
   rename_i i d;simp only[d];cases k:(zi (n*i.size) 16777216&&zl 0 (i.zero.length)&&zf i.zero.length i.size)with
   |false=>rw[k]at a;cases a
   |true=>
    rw[k]at a;split at a
    case h_2=>cases a
    rename_i cs j;cases a;simp only[j];exact⟨_,_,rfl,rfl⟩
theorem AfN{T:B6}{call:F9}{st:AN}{o:Oper}{k:AN->Tr}(a:Ez o=true):Ic T call o st k=SG o.dst k (pop o.op T st):=by
 grind [MV,Ez,Ic]
theorem AcN{call:F9}(a:Fx B h0 X false call)(hr:Rel B h0 F ρ st fr h){o:Oper}(j:Ez o=true){k:AN->Tr}(m:Ev X Q n (Ic X.C.T call o st k)):
  ∃n',n'<=n/\∃b,Ev X Q n' (k b)/\∃F' ρ' x fr',G0 X.C fr h o=some (.val x h)/\fr.put o.dst x=some fr'/\Dh B h0 F ρ st.nx h b fr' h F' ρ'/\∃u s,(pop o.op X.C.T st).To u s:=by
 obtain⟨l,d,g,c⟩:=H4 a hr m;obtain⟨⟨⟨x,h'⟩,rfl⟩,_⟩:=g.1 rfl;obtain⟨n',hn,b,he1,F',ρ',fr',hput,hw,_⟩:=c _<|zc.2 rfl;have i:∃u s,(pop o.op X.C.T st).To u s:=by
  grind [AfN,JD]
 cases d with
 |val e=>
  grind [rd_val]
 |skip e=>grind [rd_val]
 |call e _=>grind [rd_val]
 |round e _=>grind [rd_val]
 |alts e=>grind
theorem Qb{call:F9}(r:Fx B h0 X false call){ops:Array Oper}{anc:Nat->Nat->Bool}:∀ {L:List Nat} {n:Nat} {st:AN} {F:Fz} {ρ:Ec} {fr:Fr} {h:H} {k:AN->Tr} {K:Rs} {cs:List Rc},Rel B h0 F ρ st fr h->Yu X.C F ρ st.nx h K cs->
  Ev X Q n (Ko X.C.T X.sp call ops anc L st K k)->
  ∃n',n'<=n/\∃j,Ev X Q n' (k j)/\∃F' ρ' fr' h',Dh B h0 F ρ st.nx h j fr' h' F' ρ'/\∃M,∀m,M<=m->∃cs',V5 X.C (Ba X.C m) ops anc L ⟨fr,h,cs⟩=some ⟨fr',h',cs'⟩
 |[],n,st,F,ρ,fr,h,k,K,cs,hr,_,c=>⟨n,zd _,st,c,F,ρ,fr,h,Dh.refl hr,0,fun _ _=>⟨cs,rfl⟩⟩
 |i::is,n,st,F,ρ,fr,h,k,K,cs,hr,G,c=>by
  unfold Ko at c;cases ho:ops[i]? with
  |none=>grind [Ev.AD]
  |some o=>
   rw[ho]at c;simp only at c;obtain⟨j,u,I,e2,P⟩:=Nx hr c;rw[<-I]at G;have fin:∀ {n1:Nat} {e:AN} {F1:Fz} {v:Ec} {s:Fr} {O:H} {rs2:Rs} {cs2:List Rc},n1<=n->Dh B h0 F ρ st.nx h e s O F1 v->Yu X.C F1 v e.nx O rs2 cs2->Ev X Q n1 (Ko X.C.T X.sp call ops anc is e rs2 k)->
     (∃M,∀m,M<=m->∃x,Iq X.C (Ba X.C m) ops anc i ⟨fr,h,cs⟩=some (x,⟨s,O,cs2⟩))->
     ∃n',n'<=n/\∃j,Ev X Q n' (k j)/\∃F' ρ' fr' h',Dh B h0 F ρ st.nx h j fr' h' F' ρ'/\∃M,∀m,M<=m->∃cs',V5 X.C (Ba X.C m) ops anc (i::is) ⟨fr,h,cs⟩=some ⟨fr',h',cs'⟩:=by
    rintro n1 e F1 v s O rs2 cs2 w hw q p ⟨M1,hM1⟩;obtain⟨n2,hn2,st3,he3,F2,ρ2,fr2,h2,hw2,M2,hM2⟩:=Qb r hw.rel q p;refine⟨n2,ae,st3,he3,F2,ρ2,fr2,h2,hw.trans hw2,max M1 M2,fun m hm=>?_⟩;obtain⟨x,hx⟩:=hM1 m ae;obtain⟨cs',hcs'⟩:=hM2 m ae;grind [V5]
   rcases P with⟨hw,c⟩|⟨hw,c⟩
   ·cases U:Ez o with
    |true=>
     rw[U]at c;simp only[we]at c;obtain⟨n1,w,e,p,F1,v,x,s,z,d,a,hto⟩:=AcN r u U c;rw[I]at a;have q:Yu X.C F1 v e.nx h K cs:=G.mono (by rw[I];exact a.le) ae (by simp);cases Z:Rj o with
     |false=>
      rw[Z]at p;refine fin (cs2:=cs) w a q p ⟨0,fun m _=>⟨x,?_⟩⟩;unfold Iq;grind
     |true=>
      rw[Z]at p;refine fin (cs2:=⟨i,o,fr,x⟩::cs) (rs2:=(i,zV j o.op)::K) w a ⟨_,_,rfl,⟨rfl,fun l hl=>?_⟩,q⟩ p ⟨0,fun m _=>⟨x,?_⟩⟩
      ·obtain⟨bl,Y,V⟩:=gX u z hl hto;refine⟨bl,fun g hg W=>Y g (fun b cs hF=>hg b cs<|a.le.fz b cs hF) W,fun b W=>?_⟩;obtain⟨j1,id,j2,j3,j4⟩:=V b W;rw[I]at j3;exact⟨j1,id,j2,Nat.lt_of_lt_of_le j3 a.le.n,fun y hy=>j4 y<|a.le.at j3 hy⟩
      ·unfold Iq;grind
    |false=>
     rw[U]at c;simp only[wg]at c;cases R:CJ o with
     |true=>
      rw[R]at c;simp only[we]at c;obtain⟨l,E,S,A⟩:=H4 r u c;obtain⟨⟨⟨x,O⟩,rfl⟩,hna⟩:=S.1 rfl;obtain⟨n1,w,e,p,F1,v,s,d,a,_⟩:=A _<|zc.2 rfl;rw[I]at a;simp only at d a;have hv:∃ob f,uW X.C fr o=some (ob,f)/\x=f h.nx/\O=h.push ob:=by
       cases E with
       |val z=>obtain⟨ob,f,Y,V⟩:=Ux R z;grind
       |skip z=>grind [Ux]
       |call z _=>grind [Ux]
       |round z _=>grind [Ux]
       |alts z=>grind
      obtain⟨ob1,f,Y,rfl,rfl⟩:=hv;have q:Yu X.C F1 v e.nx (h.push ob1) K cs:=G.mono (by rw[I];exact a.le) (by simp) (fun b W=>by simp[Nat.ne_of_lt W]);refine fin (cs2:=cs) w a q p ⟨0,fun m _=>⟨f h.nx,?_⟩⟩;unfold Iq;grind
     |false=>
      rw[R]at c;simp only[wg]at c;cases D:(yc anc i j (Ht X.sp j o.op) K&&oS j o.op)with
      |false=>grind [Ev.AD]
      |true=>
       rw[D]at c;simp only[we]at c;simp only[ze]at D;obtain⟨J,hnr⟩:=D;obtain⟨l,E,S,A⟩:=H4 r u c;obtain⟨⟨⟨x,O⟩,rfl⟩,hna⟩:=S.1 rfl;obtain⟨n1,w,e,p,F1,v,s,d,a,htch⟩:=A _<|zc.2 rfl;simp only at d a htch;obtain⟨Y,V⟩:=Yu.apart u a htch G J;rw[I]at a;refine fin w a V p ?_;have hh:∃M,∀m,M<=m->D7 X.C (Ba X.C m) fr h o=some (x,O):=by
        cases E with
        |val z=>exact⟨0,(by grind [D7])⟩
        |skip z=>exact⟨0,(by grind [D7])⟩
        |alts z=>grind
        |round z _=>grind [oS]
        |@call g args _ M z hM=>exact⟨M,(by grind [D7])⟩
       obtain⟨M,hM⟩:=hh;refine⟨M,fun m hm=>⟨x,?_⟩⟩;unfold Iq;grind
   ·cases hv:CQ o with
    |false=>
     rw[hv]at c;unfold Nw at c;split at c
     case h_2=>grind [Ev.AD]
     rename_i e d;obtain⟨s,g1,g2,g3,g4⟩:=u.put (x:=.tup []) (by simp[PR]) d;refine fin (cs2:=cs) ae ⟨g2,by rw[g3,I];exact zk,zd _⟩ ah c ⟨0,fun m _=>⟨.tup [],?_⟩⟩;unfold Iq;grind
    |true=>
     rw[hv]at c;cases J:yc anc i j (some []) K with
     |false=>grind [Ev.AD]
     |true=>
      rw[J]at c;unfold Nw at c;split at c
      case h_2=>grind [Ev.AD]
      rename_i e d;obtain⟨s,g1,g2,g3,g4⟩:=u.put (x:=.tup []) (by simp[PR]) d;have a:Dh B h0 F ρ j.nx h e s h F ρ:=⟨g2,by rw[g3];exact zk,zd _⟩;obtain⟨Y,V⟩:=Yu.apart (t:=some []) u a (by simp) G J;rw[I]at a;refine fin ae a V c ⟨0,fun m _=>⟨.tup [],?_⟩⟩;unfold Iq;grind
theorem dC{call:F9}(c:Fx B h0 X false call){ops:Array Oper}{k:AN->Tr}(hr:Rel B h0 F ρ st fr h)(e:Ev X Q n (Ko X.C.T X.sp call ops (EG ops).a (EG ops).ord st [] k)):
  ∃n',n'<=n/\∃b,Ev X Q n' (k b)/\∃F' ρ' fr' h',Dh B h0 F ρ st.nx h b fr' h' F' ρ'/\∃M,∀m,M<=m->IE X.C (Ba X.C m) ops fr h=some (fr',h'):=by
 obtain⟨n',g,b,d,F',ρ',fr',h',i,M,l⟩:=Qb (cs:=[]) c hr (by rfl) e;refine⟨n',g,b,d,F',ρ',fr',h',i,M,fun m j=>?_⟩;grind [IE]
end
section
variable {B:Nat}{h0:H0}{F:Fz}{ρ ρ':Ec}{N N':Nat}{f:Nat->Option Nat}
mutual
theorem QR(d:∀i j,i<N->f i=some j->j<N'/\ρ' j=ρ i):∀ {p:PV} {v:V},PR F ρ N p v->PR F ρ' N' (IB f p) v
 | .any,_,_=>by simp[IB,PR]
 | .bl _,_,h=>by grind [IB,PR]
 | .ub,_,h=>by grind [IB,PR]
 | .dat _ _,_,h=>by grind [IB,PR]
 | .nil,_,h| .nilp,_,h| .nilm,_,h| .nilf,_,h| .nili,_,h=>by simpa only[IB,PR]using h
 | .BL _ _ _,_,h=>by grind [IB,PR]
 | .agg l,_,h=>by obtain⟨cs,rfl,c⟩:=h;exact⟨cs,rfl,EI d c⟩
 | .tup l,_,h=>by obtain⟨cs,rfl,c⟩:=h;exact⟨cs,rfl,EI d c⟩
 | .fn g a b,_,h=>by obtain⟨x,y,rfl,c,e⟩:=h;exact⟨x,y,rfl,EI d c,EI d e⟩
 | .ptr i o,_,h=>by
  grind [IB,PR]
 | .eptr i _ _ _,_,h=>by
  grind [IB,PR]
 | .sl i _ _ _ _,_,h=>by
  grind [IB,PR]
 | .yl i,_,h=>by
  grind [IB,PR]
 | .mp i,_,h=>by
  grind [IB,PR]
theorem EI(a:∀i j,i<N->f i=some j->j<N'/\ρ' j=ρ i):∀ {ps:List PV} {vs:List V},BE F ρ N ps vs->BE F ρ' N' (Km f ps) vs
 |[],_,h=>by simpa [Km]using h
 |p::ps,_,h=>by
  obtain⟨v,vs,rfl,b,c⟩:=h;simp only[Km,BH];exact⟨QR a b,EI a c⟩
end
theorem Sx(f:PV->PV):∀(sl:List (Nat×PV)) (m a:PM PV),(∀t,a.get t=(m.get t).map f)->∀t,((sl.map fun x=>(x.1,f x.2)).foldl (fun m x=>m.set x.1<|some x.2) a).get t=((sl.foldl (fun m x=>m.set x.1<|some x.2) m).get t).map f
 |[],_,_,h,t=>h t
 |x::sl,m,a,h,t=>by
  refine Sx f sl _ _ (fun t=>?_) t;grind [PM.Dv]
theorem X8(f:PV->PV)(a:f .any=.any)(sl:List (Nat×PV))(t:Nat):Qz (sl.map fun x=>(x.1,f x.2)) t=f (Qz sl t):=by
 unfold Qz ER;rw[Sx f sl .leaf .leaf (by simp) t];cases (sl.foldl (fun m x=>m.set x.1<|some x.2) PM.leaf).get t with
 |none=>grind
 |some x=>rfl
theorem rL(d:∀i j,i<N->f i=some j->j<N'/\ρ' j=ρ i){n:Nat}{o:Obj}{x:O}(h:Yc F ρ N n o x):Yc F ρ' N' n (Pr f o) x:=by
 cases o with
 |arr fz e s l=>exact h
 |box ps=>grind [EI,Yc,Pr]
 |tbox t ps=>grind [EI,Yc,Pr]
 |lp g r ps asg body s n sl=>
  obtain⟨ls,b,q,m,k,a,c,u⟩:=h;refine⟨ls,b,q,m,k,a,c,fun t=>?_⟩;rw[X8 (IB f)<|by rfl];exact QR d<|u t
 |map ks vs l=>exact h
 |siter s p=>exact h
theorem Wa(o:Obj):(Pr f o).frozen=o.frozen:=by cases o<;>rfl
theorem Jv{st:AN}{base:Nat}:∀(n:Nat) (c acc:List Nat),(∀i∈acc,base<=i/\(st.obj i).isSome=true)->acc.Nodup->(∀i∈Jp st base n c acc,base<=i/\(st.obj i).isSome=true)/\(Jp st base n c acc).Nodup
 |0,_,acc,a,b=>⟨a,b⟩
 |n+1,[],acc,a,b=>⟨a,b⟩
 |n+1,i::c,acc,a,b=>by
  unfold Jp;cases g:(zl i base||acc.any (zf i))with
  |true=>exact Jv n c acc a b
  |false=>
   cases e:st.obj i with
   |none=>exact Jv n c acc a b
   |some o=>
    have l:base<=i:=by
     grind [DJ]
    have d:i∉acc:=by
     grind [Nat.beq_refl]
    refine Jv n _ _ (fun j k=>?_) ?_
    ·grind
    grind
theorem Qu{base:Nat}:∀(b:List Nat) (n i j:Nat),b.Nodup->QO base b n i=some j->(∃k,b[k]?=some i/\j=n+k)\/(i∉b/\i<base/\j=i)
 |[],n,i,j,_,h=>by
  unfold QO at h;cases o:zl i base with
  |false=>grind
  |true=>simp_all
 |a::b,n,i,j,l,h=>by
  unfold QO at h;rw[Bn]at h;by_cases e:i=a
  ·simp_all
  ·simp only[e,decide_false,wg]at h;have c:=List.nodup_cons.1 l;rcases Qu b (Nat.add n 1) i j c.2 h with⟨k,d,g⟩|⟨d,g,m⟩
   ·exact .inl ⟨k+1,by grind,by grind⟩
   grind
theorem ZP(f:Nat->Option Nat)(base:Nat):∀(l:Ob) (j:Nat),AS (low f base l) j=if j<base then(AS l j).map (Pr f)else none
 |[],j=>by simp[low,AS]
 |(i,o)::l,j=>by
  simp only[low];have c:=ZP f base l j;by_cases a:i<base
  ·rw[DJ a];simp only[we,AS,Bn];grind
  ·have:zl i base=false:=by
    cases b:zl i base with
    |false=>rfl
    |true=>exact wh (zu b) a
   rw[this];simp only[wg,AS,Bn];grind
theorem Wg{st:AN}(f:Nat->Option Nat):∀(a:List Nat) (n:Nat) (b:Ob) (j:Nat),(∀i∈a,(st.obj i).isSome=true)->AS (kept st f a n b) j=(if n<=j/\j<n+a.length then(a[j-n]?).bind fun i=>(st.obj i).map (Pr f)else AS b j)
 |[],n,b,j,_=>by simp_all [kept,wc]
 |i::a,n,b,j,h=>by
  obtain⟨o,c⟩:=Option.isSome_iff_exists.1 (h i (by simp));unfold kept;rw[c];rw[Wg f a (Nat.add n 1) _ j ah];by_cases d:n+1<=j/\j<n+1+a.length
  ·grind
  ·simp only[AS,Bn];grind
theorem GK:∀(vs:List (Nat×PV)) (m:PM PV) (t:Nat) (p:PV),(vs.foldl (fun m x=>m.set x.1<|some x.2) m).get t=some p->(t,p)∈vs\/m.get t=some p
 |[],m,t,p,h=>.inr h
 |x::vs,m,t,p,h=>by
  rcases GK vs _ t p h with h1|h1
  ·grind
  grind [PM.Dv]
theorem fP{st:AN}{fr:Fr}{h:H}(hr:Rel B h0 F ρ st fr h)(base:Nat)(L:List Nat)(_hb:base<=st.nx):
  ∃ρ',Rel B h0 F ρ' (canon base L st) fr h/\base<=(canon base L st).nx/\∀id,id<base->ρ' id=ρ id:=by
 generalize r:Jp st base 100 (Kr ((L.map fun t=>(t,st.get t)).map (·.2))++Q3 base st.ob) []=ids;have z:=Jv (st:=st) (base:=base) 100 (Kr ((L.map fun t=>(t,st.get t)).map (·.2))++Q3 base st.ob) [] (by simp) List.nodup_nil;rw[r]at z;obtain⟨T,E⟩:=z;let g:=QO base ids base
 let e:Ec:=fun id=>if id<base then ρ id else(ids[id-base]?).bind ρ
 have y:∀id,id<base->e id=ρ id:=ah;have v:∀k i,ids[k]?=some i->e (base+k)=ρ i:=by
  grind
 have D:canon base L st=Ay st.n ((L.map fun t=>(t,st.get t)).map fun x=>(x.1,IB g x.2)) (kept st g ids base<|low g base st.ob) (base+ids.length):=by
  rw[show g=QO base ids base from rfl, <-r];rfl
 have O:∀i j,i<st.nx->g i=some j->j<base+ids.length/\e j=ρ i:=by
  intro i j _ G;rcases Qu ids base i j E G with⟨k,h1,rfl⟩|⟨_,q,rfl⟩
  ·grind
  grind
 have A:∀j,AS (kept st g ids base<|low g base st.ob) j=if j<base then(AS st.ob j).map (Pr g)else(ids[j-base]?).bind fun i=>(st.obj i).map (Pr g):=by
  intro j;rw[Wg g ids base _ j ah,ZP];grind
 have src:∀j o',AS (kept st g ids base<|low g base st.ob) j=some o'->∃i o,AS st.ob i=some o/\o'=Pr g o/\e j=ρ i/\j<base+ids.length/\((j<base/\i=j)\/(base<=j/\ids[j-base]?=some i/\base<=i)):=by
  intro j o' l;rw[A]at l;by_cases h1:j<base
  ·rw[wd h1,zj]at l;grind
  ·rw[wc h1]at l;cases u:ids[j-base]? with
   |none=>grind
   |some i=>
    rw[u]at l;simp only[Option.bind_some,zj]at l;obtain⟨o,q,rfl⟩:=l;have Z:=(zx.1 u).1;have:=v (j-base) i u;rw[show base+(j-base)=j from by omega]at this;exact⟨i,o,q,rfl,this,by omega,ah⟩
 refine⟨e,?_,by rw[D];show base<=base+ids.length;omega,y⟩;rw[D];refine⟨⟨hr.fp.n,fun t=>?_⟩,⟨fun j o' l=>?_,fun i j oi oj c m U W l h1 q=>?_,hr.sr.frz,fun id b m d=>?_,fun j l=>?_,hr.sr.old,hr.sr.lt,hr.sr.le,hr.sr.fo,hr.sr.gl,fun c D=>?_⟩⟩
 ·generalize I:((L.map fun t=>(t,st.get t)).map fun x=>(x.1,IB g x.2))=vs;show PR F e (base+ids.length) (((ER vs).get t).getD .any)<|fr.get t;cases hp:(ER vs).get t with
  |none=>grind [PR]
  |some p=>
   rcases GK vs .leaf t p hp with h1|h1
   ·rw[<-I]at h1;simp only[List.map_map,yf,Function.comp]at h1;obtain⟨s,_,q⟩:=h1;cases q;exact QR O (hr.fp.slot _)
   simp_all
 ·obtain⟨i,o,h1,rfl,q,h3,_⟩:=src j o' l;obtain⟨b,m,x,k1,k2,k3,k4⟩:=hr.sr.obj i o h1;exact⟨b,m,x,q.trans k1,k2,rL O k3,by rw[Wa];exact k4⟩
 ·obtain⟨a,o,M,_,K,_,J⟩:=src i oi W;obtain⟨a',o',g4,_,g5,_,g6⟩:=src j oj l;rw[K]at h1;rw[g5]at q;have R:=hr.sr.inj a a' o o' c m U M g4 h1 q;rcases J with⟨V,P⟩|⟨V,P,e3⟩<;>rcases g6 with⟨Y,S⟩|⟨Y,S,f3⟩
  ·omega
  ·omega
  ·omega
  grind [List.getElem?_inj]
 ·have d:(if id<base then ρ id else(ids[id-base]?).bind ρ)=some (b,m):=d;by_cases h1:id<base
  ·rw[wd h1]at d;exact⟨by show id<base+ids.length;omega,(hr.sr.own id b m d).2⟩
  ·rw[wc h1]at d;cases u:ids[id-base]? with
   |none=>grind
   |some i=>
    rw[u]at d;have:=(zx.1 u).1;exact⟨by show id<base+ids.length;omega,(hr.sr.own i b m d).2⟩
 ·have w:AS (kept st g ids base<|low g base st.ob) j=none:=l;rw[A]at w;show(if j<base then ρ j else(ids[j-base]?).bind ρ)=none;by_cases h1:j<base
  ·rw[wd h1]at w ⊢;exact hr.sr.dead j (by simp_all)
  ·rw[wc h1]at w ⊢;cases u:ids[j-base]? with
   |none=>rfl
   |some i=>
    grind [Option.map_eq_none_iff]
 ·obtain⟨M,K,J⟩:=hr.sr.pn c D;grind
end
section
variable {B:Nat}{h0:H0}{X:AO}{F:Fz}{ρ:Ec}{N:Nat}{h:H}
theorem fK(h0:H0)(a b:List Nat):(h0.pins a).pins b=h0.pins (b++a):=by unfold H0.pins;simp
theorem SR.mW{ob:Ob}{ps:List Nat}(hr:SR B (h0.pins ps) F ρ N ob h):SR B h0 F ρ N ob h:=
 ⟨hr.obj,hr.inj,hr.frz,hr.own,hr.dead,hr.old,hr.lt,hr.le,hr.fo,hr.gl,fun b a=>hr.pn b<|List.mem_append_right _ a⟩
theorem SR.mark{ob:Ob}(hr:SR B h0 F ρ N ob h):SR B (h0.pins [h.nx]) F ρ N ob (h.push<|.defd true):=by
 have i:∀b y,h.get b=some y->b≠h.nx:=fun b y u=>by have:=hr.lt b y u;omega
 have g:∀b y,h.get b=some y->(h.push<|.defd true).get b=some y:=(by simp_all);refine⟨fun j oj r=>?_,hr.inj,fun c cs a=>?_,hr.own,hr.dead,fun c a k=>?_,fun c q a=>?_,?_,hr.fo,hr.gl,fun c a=>?_⟩
 ·obtain⟨c,m,y,v,z,x⟩:=hr.obj j oj r;grind
 ·obtain⟨t,fz,D⟩:=hr.frz c cs a;grind
 ·have:=hr.le;rw[H.CE,wc ae];exact hr.old c a k
 ·rw[H.CE]at a;by_cases e:c=h.nx
  ·simp_all
  ·rw[wc e]at a;have:=hr.lt c q a;show c<h.nx+1;omega
 ·have:=hr.le;show B<=h.nx+1;omega
 ·rcases List.mem_append.1 a with a|a
  ·cases zc.1 a;refine⟨by simp,hr.le,fun id n e=>?_⟩;by_cases d:∃o,AS ob id=some o
   ·obtain⟨o,l⟩:=d;obtain⟨c,m,y,s,p,_⟩:=hr.obj id o l;grind
   ·have:AS ob id=none:=by
     cases w:AS ob id with
     |none=>rfl
     |some o=>grind
    rw[hr.dead id this]at e;cases e
  ·obtain⟨s,p,A⟩:=hr.pn c a;grind
theorem SR.aN{ob:Ob}(hr:SR B h0 F ρ N ob h){b:Nat}{x y:O}(t:∀id o n,AS ob id=some o->ρ id≠some (b,n))(v:F b=none)(q:h0.dY B b)(u:b∉h0.pin)(s:h.get b=some x):SR B h0 F ρ N ob (h.put b y):=by
 refine⟨fun j oj r=>?_,hr.inj,fun c cs a=>?_,hr.own,hr.dead,fun c a d=>?_,fun c p a=>?_,hr.le,hr.fo,hr.gl,fun c a=>?_⟩
 ·obtain⟨c,m,y,g,l,i⟩:=hr.obj j oj r;have:c≠b:=ah;exact⟨c,m,y,g,by simp_all,i⟩
 ·have:c≠b:=ah;rw[H.B3,wc this];exact hr.frz c cs a
 ·have:c≠b:=Ow q a d;rw[H.B3,wc this];exact hr.old c a d
 ·rw[H.B3]at a;split at a
  ·rename_i e;subst e;exact hr.lt _ _ s
  ·exact hr.lt c p a
 ·obtain⟨g,l,i⟩:=hr.pn c a;have k:c≠b:=ah;simp_all
theorem SR.leave{ob:Ob}:∀ {ps:List Nat} {h:H},ps.Nodup->(∀b∈ps,b∉h0.pin)->SR B (h0.pins ps) F ρ N ob h->∃a,G7 ps h=some a/\SR B h0 F ρ N ob a/\a.nx=h.nx/\∀b,b∉ps->a.get b=h.get b
 |[],h,_,_,hr=>⟨h,rfl,hr,rfl,fun _ _=>rfl⟩
 |p::ps,h,d,j,hr=>by
  obtain⟨i,e,o⟩:=hr.pn p (by simp[H0.pins]);rw[List.nodup_cons]at d;have c:SR B ((h0.pins ps).pins [p]) F ρ N ob h:=by exact hr
  have hp:SR B (h0.pins ps) F ρ N ob (h.put p<|.defd false):=by
   refine SR.aN c.mW ah ?_ (.inl e) ?_ i
   ·cases g:F p with
    |none=>rfl
    |some cs=>obtain⟨t,fz,k⟩:=hr.frz p cs g;grind
   grind [H0.pins]
  obtain⟨a,l,q,m,r⟩:=SR.leave d.2 ah hp;simp_all [G7]
theorem jJ{st:AN}{fr:Fr}(hr:Rel B h0 F ρ st fr h)(base:Nat)(x:Nat×Sh):∃F1 A,Rel B h0 F1 A (Aah base x st) fr h/\(Aah base x st).nx=st.nx/\(∀id,id<base->A id=ρ id)/\∀b cs,F b=some cs->F1 b=some cs:=by
 have p:=hr.fp.slot x.1;unfold Aah;split
 case h_1=>
  rename_i D;rw[D]at p;exact⟨F,ρ,hr.note (by rw[p];simp[PR,DC]),rfl,fun _ _=>rfl,fun _ _ h=>h⟩
 case h_4=>grind
 case h_3=>
  rename_i id D;cases U:zi base id with
  |false=>grind
  |true=>
  have U:=zu U;split
  case h_2=>grind
  rename_i ps w;split
  case h_2=>grind
  rename_i v hv;rw[D]at p;obtain⟨b,n,y,E,h2,V,W,-⟩:=hr.sr.at w;obtain⟨cs,t,fz,rfl,h4,h5⟩:=V;have Y:F b=none:=W rfl;have a:∀c cs',F c=some cs'->(fun c=>if c=b then some cs else F c) c=some cs':=by
   grind
  have q:=(CV h4 hv);have P:=q.len;have g:Le F ρ st.nx (fun c=>if c=b then some cs else F c) (Bu ρ id none) st.nx:=(Le.eJ a).trans<|Le.Ju id;have u:Le F (Bu ρ id none) st.nx (fun c=>if c=b then some cs else F c) (Bu ρ id none) st.nx:=Le.eJ a;have d:=hr.sr.del id;have R:∀j m,Bu ρ id none j=some (b,m)->∀oj,AS (GV st.ob id) j=some oj->False:=by
   intro j m o oj k;rw[Du]at k;split at k
   ·cases k
   ·rename_i S;simp only[Bu,S,vf]at o;exact S<|hr.sr.inj j id oj _ b m n k w o E
  have L:SR B h0 (fun c=>if c=b then some cs else F c) (Bu ρ id none) st.nx (GV st.ob id) h:=by
   refine⟨fun j oj k=>?_,d.inj,fun c cs' r=>?_,d.own,d.dead,d.old,d.lt,d.le,fun c cs' r=>?_,d.gl,d.pn⟩
   ·obtain⟨c,m,z,o,G,K,g4,g5⟩:=d.obj j oj k;exact⟨c,m,z,o,G,K.mono u,ah,ah⟩
   ·split at r
    ·grind
    ·exact d.frz c cs' r
   ·split at r
    ·rename_i Z;subst Z;exact .inr (hr.sr.own id c n E).2
    ·exact d.fo c cs' r
  have i:Rel B h0 (fun c=>if c=b then some cs else F c) (Bu ρ id none) (st.FQ id) fr h:=⟨⟨hr.fp.n,fun t=>(hr.fp.slot t).mono g⟩,L⟩;refine⟨_,_,i.note ?_,rfl,fun j k=>by unfold Bu;grind,a⟩;have O:=p.2 b n E;exact⟨b,0,cs,by rw[O],by simp,by omega,by rw[ya,zr ae];exact q.mono a⟩
 rename_i id sz off len cap D;split
 case h_2=>grind
 rename_i fz e s l w;cases hz:zf sz s.sz with
 |false=>grind
 |true=>
 rw[D]at p;obtain⟨F1,o,G,K⟩:=Ny hr.sr p;have M:Bz st (.sl id sz off len cap)=st.setObj id (.arr true e s l):=by simp[Bz,w]
 rw[M]at o;have g:Le F ρ st.nx F1 ρ st.nx:=⟨G,(by simp),zd _⟩;have T:off+len<=l.length:=by
  obtain⟨b,n,y,E,_,⟨_,_,_,_,_,h6⟩,-⟩:=hr.sr.at w;grind [PR]
 have J:Cr st (.sl id sz off len cap)=some (true,.dat (.list s)<|(l.drop off).take len):=by
  simp_all [Cr]
 have I:=K _ J;have i:Rel B h0 F1 ρ (st.setObj id<|.arr true e s l) fr h:=⟨⟨hr.fp.n,fun t=>(hr.fp.slot t).mono g⟩,o⟩;exact⟨F1,ρ,i.note<|I ρ _,rfl,fun _ _=>rfl,G⟩
theorem Vk{fr:Fr}(base:Nat):∀(l:List (Nat×Sh)) {st:AN} {F:Fz} {ρ:Ec},Rel B h0 F ρ st fr h->∃F1 a,Rel B h0 F1 a (mN base l st) fr h/\(mN base l st).nx=st.nx/\(∀id,id<base->a id=ρ id)/\∀b cs,F b=some cs->F1 b=some cs
 |[],st,F,ρ,hr=>⟨F,ρ,hr,rfl,fun _ _=>rfl,fun _ _ h=>h⟩
 |x::l,st,F,ρ,hr=>by
  obtain⟨F1,a,c,g,d,e⟩:=jJ hr base x;obtain⟨F2,ρ2,h4,h5,h0'',h6⟩:=Vk base l c;grind [mN]
theorem O9{st:AN}{fr:Fr}{base:Nat}(hr:Rel B h0 F ρ st fr h)(f:FuncId)(r:Nat)(g:base<=st.nx):
  ∃F1 ρ',Rel B h0 F1 ρ' (Mz X f r base st) fr h/\base<=(Mz X f r base st).nx/\(∀id,id<base->ρ' id=ρ id)/\∀b cs,F b=some cs->F1 b=some cs:=by
 obtain⟨F1,c,a,i,d,e⟩:=Vk base (X.fz f r) hr;obtain⟨ρ',g1,g2,g3⟩:=fP a base (X.pl f r) ae;grind [Mz]
def G1(B:Nat)(h0:H0)(X:AO)(base n:Nat)(Q:PV->Ob->Prop)(k:DX->AN->Tr)(F:Fz)(ρ:Ec)(h:H)(nd:Bool)(run:Nat->Nat->Option (List Det.X))(ds:List Nat):Prop:=
 ∃l M,(∀m,M<=m->∀q,M<=q->run m q=some l)/\(nd=false->∃x,l=[x])/\∀x∈l,∃ps,(x.ds=ps++ds/\ps.Nodup/\∀b∈ps,h.nx<=b)/\∃n',n'<=n/\∃a,Ev X Q n' (k x.e a)/\∃F' ρ',Rel B (h0.pins ps) F' ρ' a x.fr x.h/\base<=a.nx/\Le F ρ base F' ρ' base/\h.nx<=x.h.nx
theorem Le.low{F F':Fz}{ρ ρ':Ec}{N N' base:Nat}(a:Le F ρ N F' ρ' N')(b:base<=N):Le F ρ base F' ρ' base:=
 ⟨a.fz,fun id h=>a.rho id ae,zd _⟩
theorem Qr{nd ro:Bool}{d:Nat}{f:FuncId}{base:Nat}{rv:Option Nat}{ct:Bool}(hrv:ro=false->rv=none/\ct=true)(hcall:∀h0,Fx B h0 X nd<|Ci X nd d)(hcallD:∀h0,Fx B h0 X false<|Ci X false d){Q:PV->Ob->Prop}:∀(n:Nat) (c:Code) {h0:H0} {st:AN} {k:DX->AN->Tr} {F:Fz} {ρ:Ec} {fr:Fr} {h:H} (ds:List Nat),base<=st.nx->Rel B h0 F ρ st fr h->
  Ev X Q n (exec X (Ci X nd d) (Ci X false d) nd ro d f base c st k)->G1 B h0 X base n Q k F ρ h nd (fun m q=>By X.C (Ba X.C m) rv ct q c fr h ds) ds:=by
 intro n;induction n using Nat.strongRecOn with
 |_ n IH=>
 have one:∀ {h0:H0} {e:DX} {st:AN} {k:DX->AN->Tr} {F:Fz} {ρ:Ec} {fr:Fr} {h:H} {ds:List Nat} {c:Code},base<=st.nx->Rel B h0 F ρ st fr h->Ev X Q n (k e st)->(∀m q,1<=q->By X.C (Ba X.C m) rv ct q c fr h ds=some [⟨e,fr,h,ds⟩])->
   G1 B h0 X base n Q k F ρ h nd (fun m q=>By X.C (Ba X.C m) rv ct q c fr h ds) ds:=by
  intro h0 e st k F ρ fr h ds c A hr v hd;exact⟨[⟨e,fr,h,ds⟩],1,ah,(by simp),fun x J=>by
   cases zc.1 J;exact⟨[],(by simp),n,zd _,st,v,F,ρ,hr,A,zk,zd _⟩⟩
 have D:∀ {q:Nat},1<=q->∃q',q=q'+1:=fun h=>⟨_,(Nat.succ_pred_eq_of_pos h).symm⟩
 have chain:∀ {h0:H0} {F:Fz} {ρ:Ec} {h:H} {ds:List Nat} {k k2:DX->AN->Tr} {n1:Nat} {run:Nat->Nat->Option (List Det.X)} {run2:Nat->Nat->Det.X->Option (List Det.X)},n1<=n->G1 B h0 X base n1 Q k2 F ρ h nd run ds->
   (∀(x:Det.X) (ps:List Nat),∀n1',n1'<=n1->∀u,Ev X Q n1' (k2 x.e u)->∀F' ρ',Rel B (h0.pins ps) F' ρ' u x.fr x.h->base<=u.nx->G1 B (h0.pins ps) X base n Q k F' ρ' x.h nd (fun m q=>run2 m q x) x.ds)->
   G1 B h0 X base n Q k F ρ h nd (fun m q=>match run m q with|some l=>bl l (run2 m q)|none=>none) ds:=by
  rintro h0 F ρ h ds k k2 n1 run run2 Z ⟨l,M,h1,h2,h3⟩ hnext;obtain⟨r,M2,g1,g2,g3⟩:=JS (f:=run2) (P:=fun x=>∃ps,(x.ds=ps++ds/\ps.Nodup/\∀b∈ps,h.nx<=b)/\∃n',n'<=n/\∃u,Ev X Q n' (k x.e u)/\∃F' ρ',Rel B (h0.pins ps) F' ρ' u x.fr x.h/\base<=u.nx/\Le F ρ base F' ρ' base/\h.nx<=x.h.nx) h2 fun x J=>by
   obtain⟨V,⟨k0,kn,kl⟩,n',k1,u,k2',F',ρ',k3,k4,k5,k6⟩:=h3 x J;obtain⟨r,M,j1,j2,j3⟩:=hnext x V n' k1 u k2' F' ρ' k3 k4;refine⟨r,M,j1,j2,fun y hy=>?_⟩;obtain⟨ps2,⟨i0,i0n,i0l⟩,n2,i1,S,i2,F2,L,i3,i4,i5,i6⟩:=j3 y hy;refine⟨ps2++V,⟨by grind,?_,fun b A=>?_⟩,n2,i1,S,i2,F2,L,by grind [fK],i4,k5.trans i5,ae⟩
   ·rw[List.nodup_append];refine⟨i0n,kn,fun a ha b A e=>?_⟩;have h1:=i0l a ha;have h2:=k3.sr.lt b _ (k3.sr.pn b<|List.mem_append_left _ A).1;omega
   grind
  exact⟨r,max M M2,ah,g2,g3⟩
 have stepq:∀ {h0:H0} {F:Fz} {ρ:Ec} {h:H} {ds:List Nat} {k:DX->AN->Tr} {run run':Nat->Nat->Option (List Det.X)},G1 B h0 X base n Q k F ρ h nd run ds->(∀m q,run' m (q+1)=run m q)->G1 B h0 X base n Q k F ρ h nd run' ds:=by
  rintro h0 F ρ h ds k run run' ⟨l,M,h1,h2,h3⟩ v;refine⟨l,M+1,fun m hm q T=>?_,h2,h3⟩;obtain⟨q',rfl⟩:=D (show 1<=q by omega);grind
 intro c;induction c with
 |skip=>
  intro h0 st k F ρ fr h ds A hr v;exact one A hr v (fun m q T=>by obtain⟨q',rfl⟩:=D T;rfl)
 |label l=>
  intro h0 st k F ρ fr h ds A hr v;exact one A hr v (fun m q T=>by obtain⟨q',rfl⟩:=D T;rfl)
 |exit i=>
  intro h0 st k F ρ fr h ds A hr v;exact one A hr v (fun m q T=>by obtain⟨q',rfl⟩:=D T;rfl)
 |ret=>
  intro h0 st k F ρ fr h ds A hr v;exact one A hr v (fun m q T=>by obtain⟨q',rfl⟩:=D T;rfl)
 |region id ops dr=>
  intro h0 st k F ρ fr h ds A hr v;unfold exec at v;cases dr with
  |true=>
   simp only[we]at v;cases hst:(!ro||Io ops (EG ops))with
   |false=>grind [Ev.AD]
   |true=>
   rw[hst]at v;simp only[we]at v;have hdd:∀call,(bif ct then IE X.C call ops fr h else Wc X.C call ops fr h)=IE X.C call ops fr h:=by
    intro call;cases hro:ro with
    |false=>grind
    |true=>
     rw[hro]at hst;have hst:Io ops (EG ops)=true:=hst;simp_all [Wc]
   obtain⟨n',hn,u,w,F',ρ',fr',h',I,M,hM⟩:=dC (hcallD h0) hr v;refine⟨[⟨.normal,fr',h',ds⟩],M+1,fun m hm q T=>?_,(by simp),fun x J=>?_⟩
   ·obtain⟨q',rfl⟩:=D (show 1<=q by omega);have:=hM m ae;simp only[By,we];grind
   ·cases zc.1 J;exact⟨[],(by simp),n',hn,u,w,F',ρ',I.rel,zp A I.le.n,I.le.low A,I.nx⟩
  |false=>
   simp only[wg]at v;obtain⟨r,M,hM,hone,hall⟩:=VR (hcall h0) hr v;refine⟨r.map fun x=>⟨.normal,x.1,x.2,ds⟩,M+1,fun m hm q T=>?_,fun e=>?_,fun x J=>?_⟩
   ·obtain⟨q',rfl⟩:=D (show 1<=q by omega);simp only[By,wg,hM m ae]
   ·obtain⟨y,rfl⟩:=hone e;simp
   ·obtain⟨y,hy,rfl⟩:=yf.1 J;obtain⟨n',hn,u,w,F',ρ',I⟩:=hall y hy;exact⟨[],(by simp),n',hn,u,w,F',ρ',I.rel,zp A I.le.n,I.le.low A,I.nx⟩
 |seq a b iha ihb=>
  intro h0 st k F ρ fr h ds A hr v;unfold exec at v;refine stepq (chain (run2:=fun m q x=>match x.e with| .normal=>By X.C (Ba X.C m) rv ct q b x.fr x.h x.ds|_=>some [x]) ae (iha ds A hr v) fun x V n1 Z u w F' ρ' R Y=>?_)<|fun m q=>rfl;obtain⟨e,U,h1,E⟩:=x;cases e with
  |normal=>
   have rest:∀ {S:AN} {F2:Fz} {L:Ec} {n2:Nat},n2<=n->Rel B (h0.pins V) F2 L S U h1->base<=S.nx->(∀id,id<base->L id=ρ' id)->(∀b cs,F' b=some cs->F2 b=some cs)->Ev X Q n2 (exec X (Ci X nd d) (Ci X false d) nd ro d f base b S k)->
     G1 B (h0.pins V) X base n Q k F' ρ' h1 nd (fun m q=>By X.C (Ba X.C m) rv ct q b U h1 E) E:=by
    intro S F2 L n2 hn2 hr2 hb2 hρ2 hF2 G;have hl0:Le F' ρ' base F2 L base:=⟨hF2,ah,zd _⟩;have hc:G1 B (h0.pins V) X base n Q k F2 L h1 nd (fun m q=>By X.C (Ba X.C m) rv ct q b U h1 E) E:=by
     by_cases hlt:n2<n
     ·obtain⟨l,M,h1,h2,h3⟩:=IH n2 hlt b E hb2 hr2 G;exact⟨l,M,h1,h2,ah⟩
     grind
    obtain⟨l,M,h1,h2,h3⟩:=hc;exact⟨l,M,h1,h2,fun x J=>by
     obtain⟨ps,k0,n3,k1,st3,k2,F3,ρ3,k3,k4,k5,k6⟩:=h3 x J;exact⟨ps,k0,n3,k1,st3,k2,F3,ρ3,k3,k4,hl0.trans k5,k6⟩⟩
   simp only at w;cases hct:X.ct f (BB b)with
   |false=>grind
   |true=>
    rw[hct]at w;simp only[we]at w;cases w with
    |cut w=>
     obtain⟨F2,ρ0,hr0,hb0,hρ0,hF⟩:=O9 R f (BB b) Y;exact rest Z hr0 hb0 hρ0 hF w
  |exit i=>exact⟨[⟨.exit i,U,h1,E⟩],0,(by simp),(by simp),fun x J=>by cases zc.1 J;exact⟨[],(by simp),n1,Z,u,w,F',ρ',R,Y,zk,zd _⟩⟩
  |ret=>exact⟨[⟨.ret,U,h1,E⟩],0,(by simp),(by simp),fun x J=>by cases zc.1 J;exact⟨[],(by simp),n1,Z,u,w,F',ρ',R,Y,zk,zd _⟩⟩
 |cond x a b iha ihb=>
  intro h0 st k F ρ fr h ds A hr v;unfold exec at v;have go:∀ {t:Bool} {u:AN},ev X.C fr x=some (.bool t)->Rel B h0 F ρ u fr h->base<=u.nx->Ev X Q n (bif t then exec X (Ci X nd d) (Ci X false d) nd ro d f base a u k else exec X (Ci X nd d) (Ci X false d) nd ro d f base b u k)->G1 B h0 X base n Q k F ρ h nd (fun m q=>By X.C (Ba X.C m) rv ct q (.cond x a b) fr h ds) ds:=by
   grind [By]
  split at v
  case h_4=>grind [Ev.AD]
  case h_3=>
   rename_i ht;obtain⟨y,g1,g2⟩:=Cc (C:=X.C) hr.fp ht;simp only[PR]at g2;obtain⟨t,rfl⟩:=g2;split at v
   case h_2=>grind [Ev.AD]
   rename_i s;have hs:fr.get s=.bool t:=by simpa [ev]using g1
   obtain⟨w,G⟩:=v.Wb;cases t with
   |true=>exact go g1 (hr.note<|by rw[hs];rfl) A w
   |false=>exact go g1 (hr.note<|by rw[hs];rfl) A G
  case h_1=>
   rename_i t ht;obtain⟨y,g1,g2⟩:=Cc (C:=X.C) hr.fp ht;obtain rfl:=OY g2;grind
  case h_2=>
   rename_i t ht;obtain⟨y,g1,g2⟩:=Cc (C:=X.C) hr.fp ht;obtain rfl:=Mn g2;split at v
   case h_1=>
    rename_i s;have hs:fr.get s=.bool t:=by simpa [ev]using g1
    rcases v.EW with⟨K,G⟩|⟨K,G⟩
    ·have K:t=true:=K;subst K;exact go g1 (hr.note<|by rw[hs];rfl) A G
    ·have K:t=false:=K;subst K;exact go g1 (hr.note<|by rw[hs];rfl) A G
   case h_2=>
    rcases v.EW with⟨K,G⟩|⟨K,G⟩
    ·grind
    grind
 |block id b ih=>
  intro h0 st k F ρ fr h ds A hr v;unfold exec at v;obtain⟨l,M,h1,h2,h3⟩:=ih ds A hr v;refine⟨l.map fun x=>match x.e with
    | .exit i=>bif zf i id then { x with e:=.normal }else x
    |_=>x,M+1,fun m hm q T=>?_,fun e=>?_,fun y hy=>?_⟩
  ·obtain⟨q',rfl⟩:=D (show 1<=q by omega);grind [By]
  ·grind
  grind
 |loop b ih=>
  intro h0 st k F ρ fr h ds A hr v;unfold exec at v;cases v with
  |@loop n0 _ _ _ _ _ _ _ _ v=>
  obtain⟨F0,ρ0,hr0,hb0,hρ0,hF0⟩:=O9 hr f (BB b) A;have hl0:Le F ρ base F0 ρ0 base:=⟨hF0,ah,zd _⟩;unfold body at v;have hbody:=IH n0 (Nat.lt_succ_self _) b ds hb0 hr0 v;have hch:G1 B h0 X base (n0+1) Q k F0 ρ0 h nd (fun m q=>match By X.C (Ba X.C m) rv ct q b fr h ds with|some l=>bl l (fun x=>match x.e with| .normal=>By X.C (Ba X.C m) rv ct q (.loop b) x.fr x.h x.ds|_=>some [x])|none=>none) ds:=by
   refine chain (run2:=fun m q x=>match x.e with| .normal=>By X.C (Ba X.C m) rv ct q (.loop b) x.fr x.h x.ds|_=>some [x]) ae hbody fun x V n1 Z u w F' ρ' R Y=>?_
   obtain⟨e,U,h1,E⟩:=x;cases e with
   |normal=>
    have he1':Ev X Q n1 (exec X (Ci X nd d) (Ci X false d) nd ro d f base (.loop b) u k):=by unfold exec;exact w
    obtain⟨l,M,h1,h2,h3⟩:=IH n1 ae (.loop b) E Y R he1';exact⟨l,M,h1,h2,ah⟩
   |exit i=>exact⟨[⟨.exit i,U,h1,E⟩],0,(by simp),(by simp),fun x J=>by cases zc.1 J;exact⟨[],(by simp),n1,by omega,u,w,F',ρ',R,Y,zk,zd _⟩⟩
   |ret=>exact⟨[⟨.ret,U,h1,E⟩],0,(by simp),(by simp),fun x J=>by cases zc.1 J;exact⟨[],(by simp),n1,by omega,u,w,F',ρ',R,Y,zk,zd _⟩⟩
  obtain⟨l,M,g1,g2,g3⟩:=stepq (run':=fun m q=>By X.C (Ba X.C m) rv ct q (.loop b) fr h ds) hch<|fun m q=>rfl;refine⟨l,M,g1,g2,fun x J=>?_⟩;obtain⟨ps,k0,n2,k1,S,k2,F2,L,k3,k4,k5,k6⟩:=g3 x J;exact⟨ps,k0,n2,k1,S,k2,F2,L,k3,k4,hl0.trans k5,k6⟩
 |scope b ih=>
  intro h0 st k F ρ fr h ds A hr v;unfold exec at v;exact stepq (ih ds A hr v)<|fun m q=>rfl
 |rangeFunc g ps a b _ _=>
  intro h0 st k F ρ fr h ds A hr v;unfold exec at v;cases hro:ro with
  |true=>grind [Ev.AD]
  |false=>
  rw[hro]at v;obtain⟨rfl,rfl⟩:=hrv hro;simp only[wg]at v;split at v
  case h_2=>grind [Ev.AD]
  rename_i gf first cap hg
  obtain⟨pq,hprim⟩:∃pq,X.C.prim gf=pq:=⟨_,rfl⟩;cases pq with
  |some q0=>grind [Ev.AD]
  |none=>
  rw[hprim]at v;simp only[Option.isSome_none,wg]at v;obtain⟨gv,g1,g2⟩:=Cc (C:=X.C) hr.fp hg;simp only[PR]at g2;obtain⟨fa,fb,rfl,f1,f2⟩:=g2;have R:=hr.sr.mark;have hr2:=R.push (o:=.lp f (BB b) ps a b .ready st.n<|Mf X f (BB b) st) (x:=.loop ⟨.ready,none,fr,ps,a,b,h.nx⟩) (n:=0) rfl
   ⟨_,rfl,rfl,rfl,rfl,⟨rfl,rfl⟩,hr.fp.n.symm,fun t=>by
    have hl:=Le.new (F:=F) (ρ:=ρ) (N:=st.nx) ((h.push<|.defd true).nx,0);unfold Qz Mf;cases hp:(ER<|(X.pl f<|BB b).map fun t=>(t,st.get t)).get t with
    |none=>simp[PR]
    |some p=>
     rcases GK _ .leaf t p hp with h1|h1
     ·simp only[yf]at h1;obtain⟨s,_,h2⟩:=h1;cases h2;exact(hr.fp.slot _).mono hl
     ·simp at h1⟩
  have hle2:Le F ρ st.nx F (Bu ρ st.nx<|some (h.nx+1,0)) (st.nx+1):=Le.new _;have hrel2:Rel B (h0.pins [h.nx]) F (Bu ρ st.nx<|some (h.nx+1,0)) (st.push<|.lp f (BB b) ps a b .ready st.n<|Mf X f (BB b) st) fr ((h.push<|.defd true).push<|.loop ⟨.ready,none,fr,ps,a,b,h.nx⟩):=
   ⟨⟨hr.fp.n,fun t=>(hr.fp.slot t).mono hle2⟩,hr2⟩
  have hargs:BE F (Bu ρ st.nx<|some (h.nx+1,0)) (st.push<|.lp f (BB b) ps a b .ready st.n<|Mf X f (BB b) st).nx (first++[.yl st.nx]++cap) (fa++[.yld<|h.nx+1]++fb):=by
   refine((f1.mono hle2).append ?_).append<|f2.mono hle2;simp only[BH,DO,ve,PR];exact⟨ae,(by grind [Bu])⟩
  obtain⟨l,hcd,hone,hall⟩:=hcall _ v hrel2 hargs;obtain⟨i,M,hfn,hM⟩:∃i M,X.C.fn gf=some i/\∀m,M<=m->Ba X.C m (.fn gf<|fa++[.yld<|h.nx+1]++fb) ((h.push<|.defd true).push<|.loop ⟨.ready,none,fr,ps,a,b,h.nx⟩)=some l:=by
   cases hcd with
   |Ba hc hM=>obtain⟨rfl,_,i,hfn⟩:=hc;exact⟨i,_,hfn,hM⟩
   |prim T _=>grind
  have hdc:Ip X.C ((h.push<|.defd true).push<|.loop ⟨.ready,none,fr,ps,a,b,h.nx⟩) (.fn (.func gf) fa fb) [.yld<|h.nx+1]=some (.enter gf<|fa++[.yld<|h.nx+1]++fb):=by
   grind [Ip]
  have fin:∀x∈l,∃(r:List Det.X) (M:Nat),(∀m:Nat,M<=m->∀q:Nat,M<=q->(match x.2.get (h.nx+1)with
      |some (.loop ls)=>match ls.st,ls.pend with
       | .busy,_=>none
       |_,none=>some [⟨.normal,fr,x.2.put (h.nx+1)<|.loop { ls with st:=.exhausted },h.nx::ds⟩]
       |_,some c=>By X.C (Ba X.C m) none false q c fr (x.2.put (h.nx+1)<|.loop { ls with st:=.exhausted }) (h.nx::ds)
      |_=>none)=some r)/\(nd=false->∃x,r=[x])/\∀y∈r,∃ps,(y.ds=ps++ds/\ps.Nodup/\∀b∈ps,h.nx<=b)/\∃n',n'<=n/\∃u,Ev X Q n' (k y.e u)/\∃F' ρ',Rel B (h0.pins ps) F' ρ' u y.fr y.h/\base<=u.nx/\Le F ρ base F' ρ' base/\h.nx<=y.h.nx:=by
   intro x J;obtain⟨n1,Z,r,st',w,F',ρ',_,I,_⟩:=hall x J;split at w
   case h_2=>grind [Ev.AD]
   rename_i f' r' ps' asg' body' s n' sl hob;obtain⟨bb,nn,y,k1,k2,⟨ls,rfl,-,-,-,hlp,-⟩,-⟩:=I.rel.sr.at hob;have hN:st.nx<st.nx+1:=ae;have kk:Bu ρ st.nx (some (h.nx+1,0)) st.nx=some (bb,nn):=I.le.at hN k1;simp only[Bu,wm,zh,zn]at kk;obtain⟨rfl,rfl⟩:=kk;have hpin:∀p∈(h0.pins [h.nx]).pin,h.nx+1≠p:=fun p hp e=>(I.rel.sr.pn p hp).2.2 _ _<|e▸k1
   have hdel:=I.rel.sr.del st.nx;have hput:∀z:O,Rel B (h0.pins [h.nx]) F' (Bu ρ' st.nx none) (st'.FQ st.nx) fr (x.2.put (h.nx+1) z):=by
    intro z;have hl:Le F' ρ' st'.nx F' (Bu ρ' st.nx none) st'.nx:=Le.Ju _;refine⟨⟨I.rel.fp.n,fun t=>(I.rel.fp.slot t).mono hl⟩,?_⟩;refine hdel.aN (fun id o m ho e=>?_) ?_ (I.rel.sr.own _ _ _ k1).2 (fun hp=>hpin _ hp rfl) k2
    ·rw[Du]at ho;split at ho
     ·cases ho
     ·rename_i hne;simp only[Bu,hne,vf]at e;exact hne<|I.rel.sr.inj id st.nx o _ _ m 0 ho hob e k1
    ·cases hF:F' (h.nx+1)with
     |none=>rfl
     |some cs=>obtain⟨t,fz,g⟩:=I.rel.sr.frz _ cs hF;rw[k2]at g;cases g
   have hbase:base<=(st'.FQ st.nx).nx:=zp A<|zp (Nat.le_succ _) I.le.n;have hLe:Le F ρ base F' (Bu ρ' st.nx none) base:=by
    refine(hle2.low A).trans<|(I.le.low<|zp A<|Nat.le_succ _).trans ?_;exact(Le.Ju (F:=F') (ρ:=ρ') (N:=base) st.nx)
   have hnx:h.nx<=x.2.nx:=zp (by show h.nx<=h.nx+1+1;omega) I.nx;have done:∀ {e:DX} {z:O},Ev X Q n1 (k e<|st'.FQ st.nx)->∃ps,((⟨e,fr,x.2.put (h.nx+1) z,h.nx::ds⟩:Det.X).ds=ps++ds/\ps.Nodup/\∀b∈ps,h.nx<=b)/\∃n',n'<=n/\∃u,Ev X Q n' (k e u)/\∃F' ρ',Rel B (h0.pins ps) F' ρ' u fr (x.2.put (h.nx+1) z)/\base<=u.nx/\Le F ρ base F' ρ' base/\h.nx<=(x.2.put (h.nx+1) z).nx:=by
    intro e z G;exact⟨[h.nx],⟨rfl,(by simp),fun b A=>by cases zc.1 A;exact zd _⟩,n1,Z,_,G,F',_,hput z,hbase,hLe,hnx⟩
   obtain⟨lst,lpend,lfr,lps,lasg,W,ldb⟩:=ls;simp only at hlp;split at w
   case h_1=>
    obtain⟨rfl,rfl⟩:=hlp;exact⟨[⟨.normal,fr,x.2.put (h.nx+1)<|.loop ⟨.exhausted,none,lfr,lps,lasg,W,ldb⟩,h.nx::ds⟩],0,fun m _ q _=>(by simp only[k2]),fun _=>⟨_,rfl⟩,fun y hy=>by cases zc.1 hy;exact done w⟩
   case h_2=>
    obtain⟨rfl,rfl⟩:=hlp;exact⟨[⟨.ret,fr,x.2.put (h.nx+1)<|.loop ⟨.exhausted,some .ret,lfr,lps,lasg,W,ldb⟩,h.nx::ds⟩],1,fun m _ q T=>(by obtain⟨q',rfl⟩:=D T;simp only[k2,By]),fun _=>⟨_,rfl⟩,fun y hy=>by cases zc.1 hy;exact done w⟩
   case h_3=>
    rename_i j;obtain⟨rfl,rfl⟩:=hlp;exact⟨[⟨.exit j,fr,x.2.put (h.nx+1)<|.loop ⟨.exhausted,some<|.exit j,lfr,lps,lasg,W,ldb⟩,h.nx::ds⟩],1,fun m _ q T=>(by obtain⟨q',rfl⟩:=D T;simp only[k2,By]),fun _=>⟨_,rfl⟩,fun y hy=>by cases zc.1 hy;exact done w⟩
   case h_4=>exact wh w Ev.AD
  obtain⟨r,M2,j1,j2,j3⟩:=JS hone fin;refine⟨r,max M M2+1,fun m hm q T=>?_,j2,j3⟩;obtain⟨q',rfl⟩:=D (show 1<=q by omega);have h1:=hM m ae;have h2:=j1 m ae q' ae;simp only[By,S1,g1];show(match Ip X.C ((h.push<|.defd true).push<|.loop ⟨.ready,none,fr,ps,a,b,h.nx⟩) (.fn (.func gf) fa fb) [.yld<|h.nx+1]with|some (.enter f args)=>_|_=>none)=_;rw[hdc];simp only[h1];exact h2
 |goto l=>intro h0 st k F ρ fr h ds A hr v;exact wh v Ev.AD
 |refuse s=>intro h0 st k F ρ fr h ds A hr v;exact wh v Ev.AD
end
end Go.Pe
