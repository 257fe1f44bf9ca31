import Derived.Test.YtbmofcgiokkikaaGreatDoorX06
/- A part of a proof; no law is stated here. -/
noncomputable section
open Nat renaming le_refl -> zc, eq_of_beq_eq_true -> ze, beq -> zh, mul_le_mul_right -> zi, ble -> zk, blt -> zn, zero_mul -> zy, ble_eq_true_of_le -> zz, add_mul -> z7, succ_mul -> yc
open Bool renaming and_eq_true -> zd, and_true -> z6, and_self -> yh
open List renaming mem_singleton -> zf, replicate -> zm, drop_eq_getElem_cons -> zq, length_eq_zero_iff -> zu, drop_zero -> z8, getElem?_eq_some_iff -> ya, getElem_cons_zero -> yd, take_of_length_le -> ye, all_cons -> yi
open Option renaming map_eq_some_iff -> zj, getD_some -> yb, map_some -> yf
open Option.some renaming injEq -> zl
open Go.Pe.OK renaming pure -> zo
open Go.Pe.Le renaming refl -> zp
open Prod.mk renaming injEq -> zr
open List.cons renaming injEq -> zt
open Go.Pe renaming apart -> yg, Cx -> yk
open Go.Det.V renaming beq -> yj
namespace Go.Pe
open Go.Det
section
variable {B:Nat}{h0:H0}{F:Fz}{ρ:EI}{N:Nat}{C:Ctx}{st st':AP}{fr:Fr}{h h':H}
theorem Eb.nil{s:Sh}:Eb F s [] []:=⟨by simp,(by simp)⟩
theorem Eb.cons{s:Sh}{x:s.T}{l:List s.T}{a b:List V}(c:DC F s x a)(d:Eb F s l b):Eb F s (x::l) (a++b):=by
 refine⟨by rw[List.length_append,c.len,d.1,List.length_cons,yc];omega,fun i g=>?_⟩;cases i with
 |zero=>
  simp only[zy,z8,yd];rw[<-c.len,List.take_left];exact c
 |succ i=>
  have e:(a++b).drop ((i+1)*s.sz)=b.drop (i*s.sz):=by
   rw[yc,Nat.add_comm,GX, <-c.len,List.drop_left]
  rw[e];exact d.2 i ah
theorem Eb.yF{s:Sh}{x:s.T}{l:List s.T}{cs:List V}(h:Eb F s (x::l) cs):∃a b,cs=a++b/\DC F s x a/\Eb F s l b:=by
 have h0:=h.2 0 (by simp);simp only[zy,z8,yd]at h0;refine⟨cs.take s.sz,cs.drop s.sz,(by simp),h0,?_,fun i c=>?_⟩
 ·grind [yc,Eb]
 ·have:=h.2 (i+1) ah;grind [GX,yc]
theorem Eb.append{s:Sh}:∀ {l m:List s.T} {a b:List V},Eb F s l a->Eb F s m b->Eb F s (l++m) (a++b)
 |[],m,a,b,h,h'=>by
  have:a=[]:=zu.1 (by rw[h.1];simp);grind
 |x::l,m,a,b,h,h'=>by
  obtain⟨c,d,rfl,e,g⟩:=h.yF;rw[List.append_assoc,List.cons_append];exact Eb.cons e<|g.append h'
theorem Eb.replicate{s:Sh}{z:s.T}{c:List V}(a:DC F s z c):∀n,Eb F s (zm n z)<|(zm n c).flatten
 |0=>Eb.nil
 |n+1=>by
  exact Eb.cons a<|Eb.replicate a n
theorem Eb.XP{s:Sh}:∀ {l:List s.T} {a:List V},Eb F s l a->a.all V.one=true
 |[],a,h=>by
  grind [Eb]
 |x::l,a,h=>by
  obtain⟨c,d,rfl,e,b⟩:=h.yF;rw[List.all_append,b.XP,z6];exact List.all_eq_true.2 e.XP
theorem Eb.part{s:Sh}{l:List s.T}{cs:List V}(h:Eb F s l cs){off len:Nat}(c:off+len<=l.length):Eb F s ((l.drop off).take len) ((cs.drop<|off*s.sz).take<|len*s.sz):=by
 have b:(off+len)*s.sz<=l.length*s.sz:=zi _ c;have g:=h.1;refine⟨by grind,fun i e=>?_⟩;have a:i<len:=ah
 have d:(i+1)*s.sz<=len*s.sz:=zi _ a;grind [List.drop_take,List.drop_drop,z7,Eb]
theorem AfZ(hr:SR B h0 F ρ st.nx st.ob h){t:TypeId}{p q:PV}{x y:V}(D:PR F ρ st.nx p x)(u:PR F ρ st.nx q y){v:PV}(a:(sC C.T t p q st).To v st'):OK B h0 F ρ st h [] (Gm<|Q0 C.T h t x y) v st':=by
 unfold sC at a;split at a
 case h_2=>simp at a
 rename_i e k l K c m;obtain rfl:=Db D;obtain rfl:=Db u;split at a
 case h_2=>simp at a
 rename_i i s I P;cases g:(zn 0 i.zero.length&&zh i.zero.length i.size&&zh i.size s.sz)with
 |false=>simp_all
 |true=>
  rw[g]at a;simp only[zd]at g;obtain⟨⟨E,j⟩,M⟩:=g;simp only[we]at a;split at a
  case h_2=>simp at a
  rename_i z L;simp only[Cy,zd,w5]at a;obtain⟨⟨⟨⟨J,w⟩,G⟩,O⟩,rfl,rfl⟩:=a;have d:l=c:=w;subst d;obtain⟨n,rfl,hn⟩:=EV J;have R:=ze j;have A:Q0 C.T h t (.int k<|Int.ofNat n) (.int K<|Int.ofNat n)=some (.sl h.nx 0 n n 0,h.push<|.cells (Gq i.zero<|n*i.size) e (0,0)):=by
   have a1:zk n n=true:=(by simp);have a2:zn n 9223372036854775808=true:=(by grind [Eg]);have a3:zk (i.bytes*n) 281474976710656=true:=zz G;simp only[Q0,m,I,a1,a2,a3,E,j,yh,we,JB]
  rw[A];have r:=Dj (EU (F:=F) (ρ:=ρ) (N:=st.nx) i.zero) L;have b:Eb F s (zm n z) (Gq i.zero<|n*i.size):=by
   grind [IK,Eb.replicate]
  exact OK.new hr (o:=.arr false e s<|zm n z) (n:=n) rfl ⟨_,_,rfl,b,zc _,by simp⟩ (Sr<|.inl rfl)
theorem Zd(hr:SR B h0 F ρ st.nx st.ob h){s:Sh}{p:PV}{x:V}(k:PR F ρ st.nx p x){c:Bool}{l:List s.T}(a:ID st s p=some (c,l))(G:c=true):
  Ra x=some l.length/\(s.sz=1\/RP x=true)/\∃cs,src h s.sz x l.length=some cs/\Eb F s l cs:=by
 unfold ID at a;split at a
 case h_1=>
  cases a;subst k;exact⟨rfl,.inr rfl,[],rfl,Eb.nil⟩
 case h_2=>
  rename_i d l';rw[zj]at a;obtain⟨r,A,w⟩:=a;obtain⟨e,he⟩:=CU A;have z:d=s:=ah
  subst z;have:r=l':=ah
  subst this;cases w;obtain⟨u,Y,k⟩:=k;obtain rfl:x=u:=ah
  rcases k with⟨rfl,rfl|rfl|rfl⟩|⟨b,off,cap,o,J,rfl,I,E,m,L,P⟩
  ·exact⟨rfl,.inr rfl,[],rfl,Eb.nil⟩
  ·exact⟨rfl,.inr rfl,[],rfl,Eb.nil⟩
  ·exact⟨rfl,.inr rfl,[],rfl,Eb.nil⟩
  ·obtain⟨te,fz,U⟩:=hr.frz b J E;suffices hD:Eb F d l ((J.drop off).take<|l.length*d.sz)from⟨rfl,.inr rfl,_,rd_some U m hD.ok,hD⟩
   refine⟨?_,fun i R=>?_⟩
   ·grind
   ·have O:(i+1)*d.sz<=l.length*d.sz:=zi _ R;grind [List.drop_take,List.drop_drop]
 case h_3=>
  rename_i id sz off len cap;split at a
  case h_2=>cases a
  rename_i M te d l' S;cases g:zh sz d.sz with
  |false=>grind
  |true=>
   rw[g]at a;have g:=ze g;simp only[we,zj]at a;obtain⟨r,A,w⟩:=a;obtain⟨e,he⟩:=CU A;have z:d=s:=ah
   subst z;have:r=l':=ah
   subst this;cases w;simp only[w5]at G;obtain⟨b,n,y,I,E,⟨cs,fz,rfl,m,P,L⟩,_⟩:=hr.at S;have q:((r.drop off).take len).length=len:=ah
   have v:(off+len)*d.sz<=r.length*d.sz:=zi _ G;rw[z7]at v;rw[q];rcases k.2 b n I with⟨_,_,o,_,rfl⟩|⟨rfl,_,Z,rfl|⟨K,rfl,D⟩⟩
   ·refine⟨rfl,.inr rfl,_,rd_some E ?_ ?_,?_⟩
    ·rw[g,m.1];exact v
    ·rw[g];exact(m.part G).ok
    ·rw[g];exact m.part G
   ·refine⟨rfl,.inr rfl,[],rfl,?_⟩;simpa using Eb.nil
   ·refine⟨rfl,.inr rfl,_,rd_some E ?_ ?_,?_⟩
    ·rw[g]at D;rw[m.1];omega
    ·simp
    ·simp;exact Eb.nil
 case h_5=>cases a
 case h_4=>
  rename_i t;rw[zj]at a;obtain⟨r,A,w⟩:=a;obtain⟨e,he⟩:=CU A;have z:s=.int .u8:=ah
  subst z;have:r=List.map (fun b:UInt8=>(b.toNat:Int)) t:=ah
  subst this;cases w;obtain rfl:=Ge k;refine⟨by simp[Ra],.inl rfl,_,rfl,?_⟩;refine⟨by simp[Sh.sz],fun j hj=>?_⟩;have W:j<t.length:=ah
  have e1:((t.map fun b=>V.int .u8 (b.toNat:Int)).drop<|j*1).take 1=[V.int .u8 ((t[j]).toNat:Int)]:=by
   simp_all [zq]
  grind [DC,Sh.sz]
theorem lR(hr:SR B h0 F ρ st.nx st.ob h){s:Sh}{p:PV}{x:V}(a:PR F ρ st.nx p x){c:Bool}{l:List s.T}(d:Ro st s p=some (c,l))(b:c=true):
  Ra x=some l.length/\(s.sz=1\/RP x=true)/\∃cs,src h s.sz x l.length=some cs/\Eb F s l cs:=Zd hr a.lz d b
theorem SR.congr(hr:SR B h0 F ρ N st.ob h)(i:∀c,h'.get c=h.get c)(d:h'.nx=h.nx):SR B h0 F ρ N st.ob h':=
 ⟨fun id o e=>by obtain⟨b,n,x,g,r,p⟩:=hr.obj id o e;grind,hr.inj,fun b cs a=>by obtain⟨t,fz,g⟩:=hr.frz b cs a;grind,hr.own,hr.dead,
  fun b a j=>(i b).trans<|hr.old b a j,fun b o a=>by rw[d];exact hr.lt b o ah,by rw[d];exact hr.le,hr.fo,hr.gl,fun c k=>by obtain⟨l,m,q⟩:=hr.pn c k;grind⟩
theorem SR.sG{ob:Ob}(hr:SR B h0 F ρ N ob h){o:Obj}{x:O}{b n:Nat}(U:h.get b=some x)(r:∀id o m,AU ob id=some o->ρ id≠some (b,m))(Y:F b=none)(Z:h0.lO B b)(V:b∉h0.pin)(R:o.frozen=false)
  (M:ZP F (BG ρ N<|some (b,n)) (N+1) n o x):SR B h0 F (BG ρ N<|some (b,n)) (N+1) ((N,o)::ob) h:=by
 have I:Le F ρ N F (BG ρ N<|some (b,n)) (N+1):=Le.new _;have a:∀j,AU ((N,o)::ob) j=if j=N then some o else AU ob j:=by
  simp only[AU,Bz];grind
 refine⟨fun j oj d=>?_,fun i j oi oj c m u t d q p=>?_,hr.frz,fun id c m l=>?_,fun j d=>?_,hr.old,hr.lt,hr.le,hr.fo,hr.gl,fun c E=>?_⟩
 ·rw[a]at d;by_cases e:j=N
  ·grind [BG]
  ·rw[wc e]at d;obtain⟨c,m,y,q,p,A,z⟩:=hr.obj j oj d;exact⟨c,m,y,by simp[BG,e,q],p,A.mono I,z⟩
 ·rw[a]at t d;have key:∀k ok m,(if k=N then some o else AU ob k)=some ok->BG ρ N (some (b,n)) k=some (c,m)->(k=N/\c=b)\/(k≠N/\AU ob k=some ok/\ρ k=some (c,m)/\c≠b):=by
   intro k ok m K g;by_cases e:k=N
   ·simp_all [BG]
   ·simp only[BG,e,vf]at g;grind
  rcases key i oi m t q with⟨G,v⟩|⟨G,v,w,W⟩<;>rcases key j oj u d p with⟨J,s⟩|⟨J,s,D,S⟩
  ·omega
  ·omega
  ·omega
  ·exact hr.inj i j oi oj c m u v s w D
 ·unfold BG at l;split at l
  ·grind
  ·have:=hr.own id c m l;grind
 ·rw[a]at d;by_cases e:j=N
  ·grind
  ·rw[wc e]at d;simp[BG,e,hr.dead j d]
 ·obtain⟨L,T,P⟩:=hr.pn c E;grind [BG]
theorem Qu{off:Nat}{cs:List V}(h:off<=cs.length):CR off [] cs=cs:=by
 apply List.ext_getElem?;simp_all [Iw,wc]
theorem WX{off:Nat}{vs cs:List V}(h:off+vs.length<=cs.length):CR off vs cs=cs.take off++(vs++cs.drop (off+vs.length)):=by
 apply List.ext_getElem?;intro j;rw[Iw h];grind
theorem Eb.pS{s:Sh}{l new:List s.T}{cs b:List V}{a:Nat}(h:Eb F s l cs)(c:Eb F s new b)(e:a+new.length<=l.length):
  Eb F s (l.take a++(new++l.drop (a+new.length))) (CR (a*s.sz) b cs):=by
 have i:=h.1;have g:=c.1;have d:(a+new.length)*s.sz<=l.length*s.sz:=zi _ e;rw[WX ah];have p1:=h.part (off:=0) (len:=a) ae;have p2:=h.part (off:=a+new.length) (len:=l.length-(a+new.length)) ae;rw[zy,z8,z8]at p1;rw[ye (by simp),ye<|by simp_all [Nat.sub_mul]]at p2;rw[g, <-z7];exact p1.append<|c.append p2
def Gv:List PV->List Nat
 | .sl id _ _ _ _::_=>[id]
 |_=>[]
theorem jK{s b:Sh}{x:b.T}{c:Bool}{l:List s.T}(d:Ro st s (.dat b x)=some (c,l)):c=true:=by
 unfold Ro at d;cases b with
 |list a=>
  grind [zj,ID,lz]
 |nlist a=>
  grind [zj,ID,lz]
 |str=>
  grind [zj,ID,lz]
 |_=>cases d
theorem xC(hr:SR B h0 F ρ st.nx st.ob h){ts:Array TypeId}{ps:List PV}{xs:List V}(M:Ca F ρ st.nx ps xs){v:PV}(d:(U5 C.T ts ps st).To v st'):OK B h0 F ρ st h (Gv ps) (Gm<|Hl C.T h ts xs) v st':=by
 unfold U5 at d;split at d
 case h_2=>simp at d
 rename_i t tx p q hts htx;simp only[Ca]at M;obtain⟨x,_,rfl,M,y,_,rfl,hy,rfl⟩:=M;split at d
 case h_2=>simp at d
 rename_i e ex hu hux;have hss:VE ex=true:=by
  cases hq:VE ex with
  |true=>rfl
  |false=>simp_all
 rw[hss]at d;simp only[we]at d;split at d
 case h_2=>simp at d
 rename_i i s hi hs;cases hc:(zn 0 i.bytes&&zn 0 i.size&&zh i.zero.length i.size&&zh i.size s.sz)with
 |false=>simp_all
 |true=>
  rw[hc]at d;simp only[zd]at hc;obtain⟨⟨⟨c1,c2⟩,c3⟩,c4⟩:=hc;have e4:=ze c4;simp only[we]at d;split at d
  case h_2=>simp at d
  rename_i c new hel;have head:c=true->∃cs,src h i.size y new.length=some cs/\Eb F s new cs/\Hl C.T h ts [x,y]=(match x with
      | .nils=>bif zh new.length 0 then some (.nils,h)
       else bif zk ((3*new.length+2000)*i.bytes) 562949953421312 then some (.sl h.nx 0 new.length new.length i.size,JB h e cs)else none
      | .es0=>bif zh new.length 0 then some (.es0,h)
       else bif zk ((3*new.length+2000)*i.bytes) 562949953421312 then some (.sl h.nx 0 new.length new.length i.size,JB h e cs)else none
      | .esl=>bif zh new.length 0 then some (.esl,h)else none
      | .sl b off len cap o=>
       bif zk (len+new.length) cap then(wr h b (off+len*i.size) cs).map fun h'=>(.sl b off (len+new.length) cap o,h')
       else bif zk ((3*(len+new.length)+2000)*i.bytes) 562949953421312 then
        match src h i.size x len with
        |some old=>
         bif zh o 0 then some (.sl h.nx 0 (len+new.length) (len+new.length) i.size,JB h e<|old++cs)
         else
          match h.get b with
          |some (.cells _ te fz)=>
           bif zh off 0&&zh o i.size&&zh te e&&zk fz.2 fz.1&&cs.all V.one then some (.sl h.nx 0 (len+new.length) (len+new.length) i.size,(h.kill b).push<|.cells (old++cs) e (0,0))
           else none
          |_=>none
        |none=>none
       else none
      |_=>none):=by
   intro hc;obtain⟨g1,I,cs,E,g4⟩:=lR hr hy hel hc;rw[<-e4]at E;refine⟨cs,E,g4,?_⟩;have hcond:(zn 0 i.bytes&&zn 0 i.size&&zh i.zero.length i.size&&(zh i.size 1||RP y))=true:=by
    grind
   have hint:isInt ex=false:=by cases ex<;>first|rfl|cases hss
   simp only[Hl,hts,htx,hu,hux,g1,hi,hint,hcond,we,E];cases x<;>rfl
  split at d
  case h_3=>simp at d
  case h_1=>
   simp only[PR]at M;subst M;have grow:c=true->0<new.length->(3*new.length+2000)*i.bytes<=sV->OK B h0 F ρ st h (Gv [PV.nil,q]) (Gm<|Hl C.T h ts [.nils,y]) (.sl st.nx s.sz 0 new.length none) (st.push<|.arr false e s new):=by
    intro k1 k2 k3;obtain⟨cs,g1,I,E⟩:=head k1;have P:zh new.length 0=false:=by grind [Bz]
    have b2:zk ((3*new.length+2000)*i.bytes) 562949953421312=true:=zz k3;rw[E];simp only[P,b2,wg,we];exact OK.new hr (o:=.arr false e s new) (n:=new.length) rfl ⟨_,_,rfl,I,zc _,rfl⟩ (Sr<|.inr e4)
   have same:c=true->new.length=0->OK B h0 F ρ st h (Gv [PV.nil,q]) (Gm<|Hl C.T h ts [.nils,y]) .nil st:=by
    intro k1 k2;obtain⟨cs,g1,I,E⟩:=head k1;have P:zh new.length 0=true:=by rw[k2];rfl
    rw[E];simp only[P,we];exact⟨.nils,h,F,ρ,.inl rfl,by simp[PR],hr,zp,rfl,rfl,zc _,(by simp)⟩
   split at d
   case h_1=>
    simp_all [Ro,ID,lz]
   case h_2=>
    have hc':c=true:=by
     exact jK hel
    by_cases Y:0<new.length
    ·rw[w4 Y]at d;cases d with
     |tt d=>
      simp_all
    ·rw[w8 Y]at d;cases d with
     |ff d=>
      simp_all
   case h_3=>
    by_cases Y:0<new.length
    ·rw[w4 Y]at d;cases d with
     |tt d=>
      simp_all
    ·rw[w8 Y]at d;cases d with
     |ff d=>
      simp_all
   simp_all
  case h_2=>
   rename_i id sz off len cap;split at d
   case h_2=>simp at d
   rename_i e' r l ho;split at d
   case h_2=>simp at d
   rename_i l' hl';obtain⟨ecast,hcast⟩:=CU hl';have es:r=s:=ah
   subst es;have:l'=l:=ah
   subst this;cases O:(zh e e'&&zh sz r.sz)with
   |false=>simp_all
   |true=>
    rw[O]at d;simp only[zd]at O;have ee:=ze O.1;have esz:=ze O.2;subst ee;subst esz;simp only[we]at d;split at d
    case h_2=>
     rename_i k;simp only[Cy,zd,w5]at d;obtain⟨⟨⟨k1,k2⟩,k3⟩,rfl,rfl⟩:=d;obtain⟨cs,g1,I,E⟩:=head k1;obtain⟨b,n,z,h1,h2,⟨bs,fz,rfl,h3,h4,h5⟩,h6,_⟩:=hr.at ho;simp only[PR]at M;rw[E];have hone:cs.all V.one=true:=I.XP;have hcl:cs.length=new.length*r.sz:=I.1;have hbl:=h3.1;have hle:(off+len+new.length)*r.sz<=l'.length*r.sz:=zi _ ae;have hexp:(off+len+new.length)*r.sz=off*r.sz+len*r.sz+new.length*r.sz:=ah
     have hsp:=Eb.pS h3 I (a:=off+len) ae;have D:(l'.take (off+len)++(new++l'.drop (off+len+new.length))).length=l'.length:=by simp;omega
     rcases M.2 b n h1 with⟨_,g6,o,g5,rfl⟩|⟨e0,ek,g6,g7⟩
     ·simp only[yb]at g6;have hw:wr h b (off*r.sz+len*i.size) cs=some (h.put b<|.cells (CR ((off+len)*r.sz) cs bs) e fz):=by
       grind [Pp,z7]
      have P:zk (len+new.length) k=true:=(by simp_all);refine⟨.sl b (off*r.sz) (len+new.length) k o,h.put b<|.cells (CR ((off+len)*r.sz) cs bs) e fz,F,ρ,.inl ?_,?_,hr.set ho h1 h2 rfl rfl (o':=.arr false e r _) ⟨_,fz,rfl,hsp,h4,D.trans h5⟩,zp,rfl,rfl,zc _,fun c _=>?_⟩
      ·simp only[yb,P,we,hw,yf,Gm]
      ·simp only[PR];refine⟨M.1,fun b' n' hb'=>.inl ?_⟩;grind
      ·rw[H.C1];by_cases e:c=b
       ·grind [Gv]
       grind
     ·cases ek;subst e0;have hn0:new.length=0:=ae
      have U:new=[]:=ah;subst U;have Z:cs=[]:=(by grind [zu]);subst Z;have hlp:CR ((off+0)*r.sz) [] bs=bs:=(by grind [Qu]);have R:∀c,(h.put b<|.cells (CR ((off+0)*r.sz) [] bs) e fz).get c=h.get c:=by
       intro c;rw[hlp,H.C1];grind
      have hset:=hr.set ho h1 h2 rfl rfl (o':=.arr false e r _) (x':=.cells (CR ((off+0)*r.sz) [] bs) e fz) ⟨_,fz,rfl,hsp,h4,D.trans h5⟩;have G:SR B h0 F ρ st.nx (Ez st.ob id<|.arr false e r<|l'.take (off+0)++([]++l'.drop (off+0+0))) h:=
       SR.congr (st:=⟨st.n,st.fr,Ez st.ob id _,st.nx⟩) hset ah rfl
      have hpr:∀w,(w=.esl\/∃A,w=.sl b A 0 0 0/\A<=off*r.sz)->PR F ρ st.nx (.sl id r.sz off (Nat.add 0 0)<|some 0) w:=by
       grind [PR]
      rcases g7 with rfl|⟨A,rfl,hoff'⟩
      ·exact⟨.esl,h,F,ρ,.inl rfl,hpr _<|.inl rfl,G,zp,rfl,rfl,zc _,(by simp)⟩
      ·have hob:A<=bs.length:=by
        omega
       have hw:wr h b (A+0*i.size) []=some (h.put b<|.cells (CR (A+0*i.size) [] bs) e fz):=Pp h2 ae h4 rfl;have W:∀c,(h.put b<|.cells (CR (A+0*i.size) [] bs) e fz).get c=h.get c:=by
        simp_all [Qu]
       refine⟨.sl b A 0 0 0,h.put b<|.cells (CR (A+0*i.size) [] bs) e fz,F,ρ,.inl ?_,hpr _<|.inr ⟨A,rfl,hoff'⟩,SR.congr (st:=⟨st.n,st.fr,Ez st.ob id _,st.nx⟩) G W rfl,zp,rfl,rfl,zc _,ah⟩;simp_all [zk,Gm]
    simp only[Cy,zd,w5]at d;obtain⟨⟨⟨⟨k1,k2⟩,k3⟩,k4⟩,rfl,rfl⟩:=d;subst k2;obtain⟨cs,g1,I,E⟩:=head k1;obtain⟨b,n,z,h1,h2,⟨bs,fz,rfl,h3,h4,h5⟩,h6,_⟩:=hr.at ho;have hFb:=h6 rfl;simp only[PR]at M;have hB:=(hr.own id b n h1).2;have hPb:b∉h0.pin:=fun hp=>(hr.pn b hp).2.2 id n h1
    have hidN:=ae;obtain⟨_,_,o,g5,rfl⟩:len<=len/\0+len<=n/\∃o,(o=0\/o=r.sz)/\x=.sl b (0*r.sz) len len o:=by
     rcases M.2 b n h1 with g|⟨_,e,_⟩
     ·exact g
     grind
    have hbl:bs.length=len*i.size:=by rw[h3.1,k3,e4]
    have J:∀j oj m,AU (HF st.ob id) j=some oj->BG ρ id none j≠some (b,m):=by
     intro j oj m hj hjr;rw[DY]at hj;split at hj
     ·cases hj
     ·rename_i hne;simp only[BG,hne,vf]at hjr;exact hne<|hr.inj j id oj _ b m n hj ho hjr h1
    have L:=hr.del id;have S:Le F ρ st.nx F (BG ρ id none) st.nx:=Le.KQ id;have hnew:Eb F r (l'++new) (bs++cs):=h3.append I;have D:(l'++new).length=len+new.length:=ah
    have hone:cs.all V.one=true:=I.XP;rw[E];simp only;by_cases Y:new.length=0
    ·
     have U:new=[]:=ah;have Z:cs=[]:=zu.1 (by rw[I.1,Y,zy]);subst Z;have P:zk (len+new.length) len=true:=(by simp_all);have hw:wr h b (0*r.sz+len*i.size) []=some (h.put b<|.cells (CR (0*r.sz+len*i.size) [] bs) e fz):=Pp h2 ah h4 rfl;have R:∀c,(h.put b<|.cells (CR (0*r.sz+len*i.size) [] bs) e fz).get c=h.get c:=by
      simp_all [Qu]
     refine⟨.sl b (0*r.sz) (len+new.length) len o,h.put b<|.cells (CR (0*r.sz+len*i.size) [] bs) e fz,F,BG (BG ρ id none) st.nx<|some (b,n),.inl ?_,?_,?_,S.trans<|Le.new _,rfl,rfl,zc _,ah⟩
     ·simp only[P,we,hw,yf,Gm]
     ·unfold PR;refine⟨Nat.lt_succ_self _,fun b' n' hb=>.inl ?_⟩;simp_all [BG]
     ·refine SR.sG (ob:=HF st.ob id) ?_ (x:=.cells bs e fz) ah J hFb hB hPb rfl ⟨bs,fz,rfl,?_,h4,?_⟩
      ·exact SR.congr (st:=⟨st.n,st.fr,HF st.ob id,st.nx⟩) L R rfl
      ·grind
      omega
    ·
     have P:zk (len+new.length) len=false:=by
      cases hb:zk (len+new.length) len with
      |false=>rfl
      |true=>have:=Nat.le_of_ble_eq_true hb;omega
     have b2:zk ((3*(len+new.length)+2000)*i.bytes) 562949953421312=true:=zz k4;have hsrc:src h i.size (.sl b (0*r.sz) len len o) len=some bs:=by
      show rd h b (0*r.sz) (len*i.size)=_;rw[rd_some h2 ae<|fun u hu=>h3.ok u ah];grind
     simp only[P,b2,wg,we,hsrc];have fin:∀ {K:H},SR B h0 F (BG ρ id none) st.nx (HF st.ob id) K->K.nx=h.nx->(∀c,c≠b->K.get c=h.get c)->
       OK B h0 F ρ st h [id] (Gm<|some (.sl h.nx 0 (len+new.length) (len+new.length) i.size,K.push<|.cells (bs++cs) e (0,0))) (.sl st.nx r.sz 0 (Nat.add len new.length) none) ((st.G5 id).push<|.arr false e r<|l'++new):=by
      intro K hr1 hnx hg;have hp:=hr1.push (o:=.arr false e r<|l'++new) (x:=.cells (bs++cs) e (0,0)) (n:=len+new.length) rfl ⟨_,_,rfl,hnew,zc _,D⟩;refine⟨_,_,F,_,.inl rfl,?_,hp,S.trans<|Le.new _,rfl,rfl,by simp_all,fun c hc=>?_⟩
      ·rw[<-hnx];exact Sr<|.inr e4
      ·rw[H.C2,wc ae];grind
     rcases g5 with rfl|rfl
     ·exact fin L rfl (fun _ _=>rfl)
     ·have b3:zh r.sz 0=false:=by
       rw[<-e4];cases hb:zh i.size 0 with
       |false=>rfl
       |true=>simp_all
      have b4:(zh (0*r.sz) 0&&zh r.sz i.size&&zh e e&&zk fz.2 fz.1&&cs.all V.one)=true:=by
       simp_all
      simp only[b3,wg,h2,b4,we];exact fin (L.kill J hFb hB hPb) rfl (by simp_all)
theorem F7:∀ {s:Sh} {x:s.T} {v:V},DV F s x v->PR F ρ N (Cx s x) v
 | .pair a b,x,v,h=>by obtain⟨cs,rfl,c⟩:=h.1 rfl;simp_all [Cx,PR,Dx]
 | .unit,x,v,h=>by obtain⟨cs,rfl,c⟩:=h.1 rfl;simp_all [DC,Cx,PR]
 | .int _,x,v,h=>by have:=h.2 rfl;unfold Cx PR;omega
 | .bool,x,v,h=>by have:=h.2 rfl;unfold Cx PR;omega
 | .str,x,v,h=>by have:=h.2 rfl;unfold Cx PR;omega
 | .list _,x,v,h=>by have:=h.2 rfl;unfold Cx PR;omega
 | .nlist _,x,v,h=>by have:=h.2 rfl;unfold Cx PR;omega
 | .fnv,x,v,h=>by
  have:=h.2 rfl;simp only[DC,zt,ve]at this;subst this;unfold Cx;cases (x:Option Fn)<;>simp[PR]
 | .ptr s,x,v,h=>by
  have:=h.2 rfl;grind [DC,Cx,PR]
theorem Aci{s:Sh}{p:PV}{x:s.T}{v:V}(hp:PR F ρ N p v)(b:asV s p=some x):DV F s x v:=by
 unfold asV at b;cases a:(Oj p==s.Ps)with
 |false=>grind
 |true=>
  rw[a]at b;refine⟨fun e=>?_,fun e=>?_⟩
  ·rw[e]at a;cases p<;>simp only[Oj]at a<;>try (cases a;done)
   obtain⟨cs,rfl,c⟩:=hp;exact⟨cs,rfl,Dj c b⟩
  ·rw[e]at a;have:p.cells=[p]:=by cases p<;>first|rfl|(simp[Oj]at a)
   rw[this]at b;exact Dj (by simpa using hp) b
theorem xG{T:Co}{t:TypeId}{s:Sh}(h:kSh T t=some s):(∃k,s=.int k/\T.und t=some (.int k))\/(s=.str/\T.und t=some .string)\/(s=.bool/\T.und t=some .bool):=by
 unfold kSh at h;grind
theorem Zj{T:Co}{t:TypeId}{s:Sh}(b:kSh T t=some s){p:PV}{x:s.T}{v:V}(hp:PR F ρ N p v)(a:asD s p=some x):DV F s x v:=by
 have:=Hi hp a;rcases xG b with⟨k,rfl,_⟩|⟨rfl,_⟩|⟨rfl,_⟩<;>exact⟨fun e=>(by cases e),fun _=>this⟩
theorem Wf{T:Co}{t:TypeId}{s:Sh}(g:kSh T t=some s){x:s.T}{v:V}(c:DV F s x v):∃d,T.und t=some d/\Kl T t d v=true/\(∀es,LM T t v es=Ms T t v es 0)/\∀y u,DV F s y u->tG T t v u=some (Y7 s x y):=by
 rcases xG g with⟨k,rfl,a⟩|⟨rfl,a⟩|⟨rfl,a⟩<;>
 ·have b:=c.2 rfl;simp only[DC,zt,ve]at b;subst b;refine⟨_,a,rfl,fun _=>rfl,fun y u e=>?_⟩;have i:=e.2 rfl;simp_all [DC,tG,Y7]
theorem Rb{T:Co}{t:TypeId}{ks vs:Sh}(M:kSh T t=some ks){k:ks.T}{q:V}(s:DV F ks k q):∀ {l:List (ks.T×vs.T)} {es:List (V×V×Nat)},MR F ks vs l es->∀i,∃r,Ms T t q es i=some r/\
  (match r with
   |none=>Fa ks vs k l=none/\VY ks vs k l=l/\∀x g c,DV F vs x g->MR F ks vs (Iq ks vs k x l) (es++[(q,g,c)])
   |some (j,u)=>(∃v,Fa ks vs k l=some v/\DV F vs v u)/\i<=j/\MR F ks vs (VY ks vs k l) (es.eraseIdx<|j-i)/\∀x g,DV F vs x g->MR F ks vs (Iq ks vs k x l) (ZB es (j-i) q g)):=by
 intro l es O;induction O with
 |nil=>intro i;exact⟨none,rfl,rfl,rfl,fun x g c m=>.cons s m .nil⟩
 |@cons a b l E L n es p w J I=>
  intro i;obtain⟨d,_,_,_,y⟩:=Wf M s;have y:=y a E p;unfold Ms;rw[y];cases o:Y7 ks k a with
  |true=>
   refine⟨some (i,L),rfl,(by grind [Fa]),zc _,?_,fun x g m=>?_⟩
   ·simp_all [VY]
   ·simp only[Nat.sub_self,Iq,o,we,ZB,List.modify_zero_cons];exact .cons s m J
  |false=>
   obtain⟨r,D,A⟩:=I<|i+1;refine⟨r,D,?_⟩;cases r with
   |none=>
    obtain⟨K,P,z⟩:=A;refine⟨by simp_all [Fa],by simp_all [VY],fun x g c m=>?_⟩;simp only[Iq,o,wg,List.cons_append];exact .cons p w<|z x g c m
   |some G=>
    obtain⟨j,u⟩:=G;obtain⟨⟨v,K,P⟩,z,k4,k5⟩:=A;have e:j-i=(j-(i+1))+1:=ae
    refine⟨(by simp_all [Fa]),by omega,?_,fun x g m=>?_⟩
    ·rw[e];simp only[List.eraseIdx_cons_succ,VY,o,wg];exact .cons p w k4
    ·rw[e];simp only[Iq,o,wg,ZB,List.modify_succ_cons];exact .cons p w<|k5 x g m
theorem Aaj(hr:SR B h0 F ρ st.nx st.ob h){t:TypeId}{v:PV}(a:(bP C.T t st).To v st'):OK B h0 F ρ st h [] (Gm<|JZ h none) v st':=by
 unfold bP at a;split at a
 case h_2=>simp at a
 split at a
 case h_2=>simp at a
 rename_i ks vs b c;obtain⟨rfl,rfl⟩:=a;refine OK.new hr (o:=.map ks vs []) (x:=.map [] 0) (n:=0) rfl ⟨[],0,rfl,.nil⟩ ?_;simp_all [PR,BG]
theorem mP(hr:SR B h0 F ρ st.nx st.ob h){ks vs:Sh}{m:PV}{l:List (ks.T×vs.T)}{x:V}(c:PR F ρ st.nx m x)(a:vA st ks vs m=some l):∃es,entries h x=some es/\MR F ks vs l es:=by
 unfold vA at a;split at a
 ·cases a;subst c;exact⟨[],rfl,.nil⟩
 ·split at a
  case h_2=>cases a
  rename_i d i l' g;obtain⟨e,j⟩:=CU a;obtain⟨rfl,rfl⟩:=e;obtain⟨b,n,o,h1,h2,⟨es,clk,rfl,h4⟩,_⟩:=hr.at g;simp_all [PR,entries]
 grind
theorem zO{ks vs:Sh}{ok:Bool}{z:vs.T}{x:ks.T}:∀ {l:List (ks.T×vs.T)} {v:PV},(plk ks vs ok z x st l).To v st'->st=st'/\((Fa ks vs x l=none/\v=bif ok then .tup [Cx vs z,.bl false]else Cx vs z)\/∃w,Fa ks vs x l=some w/\v=bif ok then .tup [Cx vs w,.bl true]else Cx vs w)
 |[],v,d=>by
  unfold plk at d;simp only[Cu]at d;exact⟨d.2,.inl ⟨rfl,d.1.symm⟩⟩
 |(a,b)::l,v,d=>by
  unfold plk at d;generalize e:Y7 ks x a=c at d;cases d with
  |tt d=>
   grind [Cu,Fa]
  |ff d=>
   obtain⟨i,g⟩:=zO d;grind [Fa]
theorem zJ(hr:SR B h0 F ρ st.nx st.ob h){t:TypeId}{p q:PV}{x y:V}(J:PR F ρ st.nx p x)(S:PR F ρ st.nx q y){ok:Bool}{v:PV}(a:(V4 C.T t p q ok st).To v st'):OK B h0 F ρ st h [] (BT h<|FA C.T h t x y ok) v st':=by
 unfold V4 at a;split at a
 case h_2=>simp at a
 rename_i Z e O;split at a
 case h_2=>simp at a
 rename_i ks vs i d P D;split at a
 case h_2=>simp at a
 rename_i k l z I M R;cases b:(vAg i.zv==vs.Ps)with
 |false=>simp_all
 |true=>
  rw[b]at a;have j:=Zj d S I;obtain⟨es,L,U⟩:=mP hr J M;obtain⟨kd,g1,g2,g3,_⟩:=Wf d j;obtain⟨r,r1,r2⟩:=Rb d j U 0;have m:DV F vs z i.zv:=by
   have G:DC F vs z i.zv.cells:=Dj (EU (F:=F) (ρ:=ρ) (N:=st.nx) i.zero) R;refine⟨fun e=>?_,fun e=>?_⟩
   ·rw[e]at b;cases c:i.zv<;>rw[c]at b<;>simp only[vAg]at b<;>try (cases b;done)
    rw[c]at G;exact⟨_,rfl,G⟩
   ·rw[e]at b;have:i.zv.cells=[i.zv]:=by cases c:i.zv<;>rw[c]at b<;>first|rfl|(simp[vAg]at b)
    grind
  unfold FA;simp only[O,g1,L,g2,we,g3,r1];cases E:vs.Ac7 with
  |true=>
   rw[E]at a;have o:=zO a;obtain⟨W,u⟩:=o;subst W;rcases u with⟨Y,c⟩|⟨w,K,c⟩
   ·cases r with
    |none=>
     simp only[D];cases ok with
     |true=>exact zo hr rfl (by simp_all [PR,F7])
     |false=>exact zo hr rfl (by grind [F7])
    |some A=>
     grind
   ·cases r with
    |none=>grind
    |some A=>
     obtain⟨⟨v',g,s⟩,_⟩:=r2;rw[K]at g;cases g;cases ok with
     |true=>exact zo hr rfl (by simp_all [PR,F7])
     |false=>exact zo hr rfl (by rw[c];exact F7 s)
  |false=>
  rw[E]at a;obtain⟨rfl,rfl⟩:=a;cases r with
  |none=>
   obtain⟨g,_⟩:=r2;simp only[D,g,Option.getD_none,Option.isSome_none];cases ok with
   |true=>exact zo hr rfl (by simp only[we,PR];simp_all [F7,Ej])
   |false=>exact zo hr rfl (F7 m)
  |some A=>
   obtain⟨⟨v,g,s⟩,_⟩:=r2;simp only[g,yb,Option.isSome_some];cases ok with
   |true=>exact zo hr rfl (by simp only[we,PR];simp_all [F7,Ej])
   |false=>exact zo hr rfl (F7 s)
theorem uM(hr:SR B h0 F ρ st.nx st.ob h){t:TypeId}{p q r:PV}{x y z:V}(K:PR F ρ st.nx p x)(E:PR F ρ st.nx q y)(L:PR F ρ st.nx r z){v:PV}(i:(Vt C.T t p q r st).To v st'):
  ∃id,p=.mp id/\OK B h0 F ρ st h [id] (vH<|IQ C.T h t x y z) v st':=by
 unfold Vt at i;split at i
 case h_2=>simp at i
 rename_i R e id O;split at i
 case h_2=>simp at i
 rename_i ks d vs l j A;split at i
 case h_2=>simp at i
 rename_i k S w I D J;obtain⟨u,P⟩:=CU D;simp only[Sh.list.injEq,Sh.pair.injEq,ve]at u;subst u;simp only[Cu]at i;have m:=Zj j E I;have G:=Aci L J;obtain⟨b,n,o,h1,h2,⟨es,clk,rfl,h4⟩,_⟩:=hr.at A;have s:=K;simp only[PR]at s;obtain⟨kd,g1,g2,g3,_⟩:=Wf j m;obtain⟨r',r1,r2⟩:=Rb j m h4 0;have fin:∀g a,MR F d vs (Iq d vs k w l) g->OK B h0 F ρ st h [id] (vH<|some<|h.put b<|.map g a) (.tup []) (st.setObj id<|.map d vs<|Iq d vs k w l):=by
  intro g a M;refine⟨.tup [],_,F,ρ,.inr ⟨rfl,rfl⟩,by simp[PR],hr.set A h1 h2 rfl rfl ⟨g,a,rfl,M⟩,zp,rfl,rfl,zc _,fun c _=>?_⟩;by_cases U:c=b
  ·grind
  simp_all
 unfold IQ;grind
theorem yR(hr:SR B h0 F ρ st.nx st.ob h){ts:Array TypeId}{ps:List PV}{j:List V}(s:Ca F ρ st.nx ps j){v:PV}(a:(Vy C.T ts ps st).To v st'):
  ∃id u,ps=.mp id::u/\OK B h0 F ρ st h [id] (Gm<|M8 C.T h ts j) v st':=by
 unfold Vy at a;split at a
 case h_2=>simp at a
 rename_i t id q A;split at a
 case h_2=>simp at a
 split at a
 case h_2=>simp at a
 rename_i ks d vs l g m;split at a
 case h_2=>simp at a
 rename_i k D r z;obtain⟨p,G⟩:=CU z;simp only[Sh.list.injEq,Sh.pair.injEq,ve]at p;subst p;simp only[Cu]at a;obtain⟨x,xs',rfl,hx1,y,xs'',rfl,hy,rfl⟩:=s;have i:=Zj g hy r;obtain⟨b,n,o,h1,h2,⟨es,clk,rfl,h4⟩,_⟩:=hr.at m;obtain rfl:=hx1.2 b n h1;obtain⟨kd,g1,g2,g3,_⟩:=Wf g i;obtain⟨r',r1,r2⟩:=Rb g i h4 0;have fin:∀e,MR F d vs (VY d vs k l) e->OK B h0 F ρ st h [id] (Gm<|some (.tup [],h.put b<|.map e clk)) (.tup []) (st.setObj id<|.map d vs<|VY d vs k l):=by
  intro e w;refine⟨.tup [],_,F,ρ,.inl rfl,by simp[PR],hr.set m h1 h2 rfl rfl ⟨e,clk,rfl,w⟩,zp,rfl,rfl,zc _,fun c _=>?_⟩;by_cases E:c=b
  ·grind
  simp_all
 unfold M8;grind
theorem SR.same(hr:SR B h0 F ρ st.nx st.ob h){id b n:Nat}{o o':Obj}{x:O}(k:st.obj id=some o)(g:ρ id=some (b,n))(j:h.get b=some x)(e:o.frozen=false)(d:o'.frozen=false)
  (i:ZP F ρ st.nx n o' x):SR B h0 F ρ st.nx (Ez st.ob id o') h:=by
 have a:∀c,h.get c=(h.put b x).get c:=by
  simp_all
 exact SR.congr (st:=⟨st.n,st.fr,Ez st.ob id o',st.nx⟩) (hr.set k g j e d i) a rfl
theorem Aaf(hr:SR B h0 F ρ st.nx st.ob h){ts:Array TypeId}{ps:List PV}{E:List V}(q:Ca F ρ st.nx ps E){v:PV}(d:(bN C.T ts ps st).To v st'):OK B h0 F ρ st h (Gv ps) (Gm<|GO C.T h ts E) v st':=by
 unfold bN at d;split at d
 case h_2=>simp at d
 rename_i t p D;obtain⟨x,_,rfl,q,rfl⟩:=q;split at d
 case h_2=>simp at d
 rename_i e L;split at d
 case h_3=>simp at d
 case h_1=>
  obtain⟨rfl,rfl⟩:=d;simp only[PR]at q;exact⟨.tup [],h,F,ρ,(by simp_all [GO,Gm]),by simp[PR],hr,zp,rfl,rfl,zc _,(by simp)⟩
 rename_i id sz off len cap;split at d
 case h_2=>simp at d
 rename_i i k s l M A;cases w:(zh sz s.sz&&zn 0 i.zero.length&&zh i.zero.length s.sz&&Det.Np V.one i.zero)with
 |false=>simp_all
 |true=>
  rw[w]at d;simp only[zd,GC]at w;obtain⟨⟨⟨r,I⟩,Z⟩,W⟩:=w;have r:=ze r;subst r;simp only[we]at d;split at d
  case h_2=>simp at d
  rename_i z R;simp only[Cy,w5]at d;obtain⟨O,rfl,rfl⟩:=d;obtain⟨b,n,y,h1,h2,⟨bs,fz,rfl,h3,h4,h5⟩,h6,_⟩:=hr.at A;have u:DC F s z i.zero:=Dj (EU (F:=F) (ρ:=ρ) (N:=st.nx) i.zero) R;have g:=Eb.replicate u len;have j:=Eb.pS h3 g (a:=off) ah;rw[List.length_replicate]at j;have m:(l.take off++(zm len z++l.drop (off+len))).length=l.length:=ah
  have skip:GO C.T h ts [x]=some (.tup [],h)->len=0->OK B h0 F ρ st h (Gv [.sl id s.sz off len cap]) (Gm<|GO C.T h ts [x]) (.tup []) (st.setObj id<|.arr false k s<|l.take off++(zm len z++l.drop (off+len))):=by
   intro S h0;subst h0;have el:l.take off++(zm 0 z++l.drop (off+0))=l:=by simp
   refine⟨.tup [],h,F,ρ,.inl (by rw[S];rfl),by simp[PR],hr.same A h1 h2 rfl rfl (o':=.arr false k s _) ⟨bs,fz,rfl,?_,h4,?_⟩,zp,rfl,rfl,zc _,(by simp)⟩
   ·grind
   omega
  rcases q.2 b n h1 with⟨_,K,o,U,rfl⟩|⟨e0,Y,K,rfl|⟨G,rfl,_⟩⟩
  ·by_cases h0:len=0
   ·simp_all [GO]
   ·have J:wr h b (off*s.sz) (Gq i.zero<|len*i.zero.length)=some (h.put b<|.cells (CR (off*s.sz) ((zm len i.zero).flatten) bs) k fz):=by
     rw[IK];refine Pp h2 ?_ h4 ?_
     ·rw[g.1,List.length_replicate, <-z7,h3.1];exact zi _ O
     grind
    have P:zh len 0=false:=by rw[Bz];simp[h0]
    refine⟨.tup [],h.put b<|.cells (CR (off*s.sz) ((zm len i.zero).flatten) bs) k fz,F,ρ,.inl ?_,by simp[PR],hr.set A h1 h2 rfl rfl (o':=.arr false k s _) ⟨_,fz,rfl,j,h4,m.trans h5⟩,zp,rfl,rfl,zc _,fun c _=>?_⟩
    ·simp only[GO,D,L,P,wg,M,I,we,J,yf,Gm]
    ·rw[H.C1];by_cases e:c=b
     ·grind [Gv]
     grind
  ·simp_all [GO]
  simp_all [GO]
theorem AcG(hr:SR B h0 F ρ st.nx st.ob h){t:TypeId}{p:PV}{x:V}(b:PR F ρ st.nx p x){v:PV}(a:(ZN C.T t p st).To v st'):OK B h0 F ρ st h [] (Gm<|IY C.T h t x) v st':=by
 unfold ZN at a;split at a
 case h_2=>simp at a
 rename_i s c;obtain⟨rfl,rfl⟩:=a;obtain rfl:=Ge b;have d:IY C.T h t (.str s)=some (.ptr h.nx 0,h.push<|.siter s 0):=by simp[IY,Vh,c]
 rw[d];exact OK.new hr (o:=.siter s 0) (n:=0) rfl rfl M5
theorem Afu(hr:SR B h0 F ρ st.nx st.ob h){p:PV}{x:V}(j:PR F ρ st.nx p x){i:Bool}{v:PV}(a:(wS p i st).To v st'):i=true/\∃id off,p=.ptr id off/\OK B h0 F ρ st h [id] (Gm<|Pk h x i) v st':=by
 unfold wS at a;split at a
 case h_2=>simp at a
 rename_i id;split at a
 case h_2=>simp at a
 rename_i s pos d;obtain⟨b,n,y,e,g,k,m,_⟩:=hr.at d;subst k;obtain rfl:=j.2 b n e;refine⟨rfl,id,0,rfl,?_⟩;by_cases hp:pos<s.length
 ·rw[w4 hp]at a;cases a with
  |tt a=>
   obtain⟨rfl,rfl⟩:=a;have l:Pk h (.ptr b 0) true=some (.tup [.bool true,i64 pos,.int .i32<|rune s pos],h.put b<|.siter s<|pos+Ll s pos):=by
    simp only[Pk,g,H4,w4 hp,we];rfl
   refine⟨_,_,F,ρ,.inl (by rw[l];rfl),?_,hr.set d e g rfl rfl (o':=.siter s _) rfl,zp,rfl,rfl,zc _,fun c _=>?_⟩
   ·simp[PR,DC,i64]
   ·rw[H.C1];grind
 ·rw[w8 hp]at a;cases a with
  |ff a=>
   obtain⟨rfl,rfl⟩:=a;refine⟨.tup [.bool false],h,F,ρ,.inl ?_,by simp[PR],hr,zp,rfl,rfl,zc _,(by simp)⟩;simp_all [Pk,H4,w8,Gm]
end
section
variable {B:Nat}{h0:H0}{F:Fz}{ρ:EI}{N:Nat}{C:Ctx}{st st':AP}{h:H}
def Afz:List PV->List Nat
 | .eptr id _ _ _::_=>[id]
 |_=>[]
theorem Abv(hr:SR B h0 F ρ st.nx st.ob h){ps:List PV}{d:List V}(c:Ca F ρ st.nx ps d){v:PV}(a:(Za ps st).To v st'):OK B h0 F ρ st h [] (BT h<|Se d) v st':=by
 unfold Za at a;split at a
 case h_2=>simp at a
 rename_i id sz off len;cases e:Jr (st.obj id)with
 |false=>simp_all
 |true=>
  rw[e]at a;simp only[we,Cy,w5]at a;obtain⟨g,rfl,rfl⟩:=a;obtain⟨o,ho⟩:=bX e;obtain⟨b,n,z,g1,_⟩:=hr.at ho;obtain⟨x,_,rfl,c,rfl⟩:=c;simp only[PR]at c;obtain⟨_,_,o',_,rfl⟩:len<=len/\off+len<=n/\∃o,(o=0\/o=sz)/\x=.sl b (off*sz) len len o:=by
   grind
  refine zo hr (v':=.ptr b<|off*sz) ?_ ?_
  ·have:zn 0 len=true:=by simp_all
   simp only[Se,this,we];rfl
  grind [PR]
theorem pA{k:IntKind}:∀ {l:List Int} {cs:List V},Eb F (.int k) l cs->cs=l.map (V.int k):=by
 intro l cs a;have d:cs.length=l.length:=by rw[a.1];simp[Sh.sz]
 apply List.ext_getElem
 ·grind
 ·intro i b g;have c:i<l.length:=ae
  have:=a.2 i c;have e:(cs.drop<|i*Sh.sz (.int k)).take (Sh.sz<|.int k)=[cs[i]]:=by
   rw[show Sh.sz (.int k)=1 from rfl,Nat.mul_one,zq b];rfl
  grind [DC]
theorem Q9:∀ {l:List Int},TU l=true->IX (l.map<|V.int .u8)=some (UY l)
 |[],_=>rfl
 |x::l,h=>by
  unfold TU at h;rw[yi,zd,zd,w5,w5]at h;have a:=Q9 (l:=l) h.2;grind [Nat.blt_eq,US,IX,UY]
theorem bE{l:List Int}(h:TU l=true)(n:Nat):TU (l.take n)=true:=by
 grind [TU]
theorem AfV(hr:SR B h0 F ρ st.nx st.ob h){ts:Array TypeId}{ps:List PV}{E:List V}(q:Ca F ρ st.nx ps E){v:PV}(a:(oV C.T ts.toList ps st).To v st'):OK B h0 F ρ st h (Afz ps) (Gm<|XW C.T h ts.toList E) v st':=by
 unfold oV at a;split at a
 case h_2=>simp at a
 rename_i pt Z id sz i n t;split at a
 case h_2=>simp at a
 rename_i e u s l hu G;split at a
 case h_2=>simp at a
 rename_i I w hi r;cases K:(zh I.size 1&&zh e u)with
 |false=>simp_all
 |true=>
  rw[K]at a;simp only[we,Cy,zd,w5]at a;obtain⟨⟨⟨⟨⟨L,R⟩,k3⟩,k4⟩,O⟩,rfl,rfl⟩:=a;subst L;obtain⟨es,he⟩:=CU r;have S:s=.int .u8:=ah
  subst S;have:w=l:=ah
  subst this;obtain⟨m,rfl⟩:=Int.eq_ofNat_of_zero_le<|Int.le_of_lt R;obtain⟨b,n',z,h1,h2,⟨cs,fz,rfl,h3,h4,h5⟩,h6,_⟩:=hr.at G;have A:=h6 rfl;obtain⟨x,_,rfl,q,y,_,rfl,hy,rfl⟩:=q;obtain rfl:=Db hy;obtain rfl:=q.2 b n' h1;have W:=(hr.own id b n' h1).2;have D:b∉h0.pin:=fun hp=>(hr.pn b hp).2.2 id n' h1
  have d:∀j oj m,AU (HF st.ob id) j=some oj->BG ρ id none j≠some (b,m):=by
   intro j oj m p g;rw[DY]at p;split at p
   ·cases p
   ·rename_i o;simp only[BG,o,vf]at g;exact o<|hr.inj j id oj _ b m n' p G g h1
  have k:=hr.del id;have M:=pA h3;have J:cs.take m=(w.take m).map (V.int .u8):=by simp_all
  have hb:=Q9<|bE O m;have U:XW C.T h ts.toList [.ptr b<|0*sz+0,.int .i64 (m:Int)]=some (.str<|UY<|w.take m,h.kill b):=by
   rw[zy];rw[t];show(match C.T.und pt,h.get b with
    |some (.pointer e),some (.cells cs u fz)=>(match C.T.inf e,IX (cs.take m)with
     |some i,some l=>bif zh i.size 1&&zh e u&&zn 0 m&&zk m cs.length&&zk m 9223372036854775807&&zk fz.2 fz.1 then some (V.str l,h.kill b)else none
     |_,_=>none)
    |_,_=>none)=_
   have c1:zn 0 m=true:=by simp_all
   have Y:zk m cs.length=true:=(by simp_all);have c3:zk m 9223372036854775807=true:=(by simp_all);have c4:zk fz.2 fz.1=true:=(by simp_all);grind
  rw[U];refine⟨_,_,F,BG ρ id none,.inl rfl,OO _,k.kill d A W D,Le.KQ id,rfl,rfl,zc _,fun c _=>?_⟩;rw[H.Ea];by_cases P:c=b
  ·exact .inr ⟨id,zf.2 rfl,n',P▸h1⟩
  grind
end
section
variable {B:Nat}{h0:H0}{C:Ctx}{F F1 F':Fz}{ρ:EI}{N:Nat}{st st':AP}{fr:Fr}{h h':H}
def PC(F:Fz)(p:PV)(v:V):Prop:=∀ρ N,PR F ρ N p v
def NK(F:Fz)(ps:List PV)(vs:List V):Prop:=∀ρ N,Ca F ρ N ps vs
theorem Le.lP(a:∀b cs,F b=some cs->F1 b=some cs):Le F ρ N F1 ρ N:=⟨a,(by simp),zc _⟩
theorem PC.mono(a:∀b cs,F b=some cs->F1 b=some cs){p:PV}{v:V}(hp:PC F p v):PC F1 p v:=fun ρ N=>(hp ρ N).mono<|Le.lP a
theorem NK.cons{p:PV}{ps:List PV}{v:V}{vs:List V}(b:PC F p v)(a:NK F ps vs):NK F (p::ps) (v::vs):=fun ρ N=>(BY ..).2 ⟨b ρ N,a ρ N⟩
theorem NK.dc{s:Sh}{ps:List PV}{vs:List V}{x:s.T}(hp:NK F ps vs)(a:D1 s ps=some x):DC F s x vs:=Dj (hp (fun _=>none) 0) a
theorem PC.Cx:∀ {s:Sh} {x:s.T} {cs:List V},DC F s x cs->(s.Ps=true->PC F (Cx s x) (.agg cs))/\(s.Ps=false->∀v,cs=[v]->PC F (Cx s x) v)
 | .pair a b,x,cs,h=>⟨fun _ ρ N=>by simp_all [yk,PR,Dx],fun e=>by cases e⟩
 | .unit,x,cs,h=>⟨fun _ ρ N=>by simp_all [DC,yk,PR],fun e=>by cases e⟩
 | .int _,x,cs,h=>(by grind [yk,PR,Sh.Ps,PC])
 | .bool,x,cs,h=>(by grind [yk,PR,Sh.Ps,PC])
 | .str,x,cs,h=>(by grind [yk,PR,Sh.Ps,PC])
 | .list _,x,cs,h=>(by grind [yk,PR,Sh.Ps,PC])
 | .nlist _,x,cs,h=>(by grind [yk,PR,Sh.Ps,PC])
 | .fnv,x,cs,h=>⟨fun e=>(by cases e),fun _ v c ρ N=>by
   subst c;simp only[DC,zt,ve]at h;subst h;unfold yk;cases (x:Option Fn)<;>simp[PR]⟩
 | .ptr s,x,cs,h=>(by grind [DC,yk,PR,Sh.Ps,PC])
theorem SR.AhJ{ob a:Ob}(hr:SR B h0 F ρ N ob h)(c:∀j,AU a j=AU ob j):SR B h0 F ρ N a h:=
 ⟨fun id o e=>hr.obj id o<|c id▸e,fun id id' o o' b n n' g i=>hr.inj id id' o o' b n n' (c id▸g) ah,hr.frz,hr.own,fun id d=>hr.dead id ah,hr.old,hr.lt,hr.le,hr.fo,hr.gl,hr.pn⟩
theorem AeV{s:Sh}{l:List s.T}{cs:List V}{b:Nat}(j:F b=some cs)(e:Eb F s l cs){off len:Nat}(d:off+len<=l.length){cap o:Nat}(c:len<=cap)(g:o=0\/o=s.sz):
  DC F (.list s) ((l.drop off).take len) [.sl b (off*s.sz) len cap o]:=by
 have a:((l.drop off).take len).length=len:=ah
 refine⟨_,rfl,.inr ⟨b,off*s.sz,cap,o,cs,by rw[a],by omega,j,?_,g,fun i k=>?_⟩⟩
 ·rw[a,e.1, <-z7];simp_all [zi]
 grind [Eb]
theorem Nh(st:AP)(p:PV):(BP st p).nx=st.nx/\(BP st p).fr=st.fr/\(BP st p).n=st.n:=by
 unfold BP;split
 ·split<;>exact⟨rfl,rfl,rfl⟩
 simp
theorem D3:∀(ps:List PV) (st:AP),(Bx ps st).nx=st.nx/\(Bx ps st).fr=st.fr/\(Bx ps st).n=st.n
 |[],_=>⟨rfl,rfl,rfl⟩
 |p::ps,st=>by
  obtain⟨c,b,a⟩:=D3 ps<|BP st p;grind [Nh,Bx]
theorem Ka:∀(ps a:List PV) (st:AP),Bx (ps++a) st=Bx a (Bx ps st)
 |[],_,_=>rfl
 |p::ps,a,st=>Ka ps a<|BP st p
def ED:Option Obj->Option Obj->Prop
 |some (.arr _ e s l),o=>∃fz,o=some (.arr fz e s l)
 |a,b=>b=a
theorem ED.refl(o:Option Obj):ED o o:=by
 cases o with
 |none=>rfl
 |some o=>cases o<;>first|rfl|exact⟨_,rfl⟩
theorem Pa(st:AP)(p:PV)(j:Nat):ED (st.obj j) ((BP st p).obj j):=by
 unfold BP;split
 case h_2=>exact ED.refl _
 split
 case h_2=>exact ED.refl _
 rename_i id _ _ _ _ _ fz e s l b;show ED (AU st.ob j)<|AU (Ez st.ob id<|.arr true e s l) j;rw[Ig _ _ _ _<|by show(st.obj id).isSome=true;grind];split
 ·rename_i a;subst a;show ED (st.obj j) _;rw[b];exact⟨_,rfl⟩
 ·exact ED.refl _
theorem xU{st st':AP}(h:∀id,ED (st.obj id)<|st'.obj id)(p:PV):CE st' p=CE st p:=by
 unfold CE;cases p<;>try rfl
 rename_i id sz off len cap;have:=h id;cases a:st.obj id with
 |none=>rw[a]at this;simp only[a,show st'.obj id=none from this]
 |some o=>
  rw[a]at this;cases o with
  |arr fz e s l=>
   obtain⟨fz',b⟩:=this;grind
  |box _=>simp only[a,show st'.obj id=_ from this]
  |tbox _ _=>simp only[a,show st'.obj id=_ from this]
  |map _ _ _=>simp only[a,show st'.obj id=_ from this]
  |siter _ _=>simp only[a,show st'.obj id=_ from this]
  |lp _ _ _ _ _ _ _ _=>simp only[a,show st'.obj id=_ from this]
theorem Om{st st':AP}(h:∀id,ED (st.obj id)<|st'.obj id):∀ps:List PV,Dt st' ps=Dt st ps
 |[]=>rfl
 |p::ps=>by unfold Dt;rw[xU h p,Om h ps]
theorem ED.trans{a b c:Option Obj}(d:ED a b)(g:ED b c):ED a c:=by
 cases a with
 |none=>have:b=none:=d;grind
 |some o=>
  cases o with
  |arr fz e s l=>obtain⟨fz',rfl⟩:=d;exact g
  |box _=>have:b=_:=d;grind
  |tbox _ _=>have:b=_:=d;grind
  |map _ _ _=>have:b=_:=d;grind
  |siter _ _=>have:b=_:=d;grind
  |lp _ _ _ _ _ _ _ _=>have:b=_:=d;grind
theorem Ph:∀(ps:List PV) (st:AP) (id:Nat),ED (st.obj id)<|(Bx ps st).obj id
 |[],_,_=>ED.refl _
 |p::ps,st,id=>(Pa st p id).trans<|Ph ps (BP st p) id
theorem WH{st st':AP}(h:∀id,ED (st.obj id)<|st'.obj id)(s:Sh)(p:PV):E8 st' s p=E8 st s p:=by
 grind [E8,Om]
theorem Oh{st st':AP}(h:∀id,ED (st.obj id)<|st'.obj id):∀(l:List Sh) (ps:List PV),Ds st' l ps=Ds st l ps
 |[],[]=>rfl
 |[],_::_=>rfl
 |[a],[p]=>WH h a p
 |[a],[]=>rfl
 |[a],_::_::_=>rfl
 |a::b::l,[]=>rfl
 |a::b::l,p::ps=>by unfold Ds;rw[WH h a p,Oh h (b::l) ps]
theorem O3(hr:SR B h0 F ρ st.nx st.ob h){p:PV}{v:V}(hp:PR F ρ st.nx p v):
  ∃F1,SR B h0 F1 ρ (BP st p).nx (BP st p).ob h/\(∀b cs,F b=some cs->F1 b=some cs)/\∀x,CE st p=some (true,x)->PC F1 x v:=by
 have same:∀ {q:PV},(∀x,CE st q=some (true,x)->PC F x v)->BP st q=st->∃F1,SR B h0 F1 ρ (BP st q).nx (BP st q).ob h/\(∀b cs,F b=some cs->F1 b=some cs)/\∀x,CE st q=some (true,x)->PC F1 x v:=
  fun A W=>⟨F,by grind,fun _ _ h=>h,A⟩
 cases p with
 |sl id sz off len cap=>
  cases D:st.obj id with
  |none=>grind [CE,BP]
  |some o=>
   cases o with
   |box _=>grind [CE,BP]
   |tbox _ _=>grind [CE,BP]
   |map _ _ _=>grind [CE,BP]
   |siter _ _=>grind [CE,BP]
   |lp _ _ _ _ _ _ _ _=>grind [CE,BP]
   |arr fz e s l=>
    obtain⟨b,n,x,A,W,⟨cs,fz',rfl,L,h5,h6⟩,h7,Z⟩:=hr.at D;have T:BP st (.sl id sz off len cap)=st.setObj id (.arr true e s l):=by simp[BP,D]
    have r:∀j,AU (Ez st.ob id<|.arr true e s l) j=if j=id then some (.arr true e s l)else AU st.ob j:=(by grind [Ig,AP.obj])
    have fin:∀ {G:Fz},G b=some cs->(∀b cs,F b=some cs->G b=some cs)->∀x,CE st (.sl id sz off len cap)=some (true,x)->PC G x v:=by
     intro G hG S x z ρ' N';simp only[CE,D]at z;cases g:zh sz s.sz with
     |false=>grind
     |true=>
      rw[g]at z;simp only[we,zl,zr,w5]at z;obtain⟨w,rfl⟩:=z;have g:=ze g;subst g;unfold PR;rcases hp.2 b n A with⟨K,O,o,Y,rfl⟩|⟨rfl,rfl,Y,rfl|⟨E,rfl,k4⟩⟩
      ·exact AeV hG (L.mono S) w K Y
      ·simp[DC]
      ·simp only[List.take_zero,DC];refine⟨_,rfl,.inr ⟨b,E,0,0,cs,rfl,zc _,hG,?_,.inl rfl,(by simp)⟩⟩;simp only[List.length_nil,zy,Nat.add_zero];rw[L.1];exact Nat.le_trans k4 (by simp_all [zi])
    cases P:fz with
    |true=>
     subst P;obtain⟨cs',t',fz2,K,O⟩:=Z rfl;refine⟨F,?_,fun _ _ h=>h,ah⟩;grind [SR.AhJ,AP.setObj,AP.obj]
    |false=>
     have d:∀c cs',F c=some cs'->(fun c=>if c=b then some cs else F c) c=some cs':=by
      grind
     refine⟨fun c=>if c=b then some cs else F c,?_,d,ah⟩;rw[T];have w:Le F ρ st.nx (fun c=>if c=b then some cs else F c) ρ st.nx:=Le.lP d;have t:∀k ok,AU (Ez st.ob id<|.arr true e s l) k=some ok->∃o2,AU st.ob k=some o2:=by
      intro k ok hk;by_cases ek:k=id
      ·exact⟨_,ek▸D⟩
      grind
     refine⟨fun j oj a=>?_,fun i j oi oj c m m' hi a J M=>?_,fun c cs' I=>?_,hr.own,fun j a=>?_,hr.old,hr.lt,hr.le,fun c cs' I=>?_,hr.gl,hr.pn⟩
     ·have a:AU (Ez st.ob id<|.arr true e s l) j=some oj:=a;rw[r]at a;by_cases R:j=id
      ·subst R;simp only[wk,zl]at a;subst a;refine⟨b,n,_,A,W,⟨cs,fz',rfl,L.mono d,h5,h6⟩,fun e=>(by cases e),(by simp)⟩
      ·rw[wc R]at a;obtain⟨c,m,y,J,M,g3,g4,g5⟩:=hr.obj j oj a;have hne:c≠b:=fun U=>R<|hr.inj j id oj _ c m n a D J<|U▸A
       exact⟨c,m,y,J,M,g3.mono w,ah,ah⟩
     ·obtain⟨_,K⟩:=t i oi hi;obtain⟨_,O⟩:=t j oj a;exact hr.inj i j _ _ c m m' K O J M
     ·split at I
      ·grind
      ·exact hr.frz c cs' I
     ·have a:AU (Ez st.ob id<|.arr true e s l) j=none:=a;rw[r]at a;split at a
      ·cases a
      ·exact hr.dead j a
     ·split at I
      ·rename_i U;subst U;exact .inr (hr.own id c n A).2
      ·exact hr.fo c cs' I
 |dat s x=>exact same (fun y u ρ' N'=>by simp only[CE,zl,zr,true_and]at u;grind [PR]) rfl
 |bl b=>exact same (fun y u ρ' N'=>by simp only[CE,zl,zr,true_and]at u;grind [PR]) rfl
 |nil=>exact same (fun y u ρ' N'=>by simp only[CE,zl,zr,true_and]at u;grind [PR]) rfl
 |AV s x off=>exact same (fun y u ρ' N'=>by simp only[CE,zl,zr,true_and]at u;grind [PR]) rfl
 |any|ub|yl _|nilp|nilm|nilf|nili|agg _|tup _|ptr _ _|eptr _ _ _ _|mp _|fn _ _ _=>exact same (fun x z=>by simp[CE]at z) rfl
theorem JS:∀ {ps:List PV} {vs:List V} {st:AP} {F:Fz},SR B h0 F ρ st.nx st.ob h->Ca F ρ st.nx ps vs->
  ∃F1,SR B h0 F1 ρ (Bx ps st).nx (Bx ps st).ob h/\(∀b cs,F b=some cs->F1 b=some cs)/\∀e,Dt st ps=some (true,e)->NK F1 e vs
 |[],vs,st,F,hr,hp=>⟨F,hr,fun _ _ h=>h,(by grind [Dt,NK,Ca])⟩
 |p::ps,vs,st,F,hr,hp=>by
  obtain⟨v,vs,rfl,i,o⟩:=hp;obtain⟨F1,g1,g2,g3⟩:=O3 hr i;have g:Ca F1 ρ (BP st p).nx ps vs:=by rw[(Nh st p).1];exact o.mono<|Le.lP g2
  obtain⟨q,l,k,r⟩:=JS g1 g;refine⟨q,l,ah,fun e a=>?_⟩;unfold Dt at a;split at a
  case h_2=>cases a
  rename_i c x d m j s;simp only[zl,zr,zd]at a;obtain⟨⟨rfl,rfl⟩,rfl⟩:=a;exact NK.cons ((g3 x j).mono k) (by grind [Om,Pa])
theorem rH(hr:SR B h0 F ρ st.nx st.ob h){t:TypeId}{n:Nat}{l:List (Nat×PV)}{l':List (Nat×V)}(G:PRn F ρ st.nx l l'){v:PV}(a:(U4 C.T t n l st).To v st'):OK B h0 F ρ st h [] (Gm<|FC C.T h t n l') v st':=by
 unfold U4 at a;split at a
 case h_2=>simp at a
 rename_i e J;split at a
 case h_2=>simp at a
 rename_i i s K Z;cases p:(zk (Nat.mul n i.size) 16777216&&zn 0 i.zero.length&&zh i.zero.length i.size&&zh i.size s.sz)with
 |false=>rw[p]at a;simp at a
 |true=>
  rw[p]at a;simp only[zd]at p;obtain⟨⟨⟨E,D⟩,q⟩,I⟩:=p;simp only[we]at a;split at a
  case h_2=>simp at a
  rename_i cs m;split at a
  case h_2=>
   split at a
   case h_2=>simp at a
   rename_i c cs' R;split at a
   case h_2=>simp at a
   rename_i el d;simp only[Cy]at a;obtain⟨rfl,rfl,rfl⟩:=a;have M:=ze q;have z:=ze I;have w:Ca F ρ st.nx (RH (i.zero.map Y0) n) (Gq i.zero<|n*i.size):=by
    grind [IK,LW]
   obtain⟨j,k,y⟩:=KJ hr G w m;have b:j.length=n*s.sz:=by
    rw[<-z];rw[N1 k];simp[Gq]
   obtain⟨F1,O,W,U⟩:=JS hr y;obtain⟨u,Y⟩:=K9 (U cs' R ρ st.nx) d b;have A:FC C.T h t n l'=some (.sl h.nx 0 n n 0,h.push<|.cells j e (0,0)):=by
    have g:zk (n*i.size) 16777216=true:=E;simp only[FC,J,K,g,D,q,yh,we,k,JB]
   rw[A];obtain⟨L,S,P⟩:=D3 cs st;have r:=OK.new (F:=F1) (ρ:=ρ) (st:=Bx cs st) O (o:=.arr false e s el) (x:=.cells j e (0,0)) (n:=n) (v:=.sl (Bx cs st).nx s.sz 0 n none) (v':=.sl h.nx 0 n n 0) rfl ⟨_,_,rfl,ae,zc _,u⟩ (Sr<|.inl rfl);obtain⟨v',h',F',ρ',q1,q2,q3,q4,q5,q6,q7,q8⟩:=r;rw[L]at q2;exact⟨v',h',F',ρ',q1,q2,q3,(by rw[L]at q4;exact(Le.lP W).trans q4),q5.trans S,q6.trans P,q7,q8⟩
  rename_i el d;obtain⟨rfl,rfl⟩:=a;have M:=ze q;have z:=ze I;have w:Ca F ρ st.nx (RH (i.zero.map Y0) n) (Gq i.zero<|n*i.size):=by
   grind [IK,LW]
  obtain⟨j,k,y⟩:=KJ hr G w m;have b:j.length=n*s.sz:=by
   rw[<-z];rw[N1 k];simp[Gq]
  obtain⟨u,Y⟩:=K9 y d b;have A:FC C.T h t n l'=some (.sl h.nx 0 n n 0,h.push<|.cells j e (0,0)):=by
   have g:zk (n*i.size) 16777216=true:=E;simp only[FC,J,K,g,D,q,yh,we,k,JB]
  rw[A];exact OK.new hr (o:=.arr false e s el) (n:=n) rfl ⟨_,_,rfl,ae,zc _,u⟩ (Sr<|.inl rfl)
end
section
variable {B:Nat}{h0:H0}{F:Fz}{ρ:EI}{N:Nat}{C:Ctx}{st st':AP}{fr:Fr}{h h':H}
theorem EA{x:Operand}{k:PV->PO}{v:PV}:(v1 st x k).To v st'↔∃p,SO st x=some p/\(k p).To v st':=by
 unfold v1;cases SO st x with
 |none=>simp
 |some p=>simp
theorem qP(b:FP F ρ N st fr){x:Option Operand}{k:Option PV->PO}{v:PV}(a:(o1 st x k).To v st'):∃p y,YV C fr x=some y/\YT F ρ N p y/\(k p).To v st':=by
 cases x with
 |none=>exact⟨none,none,rfl,rfl,a⟩
 |some x=>
  obtain⟨p,d,c⟩:=EA.1 a;obtain⟨y,g1,g2⟩:=Cs (C:=C) b d;exact⟨some p,some y,by simp[YV,g1],⟨y,rfl,g2⟩,c⟩
theorem jQ(hr:SR B h0 F ρ st.nx st.ob h){b:Builtin}{ts:Array TypeId}{ps:List PV}{d:List V}(c:Ca F ρ st.nx ps d){v:PV}(a:(JJ C.T b ts ps st).To v st'):
  OK B h0 F ρ st h (match b with| .append| .clear=>Gv ps| .unsafeString=>Afz ps|_=>[]) (FR C h b ts d) v st':=by
 unfold JJ at a;split at a
 case h_8=>simp at a
 case h_7=>exact AfV hr c a
 case h_6=>exact Abv hr c a
 case h_5=>exact Aaf hr c a
 case h_1=>exact AhH hr c a
 case h_2=>exact xC hr c a
 case h_3=>exact Aii (g:=nM) hr (by grind [nM,imax]) c a
 case h_4=>exact Aii (g:=Ac6) hr (fun k x y=>by rfl) c a
theorem Acz(hr:Rel B h0 F ρ st fr h){o:Oper}{v:PV}(e:(pop o.op C.T st).To v st'):
  ∃K,OK B h0 F ρ st h K (HN C fr h o) v st'/\∀sp J,HZ sp st o.op=some J->∀i∈K,i∈J:=by
 have nil:∀ {d:Option OR} {op:Op},OK B h0 F ρ st h [] d v st'->∃K,OK B h0 F ρ st h K d v st'/\∀sp J,HZ sp st op=some J->∀i∈K,i∈J:=ah;have g:∀ {x p},SO st x=some p->∃y,ev C fr x=some y/\PR F ρ st.nx p y:=fun hp=>Cs hr.fp hp
 unfold pop at e;rw[Dn];unfold HT;cases S:o.op<;>rw[S]at e<;>simp only[Lb,OA]at e<;>simp only
 case move x|assign x=>
  simp only[Zg,TP]at e;obtain⟨E,rfl⟩:=e;obtain⟨y,D,A⟩:=g E;refine nil ?_;rw[D];exact zo hr.sr rfl A
 case pick c a b=>
  simp only[zK,EA]at e;obtain⟨p,E,q,I,r,V,e⟩:=e;obtain⟨x,D,A⟩:=g E;obtain⟨y,g3,g4⟩:=g I;obtain⟨z,g5,g6⟩:=g V;obtain⟨t,rfl,R⟩:=AfP hr.sr A g4 g6 e;grind
 case alloc t=>exact nil<|Aco hr.sr e
 case box t x=>
  simp only[AdT,EA]at e;obtain⟨p,E,e⟩:=e;obtain⟨y,D,A⟩:=g E;split at e
  case h_2=>simp at e
  rename_i cs U;cases W:Det.Np (MT st) cs with
  |false=>simp_all
  |true=>
  rw[W]at e;simp only[we,Cu]at e;obtain⟨rfl,rfl⟩:=e;refine nil ?_;rw[D];exact AhZ hr.sr A U (by rw[<-GC];exact W)
 case build t ps=>
  simp only[fN]at e;split at e
  case h_2=>simp at e
  rename_i l L;obtain⟨l',D,A⟩:=SE (C:=C) hr.fp L;refine nil ?_;rw[D];exact AcE hr.sr A e
 case buildSlice t n ps=>
  simp only[Yx]at e;split at e
  case h_2=>simp at e
  rename_i l L;obtain⟨l',D,A⟩:=SE (C:=C) hr.fp L;refine nil ?_;rw[D];exact rH hr.sr A e
 case load t x=>
  simp only[yO,EA]at e;obtain⟨p,E,e⟩:=e;obtain⟨y,D,A⟩:=g E;refine nil ?_;rw[D];exact qS hr.sr A e
 case store t x y=>
  simp only[dL,EA]at e;obtain⟨p,E,q,I,e⟩:=e;obtain⟨a,D,A⟩:=g E;obtain⟨b,g3,g4⟩:=g I;obtain⟨id,hid,R⟩:=AcL hr.sr A g4 e;refine⟨[id],by grind,fun sp J M=>?_⟩;simp only[HZ,E]at M;grind
 case nilCheck x=>
  simp only[QH,EA]at e;obtain⟨p,E,e⟩:=e;obtain⟨y,D,A⟩:=g E;rw[D];split at e
  case h_4=>simp at e
  case h_1=>
   rename_i id off;cases L:Jr (st.obj id)with
   |false=>simp_all
   |true=>
    rw[L]at e;simp only[we,Cu]at e;obtain⟨rfl,rfl⟩:=e;obtain⟨b,n,k1⟩:=hr.sr.live L;have G:=A;simp only[PR]at G;obtain rfl:=G.2 b n k1;exact nil<|zo hr.sr rfl A
  case h_2=>
   rename_i id sz j off;cases L:Jr (st.obj id)with
   |false=>simp_all
   |true=>
    rw[L]at e;simp only[we,Cu]at e;obtain⟨rfl,rfl⟩:=e;obtain⟨b,n,k1⟩:=hr.sr.live L;have G:=A;simp only[PR]at G;obtain rfl:=G.2 b n k1;exact nil<|zo hr.sr rfl A
  case h_3=>
   simp only[Cu]at e;obtain⟨rfl,rfl⟩:=e;have G:=A;simp only[PR]at G;obtain⟨b,o',cs,rfl,_⟩:=G;exact nil<|zo hr.sr rfl A
 case binOp op t x y t2=>
  simp only[Ad3,EA]at e;obtain⟨p,E,q,I,e⟩:=e;obtain⟨a,D,A⟩:=g E;obtain⟨b,g3,g4⟩:=g I;refine nil ?_;rw[D,g3];split at e
  case h_2=>exact AhU hr.sr A g4 e
  rename_i r P;simp only[Cu]at e;obtain⟨rfl,rfl⟩:=e;unfold Adt at P;split at P
  case h_3=>cases P
  all_goals
   rename_i m hu;cases Y:(eQ x||eQ y)with
   |false=>grind
   |true=>
    rw[Y]at P;cases P;simp only[PR]at A g4;subst A g4;exact zo hr.sr (by simp only[Lm,AaY,hu,Y,we,BT])<|vJ _
 case unOp op t x=>
  simp only[Aif,EA]at e;obtain⟨p,E,e⟩:=e;obtain⟨y,D,A⟩:=g E;refine nil ?_;rw[D];exact Ajd hr.sr A e
 case convert s d x=>
  simp only[uL,EA]at e;obtain⟨p,E,e⟩:=e;obtain⟨y,D,A⟩:=g E;refine nil ?_;rw[D];exact Af6 hr.sr A e
 case makeFunc f a b=>
  simp only[oP]at e;split at e
  case h_2=>simp at e
  rename_i x y hx hy;simp only[Cu]at e;obtain⟨rfl,rfl⟩:=e;obtain⟨u,D,A⟩:=FY (C:=C) hr.fp hx;obtain⟨w,g3,g4⟩:=FY (C:=C) hr.fp hy;refine nil ?_;rw[D,g3];exact zo hr.sr rfl (by unfold PR;grind)
 case makeMap t r=>
  simp only[iK]at e;split at e
  case h_2=>simp at e
  refine nil ?_;exact Aaj hr.sr e
 case lookup t x i ok=>
  simp only[WC,EA]at e;obtain⟨p,E,q,I,e⟩:=e;obtain⟨a,D,A⟩:=g E;obtain⟨b,g3,g4⟩:=g I;refine nil ?_;rw[D,g3];exact zJ hr.sr A g4 e
 case mapUpdate t m k x|insert t m k x=>
  simp only[Sm,EA]at e;obtain⟨p,E,q,I,r,V,e⟩:=e;obtain⟨a,D,A⟩:=g E;obtain⟨b,g3,g4⟩:=g I;obtain⟨c,g5,g6⟩:=g V;obtain⟨id,rfl,R⟩:=uM hr.sr A g4 g6 e;grind [HZ]
 case makeSlice t l c=>
  simp only[qU,EA]at e;obtain⟨p,E,q,I,e⟩:=e;obtain⟨a,D,A⟩:=g E;obtain⟨b,g3,g4⟩:=g I;refine nil ?_;rw[D,g3];exact AfZ hr.sr A g4 e
 case slice t x lo hi mx=>
  simp only[fF,EA]at e;obtain⟨p,E,e⟩:=e;obtain⟨a,D,A⟩:=g E;obtain⟨l,l',k1,k2,e⟩:=qP (C:=C) hr.fp e;obtain⟨m,m',k3,k4,e⟩:=qP (C:=C) hr.fp e;obtain⟨n,n',k5,k6,e⟩:=qP (C:=C) hr.fp e;refine nil ?_;rw[D,k1,k3,k5];exact AcT hr.sr A k2 k4 k6 e
 case fieldAddr t x f=>
  simp only[dC,EA]at e;obtain⟨p,E,e⟩:=e;obtain⟨y,D,A⟩:=g E;refine nil ?_;rw[D];exact Aay hr.sr A e
 case field t x f=>
  simp only[gQ,EA]at e;obtain⟨p,E,e⟩:=e;obtain⟨y,D,A⟩:=g E;refine nil ?_;rw[D];exact Adg hr.sr A e
 case indexAddr t x i=>
  simp only[gS,EA]at e;obtain⟨p,E,q,I,e⟩:=e;obtain⟨a,D,A⟩:=g E;obtain⟨b,g3,g4⟩:=g I;refine nil ?_;rw[D,g3];exact AbI hr.sr A g4 e
 case index t x i=>
  simp only[eX,EA]at e;obtain⟨p,E,q,I,e⟩:=e;obtain⟨a,D,A⟩:=g E;obtain⟨b,g3,g4⟩:=g I;refine nil ?_;rw[D,g3];exact Adf hr.sr A g4 e
 case extract x i=>
  simp only[Ue,EA]at e;obtain⟨p,E,e⟩:=e;obtain⟨y,D,A⟩:=g E;refine nil ?_;rw[D];exact mD hr.sr A e
 case range t x=>
  simp only[eI,EA]at e;obtain⟨p,E,e⟩:=e;obtain⟨y,D,A⟩:=g E;refine nil ?_;rw[D];exact AcG hr.sr A e
 case next x i=>
  simp only[wA,EA]at e;obtain⟨p,E,e⟩:=e;obtain⟨y,D,A⟩:=g E;obtain⟨rfl,id,off,rfl,R⟩:=Afu hr.sr A e;grind [HZ]
 case call c=>
  simp only[Wn]at e;split at e
  case h_1=>simp at e
  rename_i args O;obtain⟨args',D,A⟩:=FY (C:=C) hr.fp O;split at e
  case h_2=>simp at e
  case h_1=>
   rename_i b Z;split at e
   case h_1=>
    obtain⟨id,qs,rfl,R⟩:=yR hr.sr A e;refine⟨[id],by rw[Z,D];exact R,fun sp J M=>?_⟩;grind [HZ]
   case h_2=>
   have:=jQ hr.sr A e;grind [HZ,Gv,Afz]
end
section
variable {B:Nat}{h0:H0}{F:Fz}{ρ:EI}{N:Nat}{X:AG}{st st':AP}{fr:Fr}{h h':H}{Q:PV->Ob->Prop}{n:Nat}
@[simp] theorem DZ(st:AP)(t:Nat)(p:PV)(s:Nat):(st.set t p).get s=if s=t then p else st.get s:=by
 unfold AP.get AP.set;grind [PM.DZ]
theorem Rel.set(hr:Rel B h0 F ρ st fr h){t:Nat}{p:PV}{x:V}(hp:PR F ρ st.nx p x):Rel B h0 F ρ (st.set t p) ⟨fr.n,fr.m.set t<|some x⟩ h:=by
 refine⟨⟨hr.fp.n,fun s=>?_⟩,hr.sr⟩;rw[DZ];unfold Fr.get;simp only[PM.DZ];split
 ·exact hp
 ·exact hr.fp.slot s
theorem Rel.note(hr:Rel B h0 F ρ st fr h){t:Nat}{p:PV}(hp:PR F ρ st.nx p (fr.get t)):Rel B h0 F ρ (st.set t p) fr h:=by
 refine⟨⟨hr.fp.n,fun s=>?_⟩,hr.sr⟩;rw[DZ];split
 ·rename_i e;subst e;exact hp
 ·exact hr.fp.slot s
theorem Rel.put(hr:Rel B h0 F ρ st fr h){d:Option Nat}{p:PV}{x:V}(hp:PR F ρ st.nx p x)(a:st.put d p=some st'):∃fr',fr.put d x=some fr'/\Rel B h0 F ρ st' fr' h/\st'.nx=st.nx/\st'.ob=st.ob:=by
 unfold AP.put at a;unfold Fr.put;cases d with
 |none=>grind
 |some t=>
  simp only at a ⊢;have c:st.n=fr.n:=hr.fp.n;rw[c]at a;cases b:zn t fr.n with
  |false=>grind
  |true=>
   rw[b]at a;simp only[we,zl]at a;subst a;exact⟨_,rfl,hr.set hp,rfl,rfl⟩
structure DO(B:Nat)(h0:H0)(F:Fz)(ρ:EI)(N:Nat)(h:H)(st':AP)(fr':Fr)(h':H)(F':Fz)(ρ':EI):Prop where
 rel:Rel B h0 F' ρ' st' fr' h'
 le:Le F ρ N F' ρ' st'.nx
 nx:h.nx<=h'.nx
theorem DO.refl(hr:Rel B h0 F ρ st fr h):DO B h0 F ρ st.nx h st fr h F ρ:=⟨hr,zp,zc _⟩
theorem DO.trans{F' i:Fz}{ρ' d:EI}{c:AP}{fr' e:Fr}{g:H}(a:DO B h0 F ρ N h st' fr' h' F' ρ')(b:DO B h0 F' ρ' st'.nx h' c e g i d):DO B h0 F ρ N h c e g i d:=
 ⟨b.rel,a.le.trans b.le,Nat.le_trans a.nx b.nx⟩
def Aht(X:AG)(ρ:EI)(h:H)(args':List V):Cal->Cl->Prop
 | .fn g,c=>c=.fn g args'/\X.C.prim g=none/\∃i,X.C.fn g=some i
 | .rnd id,c=>∃b n ls,ρ id=some (b,n)/\h.get b=some (.loop ls)/\args'.length=ls.ps.size/\c=.rnd b ls (Ik ls.ps.toList args' ls.fr)
inductive OU (X:AG) (ρ:EI) (h:H) (args':List V):Cal->List (V×H)->Prop where
 |Bp {g:Cal} {c:Cl} {l:List (V×H)} {M:Nat}:Aht X ρ h args' g c->(∀m,M<=m->Det.Bp X.C m c h=some l)->OU X ρ h args' g l
 |prim {g:FuncId} {q:List V->H->Option (V×H)} {x:V×H}:X.C.prim g=some q->q args' h=some x->OU X ρ h args' (.fn g) [x]
def Gg(B:Nat)(h0:H0)(X:AG)(nd:Bool)(call:G1):Prop:=
 ∀ {Q:PV->Ob->Prop} {n:Nat} {g:Cal} {args:List PV} {st:AP} {k:PV->AP->Tr},Ev X Q n (call g args st k)->∀ {F:Fz} {ρ:EI} {fr:Fr} {h:H} {args':List V},Rel B h0 F ρ st fr h->Ca F ρ st.nx args args'->
  ∃l,OU X ρ h args' g l/\(nd=false->∃x,l=[x])/\
   ∀x∈l,∃n',n'<=n/\∃r st',Ev X Q n' (k r st')/\∃F' ρ',PR F' ρ' st'.nx r x.1/\DO B h0 F ρ st.nx h st' fr x.2 F' ρ'/\(∀a,g=.fn a->∀sp,X.sp a=some sp->∀b,b<h.nx->x.2.get b=h.get b)
theorem Ev.FE{c:Bool}{a b:Tr}(d:Ev X Q n (.ite c a b)):(c=true/\Ev X Q n a)\/(c=false/\Ev X Q n b):=by
 cases d with
 |ite g e=>
  grind
theorem Ev.XM{a b:Tr}(c:Ev X Q n (.both a b)):Ev X Q n a/\Ev X Q n b:=by
 cases c with
 |both e d=>grind
theorem Ev.AH:¬Ev X Q n .fail:=fun h=>by cases h
theorem Ev.eU{v:PV}{ob:Ob}(a:Ev X Q n (.leaf v ob)):Q v ob:=by
 cases a with
 |leaf h=>exact h
theorem Pf(hr:Rel B h0 F ρ st fr h){ops:Array Oper}{o:Oper}{yes no:AP->Tr}(e:Ev X Q n (guarded ops o st yes no)):
  ∃i,Rel B h0 F ρ i fr h/\i.nx=st.nx/\i.ob=st.ob/\((Bl fr ops o=true/\Ev X Q n (yes i))\/(Bl fr ops o=false/\Ev X Q n (no i))):=by
 unfold guarded at e;unfold Bl;cases u:o.guard with
 |none=>grind
 |some s=>
  obtain⟨j,g⟩:=s;rw[u]at e;simp only at e ⊢;cases v:(ops[j]?).bind (·.dst)with
  |none=>grind [Ev.AH]
  |some t=>
   rw[v]at e;simp only at e ⊢;rw[show st.n=fr.n from hr.fp.n]at e;cases m:zn t fr.n with
   |false=>grind [Ev.AH]
   |true=>
    rw[m]at e;have k:=hr.fp.slot t;split at e
    case h_1=>
     rename_i b d;rw[d]at k;rw[SJ k];grind
    case h_2=>
     rename_i b d;rw[d]at k;have p:=MD k;have note:∀c:Bool,b=c->Rel B h0 F ρ (st.set t<|.bl c) fr h:=by
      rintro c rfl;exact hr.note (by rw[p];rfl)
     cases g with
     |true=>
      rcases e.FE with⟨a,e⟩|⟨a,e⟩
      ·exact⟨_,note true a,rfl,rfl,ah⟩
      ·exact⟨_,note false a,rfl,rfl,ah⟩
     |false=>
      rcases e.FE with⟨a,e⟩|⟨a,e⟩
      ·exact⟨_,note true a,rfl,rfl,ah⟩
      ·exact⟨_,note false a,rfl,rfl,ah⟩
    case h_5=>grind [Ev.AH]
    case h_4=>
     rename_i d;rw[d]at k;obtain⟨b,p⟩:=k;have note:∀c:Bool,b=c->Rel B h0 F ρ (st.set t<|.bl c) fr h:=by
      rintro c rfl;exact hr.note (by rw[p];rfl)
     obtain⟨q,r⟩:=e.XM;cases b with
     |true=>
      cases g with
      |true=>exact⟨_,note true rfl,rfl,rfl,ah⟩
      |false=>exact⟨_,note true rfl,rfl,rfl,ah⟩
     |false=>
      cases g with
      |true=>exact⟨_,note false rfl,rfl,rfl,ah⟩
      |false=>exact⟨_,note false rfl,rfl,rfl,ah⟩
    case h_3=>
     rename_i l d;rw[d]at k;simp only[PR]at k;grind
theorem K1{d:Option Nat}{k:AP->Tr}:∀ {m:PO},Ev X Q n (Tk d k m)->∃u s i,m.To u s/\s.put d u=some i/\Ev X Q n (k i)
 | .bad,e=>wh e Ev.AH
 | .val u s,e=>by
  simp only[Tk]at e;split at e
  ·rename_i s1 o;exact⟨u,s,s1,.val,o,e⟩
  grind [Ev.AH]
 | .ite c a b,e=>by
  rcases e.FE with⟨rfl,g⟩|⟨rfl,g⟩
  ·obtain⟨u,s,s1,j,l⟩:=K1 g;exact⟨u,s,s1,.tt j,l⟩
  ·obtain⟨u,s,s1,j,l⟩:=K1 g;exact⟨u,s,s1,.ff j,l⟩
inductive Did (X:AG) (fr:Fr) (h:H) (o:Oper):List (V×H)->Prop where
 |val {x:V} {h':H}:HN X.C fr h o=some (.val x h')->Did X fr h o [(x,h')]
 |skip {h':H}:HN X.C fr h o=some (.skip h')->Did X fr h o [(.tup [],h')]
 |alts {l:List (V×H)}:HN X.C fr h o=some (.alts l)->Did X fr h o l
 |call {g:FuncId} {args:List V} {l:List (V×H)} {M:Nat}:HN X.C fr h o=some (.enter g args)->(∀m,M<=m->Bp X.C m (.fn g args) h=some l)->Did X fr h o l
 |round {b:Nat} {ls:LS} {f:Fr} {l:List (V×H)} {M:Nat}:HN X.C fr h o=some (.round b ls f)->(∀m,M<=m->Bp X.C m (.rnd b ls f) h=some l)->Did X fr h o l
theorem IM{nd:Bool}{call:G1}(y:Gg B h0 X nd call)(hr:Rel B h0 F ρ st fr h){o:Oper}{k:AP->Tr}(O:Ev X Q n (IS X.C.T call o st k)):
  ∃l,Did X fr h o l/\((nd=false->(∃x,l=[x])/\∀l',HN X.C fr h o≠some (.alts l'))/\((∀id a,NQ st o.op≠ .yes (.rnd id) a)->∀b ls f,HN X.C fr h o≠some (.round b ls f)))/\∀x∈l,∃n',n'<=n/\∃e,Ev X Q n' (k e)/\∃F' ρ' fr',fr.put o.dst x.1=some fr'/\DO B h0 F ρ st.nx h e fr' x.2 F' ρ'/\
   ∀v,HZ X.sp st o.op=some v->∀b,b<h.nx->x.2.get b=h.get b\/∃id∈v,∃m,ρ id=some (b,m):=by
 unfold IS at O;split at O
 case h_2=>grind [Ev.AH]
 case h_1=>
  rename_i g args w;unfold NQ at w;split at w
  case h_2=>cases w
  rename_i c Y;split at w
  case h_2=>cases w
  rename_i f J;split at w
  case h_3=>cases w
  case h_2=>
   rename_i id ps P G;cases w;obtain⟨fv,f1,R⟩:=Cs (C:=X.C) hr.fp P;obtain⟨av,a1,a2⟩:=FY (C:=X.C) hr.fp G;simp only[PR]at R;obtain⟨l,hcd,hnd,hall⟩:=y O hr a2;obtain⟨hcd1,U⟩:=hcd;obtain⟨b,m,ls,c1,c2,c3,rfl⟩:=hcd1;have d:HN X.C fr h o=some (.round b ls<|Ik ls.ps.toList av ls.fr):=by
    simp_all [Dn,HT,Je]
   refine⟨l,.round d U,⟨ah,fun hno=>?_⟩,fun x I=>?_⟩
   ·grind [NQ]
   obtain⟨n',W,r,st',z,F',ρ',hp,E,S⟩:=hall x I;split at z
   case h_2=>grind [Ev.AH]
   rename_i e p;obtain⟨fr',A,M,L,V⟩:=E.rel.put hp p;refine⟨n',W,e,z,F',ρ',fr',A,⟨M,by rw[L];exact E.le,E.nx⟩,fun v j b hb=>?_⟩;grind [HZ]
  rename_i g' first cap ps P G
  cases w;obtain⟨fv,f1,R⟩:=Cs (C:=X.C) hr.fp P;obtain⟨av,a1,a2⟩:=FY (C:=X.C) hr.fp G;simp only[PR]at R;obtain⟨fa,fb,rfl,f3,f4⟩:=R;have D:Ca F ρ st.nx (first++ps++cap) (fa++av++fb):=(f3.append a2).append f4;obtain⟨l,hcd,hnd,hall⟩:=y O hr D;have K:Did X fr h o l/\(∀l',HN X.C fr h o≠some (.alts l'))/\∀b ls f,HN X.C fr h o≠some (.round b ls f):=by
   cases hcd with
   |Bp w U=>
    obtain⟨rfl,Z,i,hfn⟩:=w;have d:HN X.C fr h o=some (.enter g'<|fa++av++fb):=by
     simp_all [Dn,HT,Je]
    exact⟨.call d U,ah,ah⟩
   |prim hq I=>
    rename_i q x;have d:HN X.C fr h o=some (.val x.1 x.2):=by
     grind [Dn,HT,Je,Gm]
    exact⟨.val d,ah,ah⟩
  refine⟨l,K.1,ah,fun x I=>?_⟩;obtain⟨n',W,r,st',z,F',ρ',hp,E,S⟩:=hall x I;split at z
  case h_2=>grind [Ev.AH]
  rename_i e p;obtain⟨fr',A,M,L,V⟩:=E.rel.put hp p;refine⟨n',W,e,z,F',ρ',fr',A,⟨M,by rw[L];exact E.le,E.nx⟩,fun v j b hb=>?_⟩;simp only[Y,HZ,J,P]at j;grind
 case h_3=>
  obtain⟨u,s,e,h1,h2,h3⟩:=K1 O;obtain⟨tch,⟨v',h',F',ρ',A,M,L,V,g5,g6,g7,g8⟩,htch⟩:=Acz (C:=X.C) hr h1;have hrs:Rel B h0 F' ρ' s fr h':=⟨⟨by rw[g6];exact hr.fp.n,fun t=>by
   have:s.get t=st.get t:=by unfold AP.get;rw[g5]
   rw[this];exact(hr.fp.slot t).mono V⟩,L⟩
  obtain⟨fr',k1,k2,k3,k4⟩:=hrs.put M h2;refine⟨[(v',h')],?_,ah,fun x I=>?_⟩
  ·rcases A with A|⟨A,rfl⟩
   ·exact .val A
   ·exact .skip A
  ·cases zf.1 I;refine⟨n,zc _,e,h3,F',ρ',fr',k1,⟨k2,by grind,g7⟩,fun v j b hb=>?_⟩;grind
theorem Agp{α a:Type}{f:α->Option (List a)}{x:α}:bl [x] f=f x:=by
 grind [bl]
theorem KR{α d:Type}{f:Nat->Nat->α->Option (List d)}{P:d->Prop}{nd:Bool}{l:List α}(c:nd=false->∃x,l=[x])(h:∀a∈l,∃r M,(∀m,M<=m->∀q,M<=q->f m q a=some r)/\(nd=false->∃x,r=[x])/\∀y∈r,P y):
  ∃r M,(∀m,M<=m->∀q,M<=q->bl l (f m q)=some r)/\(nd=false->∃x,r=[x])/\∀y∈r,P y:=by
 cases nd with
 |false=>
  obtain⟨x,rfl⟩:=c rfl;simp_all [Agp]
 |true=>
  clear c;suffices hs:∃r M,(∀m,M<=m->∀q,M<=q->bl l (f m q)=some r)/\∀y∈r,P y by
   simp_all
  induction l with
  |nil=>exact⟨[],0,fun _ _ _ _=>rfl,(by simp)⟩
  |cons a l e=>
   obtain⟨r,M,j,_,g⟩:=h a (by simp);obtain⟨r2,M2,h3,h4⟩:=e (by simp_all);cases l with
   |nil=>exact⟨r,M,(by grind [bl]),g⟩
   |cons b l=>
    refine⟨r++r2,max M M2,fun m o q i=>?_,fun y k=>?_⟩
    ·grind [bl]
    grind
theorem Sq{d:Option Nat}{P:Fr×H->Prop}:∀ {l:List (V×H)},(∀x∈l,∃fr',fr.put d x.1=some fr'/\P (fr',x.2))->∃r,IE fr d l=some r/\(∀y∈r,P y)/\((∃x,l=[x])->∃y,r=[y])
 |[],_=>⟨[],rfl,(by simp),(by simp)⟩
 |x::l,h=>by
  obtain⟨fr',e,c⟩:=h x (by simp);obtain⟨r,h3,h4,_⟩:=Sq (l:=l) (fun y b=>h y ah);refine⟨(fr',x.2)::r,?_,fun y b=>?_,fun⟨z,a⟩=>?_⟩
  ·grind [IE]
  ·grind
  ·cases a;cases h3;simp
theorem Did.AjU{l:List (V×H)}{o:Oper}{ops:Array Oper}(a:Did X fr h o l)(k:Bl fr ops o=true){P:Fr×H->Prop}(hp:∀x∈l,∃fr',fr.put o.dst x.1=some fr'/\P (fr',x.2)):
  ∃r M,(∀m,M<=m->step1 X.C (Bp X.C m) ops o fr h=some r)/\((∃x,l=[x])->∃y,r=[y])/\∀y∈r,P y:=by
 obtain⟨r,p,d,c⟩:=Sq hp;cases a with
 |@val x h' a=>
  obtain⟨fr',j,i⟩:=hp _<|zf.2 rfl;exact⟨[(fr',h')],0,(by simp_all [step1,JE]),(by simp),ah⟩
 |@skip h' a=>
  obtain⟨fr',j,i⟩:=hp _<|zf.2 rfl;exact⟨[(fr',h')],0,(by simp_all [step1,JE]),(by simp),ah⟩
 |alts a=>exact⟨r,0,(by simp_all [step1,JE]),c,d⟩
 |@call g args l M a e=>exact⟨r,M,(by simp_all [step1,JE]),c,d⟩
 |@round b ls f l M a e=>exact⟨r,M,(by simp_all [step1,JE]),c,d⟩
theorem jG{T:Co}{h:H}{s d:TypeId}{b off:Nat}:GU T h s d (.ptr b off)=none:=by
 simp_all [GU]
theorem yE(hr:Rel B h0 F ρ st fr h){o:Oper}{v:PV}(a:AeB X.C.T st o.op=some v):OK B h0 F ρ st h [] (JE X.C fr h o) v st:=by
 have fin:∀ {s d:TypeId} {x:Operand} {b off:Nat} {u:V},o.op=.convert s d x->ev X.C fr x=some (.ptr b off)->AV X.C.T h s d (.ptr b off)=some u->PR F ρ st.nx v u->OK B h0 F ρ st h [] (JE X.C fr h o) v st:=by
  intro s d x b off u c j g w;have q:HN X.C fr h o=none:=by
   rw[Dn];unfold HT;rw[c];simp only[j,jG];rfl
  refine zo hr.sr (v':=u) ?_ w;grind [JE]
 unfold AeB at a;split at a
 case h_2=>cases a
 rename_i s d x c;split at a
 case h_3=>cases a
 case h_1=>
  rename_i t id off r D l;split at a
  case h_2=>cases a
  rename_i i tb cs A m;cases k:(zn 0 i.size&&zn off (Det.Fb cs))with
  |false=>grind
  |true=>
   rw[k]at a;cases a;obtain⟨y,j,g⟩:=Cs (C:=X.C) hr.fp l;obtain⟨b,n,z,k1,k2,⟨bs,fz,rfl,k4,_⟩,_⟩:=hr.sr.at m;have p:=g;obtain rfl:=p.2 b n k1;refine fin c j ?_ g;unfold AV;rw[DF,k4.len]at k;grind
 case h_2=>
  rename_i u id off r D l;split at a
  case h_2=>cases a
  rename_i i e cs A m;cases k:(zn 0 i.size&&zk i.size (Det.Fb cs)&&zh e u&&zh off 0)with
  |false=>grind
  |true=>
   rw[k]at a;cases a;obtain⟨y,j,g⟩:=Cs (C:=X.C) hr.fp l;obtain⟨b,n,z,k1,k2,⟨bs,fz,rfl,k4,_⟩,_⟩:=hr.sr.at m;have p:=g;obtain rfl:=p.2 b n k1;have h0:off=0:=by
    simp_all
   subst h0;refine fin c j (u:=.ptr b 0) ?_ g;unfold AV;rw[DF,k4.len]at k;grind
theorem WM(hr:Rel B h0 F ρ st fr h){o:Oper}{v:PV}{c:AP}(a:VA X.C.T st o.op=some (v,c)):OK B h0 F ρ st h [] (JE X.C fr h o) v c:=by
 unfold VA at a;split at a
 case h_2=>cases a
 rename_i s d x i;split at a
 case h_2=>cases a
 rename_i e l q t g;split at a
 case h_2=>cases a
 cases a;obtain⟨y,m,p⟩:=Cs (C:=X.C) hr.fp g;obtain rfl:=Ge p;have k:HN X.C fr h o=none:=by
  rw[Dn];unfold HT;rw[i];simp only[m,GU,q,t];rfl
 have g:JE X.C fr h o=Gm (some (.sl h.nx 0 l.length l.length 1,h.push<|.cells (l.map fun b=>.int .u8<|.ofNat b.toNat) e (0,0))):=by
  simp_all [AV,JE,VO]
 rw[g];refine OK.new hr.sr (o:=.arr false e (.int .u8)<|l.map fun b=>(b.toNat:Int)) (n:=l.length) rfl ⟨l.map fun b=>V.int .u8<|.ofNat b.toNat,(0,0),rfl,⟨by simp[Sh.sz],fun j u=>?_⟩,zc _,by simp⟩ ?_
 ·have r:j<l.length:=ah
  have w:((l.map fun b=>V.int .u8<|.ofNat b.toNat).drop<|j*1).take 1=[V.int .u8<|.ofNat (l[j]).toNat]:=by
   simp_all [zq]
  grind [DC,Sh.sz]
 simp_all [PR,BG]
theorem ZG(hr:Rel B h0 F ρ st fr h){o:Oper}{v:PV}{a:AP}(b:Y3 X.C.T st o.op=some (v,a)):OK B h0 F ρ st h [] (JE X.C fr h o) v a:=by
 grind [Y3,WM,yE]
theorem XG{nd:Bool}{call:G1}(i:Gg B h0 X nd call){ops:Array Oper}:∀ {l:List Oper} {n:Nat} {st:AP} {F:Fz} {ρ:EI} {fr:Fr} {h:H} {k:AP->Tr},Rel B h0 F ρ st fr h->Ev X Q n (prun X.C.T call ops l st k)->
  ∃r M,(∀m,M<=m->We X.C (Bp X.C m) ops l fr h=some r)/\(nd=false->∃x,r=[x])/\∀x∈r,∃n',n'<=n/\∃a,Ev X Q n' (k a)/\∃F' ρ',DO B h0 F ρ st.nx h a x.1 x.2 F' ρ'
 |[],n,st,F,ρ,fr,h,k,hr,c=>⟨[(fr,h)],0,fun _ _=>rfl,(by simp),fun x hx=>by cases zf.1 hx;exact⟨n,zc _,st,c,F,ρ,DO.refl hr⟩⟩
 |o::d,n,st,F,ρ,fr,h,k,hr,c=>by
  unfold prun at c;obtain⟨a,g,e1,e2,q⟩:=Pf hr c;have fin:∀ {l:List (Fr×H)},(∃M,∀m,M<=m->step1 X.C (Bp X.C m) ops o fr h=some l)->(nd=false->∃x,l=[x])->
    (∀y∈l,∃n',n'<=n/\∃b,Ev X Q n' (prun X.C.T call ops d b k)/\∃F' ρ',DO B h0 F ρ st.nx h b y.1 y.2 F' ρ')->
    ∃r M,(∀m,M<=m->We X.C (Bp X.C m) ops (o::d) fr h=some r)/\(nd=false->∃x,r=[x])/\∀x∈r,∃n',n'<=n/\∃a,Ev X Q n' (k a)/\∃F' ρ',DO B h0 F ρ st.nx h a x.1 x.2 F' ρ':=by
   rintro l ⟨M1,O⟩ D hl;obtain⟨r,M,L,A,J⟩:=KR (f:=fun m _ (x:Fr×H)=>We X.C (Bp X.C m) ops d x.1 x.2) (P:=fun x=>∃n',n'<=n/\∃a,Ev X Q n' (k a)/\∃F' ρ',DO B h0 F ρ st.nx h a x.1 x.2 F' ρ') D fun y E=>by
    obtain⟨n1,hn1,b,W,F1,ρ1,j⟩:=hl y E;obtain⟨r,M,L,J,A⟩:=XG i j.rel W;refine⟨r,M,ah,J,fun z hz=>?_⟩;obtain⟨n2,hn2,st3,he3,F2,ρ2,hwent2⟩:=A z hz;exact⟨n2,ae,st3,he3,F2,ρ2,j.trans hwent2⟩
   refine⟨r,max M M1,fun m hm=>?_,A,J⟩;simp only[We,O m ae];exact L m ae m ae
  rcases q with⟨G,c⟩|⟨G,c⟩
  ·unfold Aed at c;split at c
   case h_1=>
    rename_i v s hb;split at c
    case h_2=>grind [Ev.AH]
    rename_i b e;obtain⟨v',h',F',ρ',p,I,S,Y,g5,g6,g7,g8⟩:=ZG g hb;have U:Rel B h0 F' ρ' s fr h':=⟨⟨by rw[g6];exact g.fp.n,fun t=>by
     have:s.get t=a.get t:=by unfold AP.get;rw[g5]
     rw[this];exact(g.fp.slot t).mono Y⟩,S⟩
    have R:∃u,PR F' ρ' s.nx v u/\∀fr',fr.put o.dst u=some fr'->∀m,step1 X.C (Bp X.C m) ops o fr h=some [(fr',h')]:=by
     rcases p with p|⟨p,rfl⟩
     ·exact⟨v',I,fun fr' K m=>by simp only[step1,G,we,p,K]⟩
     ·exact⟨.tup [],I,fun fr' K m=>by simp only[step1,G,we,p,K]⟩
    obtain⟨u,hu,EG⟩:=R;obtain⟨fr',K,k2,k3,k4⟩:=U.put hu e;refine fin (l:=[(fr',h')]) ⟨0,ah⟩ (by simp) fun y E=>?_
    cases zf.1 E;exact⟨n,zc _,b,c,F',ρ',k2,by grind,g7⟩
   obtain⟨l,w,hnd,Z⟩:=IM i g c;obtain⟨r,M,L,J,A⟩:=w.AjU (ops:=ops) (P:=fun y=>∃n',n'<=n/\∃b,Ev X Q n' (prun X.C.T call ops d b k)/\∃F' ρ',DO B h0 F ρ st.nx h b y.1 y.2 F' ρ') G ah;exact fin ⟨M,L⟩ ah A
  ·unfold Ov at c;split at c
   case h_2=>grind [Ev.AH]
   rename_i b e;obtain⟨V,p,I,S,Y⟩:=g.put (x:=.tup []) (by simp[PR]) e;refine fin (l:=[(V,h)]) ⟨0,fun m _=>by simp only[step1,G,wg,p]⟩ (by simp) fun y E=>?_
   cases zf.1 E;exact⟨n,zc _,b,c,F,ρ,I,by rw[S,e1];exact zp,zc _⟩
mutual
theorem NV:∀v:V,yj v v=true
 | .bool b=>by simp[yj]
 | .int k n=>by simp[yj]
 | .str s=>by simp[yj]
 | .nilp=>rfl
 | .ptr a i=>by simp[yj]
 | .nils=>rfl
 | .sl a b c d e=>by simp[yj]
 | .esl=>rfl
 | .es0=>rfl
 | .junk=>rfl
 | .nilm=>rfl
 | .map a=>by simp[yj]
 | .yld a=>by simp[yj]
 | .nilf=>rfl
 | .nili=>rfl
 | .fn f a b=>by simp only[yj,GL a,GL b,z6,wj]
 | .iface t x=>by simp only[yj,NV x,z6];simp
 | .agg a=>by exact GL a
 | .tup a=>by exact GL a
theorem GL:∀vs:List V,V.MM vs vs=true
 |[]=>rfl
 |v::vs=>by simp only[V.MM,NV v,GL vs,z6]
end
theorem qQ{T:Co}{t:TypeId}{a x:V}(c:F4 T h t a=some x):∃b off o,a=.ptr b off/\h.get b=some o/\(∀g:H,g.get b=h.get b->F4 T g t a=some x)/\
  ∀(g:H) cs t1 j t2 e,h.get b=some (.cells cs t1 j)->g.get b=some (.cells cs t2 e)->F4 T g t a=some x:=by
 unfold F4 at c;split at c
 case h_2=>cases c
 rename_i b off d i p r;have m:∃o,h.get b=some o:=by
  cases l:h.get b with
  |some o=>simp
  |none=>
   grind [rd]
 obtain⟨o,k⟩:=m;refine⟨b,off,o,rfl,k,fun g l=>?_,fun g cs t1 j t2 e s q=>?_⟩
 ·simp_all [F4,rd]
 ·unfold F4;grind [rd]
def Vd(C:Ctx)(F:Fz)(bl:List Nat)(h:H)(fr:Fr)(o:Oper)(x:V):Prop:=
 ∀g:H,(∀b cs,F b=some cs->∃t fz,g.get b=some (.cells cs t fz))->(∀b∈bl,g.get b=h.get b)->∃z,HN C fr g o=some (.val x z)
theorem Z4:∀ {s:Sh} {x:s.T} {cs:List V} {b:Nat},DC F s x cs->V.map b∉cs
 | .int _,_,_,_,h,hm=>by grind [DC]
 | .bool,_,_,_,h,hm=>by grind [DC]
 | .str,_,_,_,h,hm=>by grind [DC]
 | .list s,l,_,_,h,hm=>by
  simp only[DC]at h;grind
 | .pair a b,x,_,_,h,hm=>by
  obtain⟨c,d,rfl,e,g⟩:=h;rcases List.mem_append.1 hm with hm|hm
  ·exact Z4 e hm
  ·exact Z4 g hm
 | .unit,_,_,_,h,hm=>by grind [DC]
 | .fnv,x,_,_,h,hm=>by simp only[DC]at h;grind
 | .ptr _,x,_,_,h,hm=>by simp only[DC]at h;grind
 | .nlist s,l,_,_,h,hm=>by
  simp only[DC]at h;grind
theorem Y9{s:Sh}{x:s.T}{b:Nat}(hp:PR F ρ N (.dat s x) (.map b)):False:=by
 exact Z4 hp<|zf.2 rfl
theorem YY{b:Nat}(hp:PR F ρ N .nil (.map b)):False:=by
 grind [PR]
theorem wO(hr:SR B h0 F ρ st.nx st.ob h){o:Oper}{c:Call}(g:o.op=.call c)(a:c.callee=.builtin .len){id sz off len:Nat}{cap:Option Nat}(e:N8 st c.args.toList=some [.sl id sz off len cap]){u:PV}{s:AP}
  (d:(pop o.op X.C.T st).To u s) {b:Nat} (hp:PR F ρ st.nx (.sl id sz off len cap) (.map b)):False:=by
 rw[g]at d;simp only[pop,Wn,e,a,JJ,Aam,Yl,List.map_cons,List.map_nil,lz]at d;split at d;split at d
 case h_3=>
  cases i:Jr (st.obj id)with
  |false=>simp_all
  |true=>
   obtain⟨b',n,j⟩:=hr.live i;grind [PR]
 all_goals first|(simp at d;done)|grind|(cases he)
theorem SK{T:Co}{ts:Array TypeId}{a:V}{g:H}(c:∀b,a≠ .map b)(h:H):Ha T g ts [a]=Ha T h ts [a]:=by
 unfold Ha;grind
theorem mH(hr:Rel B h0 F ρ st fr h){o:Oper}{x:V}(D:HN X.C fr h o=some (.val x h)){l:List Nat}(I:AbX st o.op=some l)(W:∃u s,(pop o.op X.C.T st).To u s):
  ∃bl,Vd X.C F bl h fr o x/\∀b∈bl,b<h.nx/\∃id∈l,id<st.nx/\∀y,ρ id=some y->y.1=b:=by
 unfold AbX at I;rw[Dn]at D;unfold HT at D;split at I
 case h_5=>cases I
 case h_4 t y i ok r=>
  simp only[r]at D;have m:∀g,HN X.C fr g o=(match ev X.C fr y,ev X.C fr i with|some v,some u=>BT g (FA X.C.T g t v u ok)|_,_=>none):=(by grind [Dn,HT]);cases M:ev X.C fr y with
  |none=>grind
  |some a=>
   cases Z:ev X.C fr i with
   |none=>grind
   |some u=>
    rw[M,Z]at D;simp only at D;obtain⟨x',A,E⟩:=HA D;cases E;have G:∀g:H,entries g a=entries h a->FA X.C.T g t a u ok=some x:=by
     grind [FA]
    split at I
    case h_3=>cases I
    case h_1=>
     rename_i id hp;obtain⟨U,w,p⟩:=Cs (C:=X.C) hr.fp hp;rw[M]at w;cases w;have Y:∃es,entries h a=some es:=by
      grind [FA]
     obtain⟨es,E⟩:=Y;cases I;by_cases J:∃b,a=.map b
     ·obtain⟨b,rfl⟩:=J;have K:∃ob,h.get b=some ob:=by
       cases L:h.get b with
       |none=>simp[entries,L]at E
       |some ob=>simp
      obtain⟨ob,K⟩:=K;simp only[PR]at p;refine⟨[b],fun g _ L=>⟨g,?_⟩,fun b' R=>?_⟩
      ·rw[m,M,Z];simp only;rw[G g<|by simp_all [entries]];rfl
      ·cases zf.1 R;refine⟨hr.sr.lt b ob K,id,(by simp),p.1,fun z hz=>?_⟩;grind
     ·refine⟨[],fun g _ L=>⟨g,?_⟩,(by simp)⟩;rw[m,M,Z];simp only;rw[G g ?_];rfl;cases a<;>first|rfl|grind
    case h_2=>
     rename_i hp;obtain⟨U,w,p⟩:=Cs (C:=X.C) hr.fp hp;rw[M]at w;cases w;simp only[PR]at p;subst p;cases I;refine⟨[],fun g _ L=>⟨g,?_⟩,(by simp)⟩;rw[m,M,Z];simp only;rw[G g rfl];rfl
 case h_1 t y r=>
  simp only[r]at D;have m:∀g,HN X.C fr g o=(match ev X.C fr y with|some v=>BT g (F4 X.C.T g t v)|none=>none):=(by grind [Dn,HT]);cases M:ev X.C fr y with
  |none=>grind
  |some a=>
   rw[M]at D;simp only at D;obtain⟨x',A,E⟩:=HA D;cases E;obtain⟨b,off,ob,rfl,K,G,hfz⟩:=qQ A;have hblt:=hr.sr.lt b ob K;have live:∀id,id<st.nx->(∀z,ρ id=some z->z.1=b)->l=[id]->∃bl,Vd X.C F bl h fr o x/\∀b∈bl,b<h.nx/\∃id∈l,id<st.nx/\∀y,ρ id=some y->y.1=b:=by
    rintro id hlt hid rfl;refine⟨[b],fun g _ L=>⟨g,?_⟩,fun b' R=>?_⟩
    ·rw[m,M];simp only;rw[G g ah];rfl
    simp_all
   split at I
   case h_4=>cases I
   case h_1=>
    rename_i id S hp;obtain⟨U,w,p⟩:=Cs (C:=X.C) hr.fp hp;grind [PR]
   case h_2=>
    rename_i id sz j S hp;obtain⟨U,w,p⟩:=Cs (C:=X.C) hr.fp hp;grind [PR]
   case h_3=>
    rename_i s y' S hp;obtain⟨U,w,p⟩:=Cs (C:=X.C) hr.fp hp;rw[M]at w;cases w;simp only[PR]at p;obtain⟨b',o',cs,E,hF,_⟩:=p;cases E;obtain⟨t1,f1,k1⟩:=hr.sr.frz b cs hF;refine⟨[],fun g L _=>⟨g,?_⟩,(by simp)⟩;obtain⟨t2,f2,k2⟩:=L b cs hF;rw[m,M];simp only;rw[hfz g cs t1 f1 t2 f2 k1 k2];rfl
 case h_2 s d y r=>
  simp only[r]at D;have m:∀g,HN X.C fr g o=(match ev X.C fr y with|some v=>BT g (GU X.C.T g s d v)|none=>none):=(by grind [Dn,HT]);have fin:∀a,ev X.C fr y=some a->(∀g,GU X.C.T g s d a=GU X.C.T h s d a)->∃bl,Vd X.C F bl h fr o x/\∀b∈bl,b<h.nx/\∃id∈l,id<st.nx/\∀y,ρ id=some y->y.1=b:=by
   intro a ha L;rw[ha]at D;simp only at D;obtain⟨x',A,E⟩:=HA D;cases E;exact⟨[],fun g _ _=>⟨g,by rw[m,ha];simp only;rw[L,A];rfl⟩,(by simp)⟩
  split at I
  case h_3=>cases I
  case h_1=>
   rename_i k z hp;obtain⟨U,w,p⟩:=Cs (C:=X.C) hr.fp hp;simp only[PR,DC,zt,ve]at p;subst p;exact fin _ w fun g=>by
    unfold GU;grind
  case h_2=>
   rename_i z hp;obtain⟨U,w,p⟩:=Cs (C:=X.C) hr.fp hp;simp only[PR,DC,zt,ve]at p;subst p;exact fin _ w fun g=>by
    unfold GU;grind
 case h_3 c r=>
  simp only[r]at D;split at I
  case h_5=>cases I
  case h_4=>
   rename_i id q O;obtain⟨Alj,w,p⟩:=FY (C:=X.C) hr.fp O;simp only[Ca]at p;obtain⟨a,as',rfl,p,rfl⟩:=p;have m:∀g,HN X.C fr g o=BT g (Ha X.C.T g c.argTypes [a]):=fun g=>by rw[Dn];unfold HT;simp only[r,q,w];rfl
   simp only[q,w,FR]at D;obtain⟨x',A,E⟩:=HA D;cases E;cases I;by_cases J:∃b,a=.map b
   ·obtain⟨b,rfl⟩:=J;simp only[PR]at p;by_cases K:∃ob,h.get b=some ob
    ·obtain⟨ob,K⟩:=K;refine⟨[b],fun g _ L=>⟨g,?_⟩,fun b' R=>?_⟩
     ·rw[m];have:Ha X.C.T g c.argTypes [.map b]=Ha X.C.T h c.argTypes [.map b]:=by
       unfold Ha;grind
      rw[this,A];rfl
     ·cases zf.1 R;refine⟨hr.sr.lt b ob K,id,(by simp),p.1,fun z hz=>?_⟩;grind
    ·have hnone:h.get b=none:=by
      cases L:h.get b with
      |none=>rfl
      |some ob=>grind
     refine⟨[],fun g _ _=>⟨g,?_⟩,(by simp)⟩;obtain⟨uu,s,P⟩:=W;exfalso;rw[r]at P;simp only[pop,Wn,O,q,JJ,Aam,Yl,List.map_cons,List.map_nil,lz]at P;split at P
     case h_2=>simp at P
     rename_i t x _ E;cases E;split at P
     case h_5=>
      rename_i E;cases E;split at P
      case h_2=>simp at P
      rename_i ks vs l ho;obtain⟨b1,n1,o1,q1,q2,_⟩:=hr.sr.at ho;grind
     all_goals first|(simp at P;done)|grind|(cases E)
   ·refine⟨[],fun g _ _=>⟨g,?_⟩,(by simp)⟩;rw[m,SK ah h,A];rfl
  all_goals
   rename_i q O;obtain⟨Alj,w,p⟩:=FY (C:=X.C) hr.fp O;obtain⟨a,as',rfl,p,rfl⟩:=p;have m:∀g,HN X.C fr g o=BT g (Ha X.C.T g c.argTypes [a]):=fun g=>by rw[Dn];unfold HT;simp only[r,q,w];rfl
   simp only[q,w,FR]at D;have hnm:∀b,a≠ .map b:=by
    intro b e;subst e;first
     |exact Y9 p
     |exact YY p
     |(obtain⟨u,s,P⟩:=W
       exact wO hr.sr r q O P p)
   obtain⟨x',A,E⟩:=HA D;cases E;refine⟨[],fun g _ _=>⟨g,?_⟩,fun b K=>by cases K⟩;rw[m];rw[SK hnm h,A];rfl
structure nH(C:Ctx)(F:Fz)(ρ:EI)(N:Nat)(h:H)(r:Nat×Option (List Nat))(c:Rc):Prop where
 i:c.i=r.1
 k:∀l,r.2=some l->∃bl,Vd C F bl h c.f c.o c.v/\∀b∈bl,b<h.nx/\∃id∈l,id<N/\∀y,ρ id=some y->y.1=b
def Z9(C:Ctx)(F:Fz)(ρ:EI)(N:Nat)(h:H):Rs->List Rc->Prop
 |[],l=>l=[]
 |r::a,l=>∃c cs,l=c::cs/\nH C F ρ N h r c/\Z9 C F ρ N h a cs
theorem nH.mono{F':Fz}{ρ':EI}{N':Nat}{r:Nat×Option (List Nat)}{c:Rc}(j:nH X.C F ρ N h r c)(d:Le F ρ N F' ρ' N')(w:h.nx<=h'.nx)
  (x:∀l,r.2=some l->∀b,b<h.nx->(∃id∈l,id<N/\∀y,ρ id=some y->y.1=b)->h'.get b=h.get b):nH X.C F' ρ' N' h' r c:=by
 refine⟨j.i,fun l e=>?_⟩;obtain⟨bl,o,u⟩:=j.k l e;refine⟨bl,fun g p z=>o g (fun b cs v=>p b cs<|d.fz b cs v)<|fun b a=>?_,fun b a=>?_⟩
 ·grind
 ·obtain⟨A,id,s,m,t⟩:=u b a;exact⟨ae,id,s,Nat.lt_of_lt_of_le m d.n,fun y q=>t y<|d.at m q⟩
theorem Z9.mono{F':Fz}{ρ':EI}{N':Nat}(g:Le F ρ N F' ρ' N')(e:h.nx<=h'.nx)(j:∀b,b<h.nx->h'.get b=h.get b):∀ {d:Rs} {cs:List Rc},Z9 X.C F ρ N h d cs->Z9 X.C F' ρ' N' h' d cs
 |[],_,a=>a
 |r::d,_,a=>by
  obtain⟨c,cs,rfl,i,k⟩:=a;exact⟨c,cs,rfl,i.mono g e ah,Z9.mono g e j k⟩
theorem Z9.apart{F':Fz}{ρ':EI}{fr':Fr}{anc:Nat->Nat->Bool}{i:Nat}{t:Option (List Nat)}(hr:Rel B h0 F ρ st fr h)(g:DO B h0 F ρ st.nx h st' fr' h' F' ρ')
  (E:∀d,t=some d->∀b,b<h.nx->h'.get b=h.get b\/∃id∈d,∃m,ρ id=some (b,m)):
  ∀ {q:Rs} {cs:List Rc},Z9 X.C F ρ st.nx h q cs->yg anc i st t q=true->cs.all (still X.C anc i h')=true/\Z9 X.C F' ρ' st'.nx h' (behind st t q) cs
 |[],_,u,_=>by
  cases u;exact⟨rfl,rfl⟩
 |r::q,_,u,v=>by
  obtain⟨c,cs,rfl,p,O⟩:=u;unfold yg at v;rw[yi,zd]at v;obtain⟨h3,h4⟩:=Z9.apart hr g E O (by exact v.2);have key:(Yj r.2 t&&MC st r.2)=true->∀l,r.2=some l->∀b,b<h.nx->(∃id∈l,id<st.nx/\∀y,ρ id=some y->y.1=b)->h'.get b=h.get b:=by
   rintro s l j b M ⟨id,x,T,K⟩;simp only[zd,j]at s;have a:=List.all_eq_true.1 s.2 id x;obtain⟨w,P,G⟩:=hr.sr.live a;obtain rfl:w=b:=K _ G;cases t with
   |none=>
    grind [Yj]
   |some d=>
    rcases E d rfl w M with e|⟨id',U,m,D⟩
    ·exact e
    ·obtain⟨o1,I⟩:=JX a;have A:∃o,AU st.ob id'=some o:=by
      cases S:AU st.ob id' with
      |some o=>simp
      |none=>rw[hr.sr.dead id' S]at D;cases D
     obtain⟨o,A⟩:=A;obtain rfl:=hr.sr.inj id id' o1 o w P m I A G D;grind [Nat.beq_refl,Yj]
  refine⟨?_,c,cs,rfl,?_,h4⟩
  ·rw[yi,h3,z6];unfold still;rw[p.i];cases L:anc i r.1 with
   |true=>rfl
   |false=>
    have j:∃l,r.2=some l:=by
     cases R:r.2 with
     |some l=>simp
     |none=>grind [Yj]
    obtain⟨l,j⟩:=j;obtain⟨bl,x,T⟩:=p.k l j;obtain⟨z,hz⟩:=x h' (fun b cs J=>g.rel.sr.frz b cs<|g.le.fz b cs J) ah;grind [NV]
  ·show nH X.C F' ρ' st'.nx h' (bif Yj r.2 t&&MC st r.2 then r else(r.1,none)) c;cases s:(Yj r.2 t&&MC st r.2)with
   |true=>exact p.mono g.le g.nx<|key s
   |false=>
    exact⟨p.i,(by simp)⟩
theorem UG{C:Ctx}{o:Oper}(g:C8 o=true){r:OR}(a:HN C fr h o=some r):∃ob f,dal C fr o=some (ob,f)/\r=.val (f h.nx) (h.push ob):=by
 rw[Dn]at a;unfold HT at a;unfold C8 at g;unfold dal;split at g
 case h_4=>cases g
 case h_1 t b=>
  simp only[b]at a ⊢;unfold HM at a;cases d:C.T.inf t with
  |none=>rw[d]at a;cases a
  |some i=>rw[d]at a;cases a;exact⟨_,_,rfl,rfl⟩
 case h_2 t x b=>
  simp only[b]at a ⊢;cases c:ev C fr x with
  |none=>rw[c]at a;cases a
  |some y=>rw[c]at a;cases a;exact⟨_,_,rfl,rfl⟩
 case h_3 t n ps b=>
  simp only[b]at a ⊢;cases c:aJ C fr ps.toList with
  |none=>grind
  |some y=>
   rw[c]at a;simp only at a ⊢;unfold FC at a;unfold Zl;split at a
   case h_2=>cases a
   rename_i e l;simp only[l];split at a
   case h_2=>cases a
   rename_i i d;simp only[d];cases k:(zk (n*i.size) 16777216&&zn 0 (i.zero.length)&&zh i.zero.length i.size)with
   |false=>rw[k]at a;cases a
   |true=>
    rw[k]at a;split at a
    case h_2=>cases a
    rename_i cs j;cases a;simp only[j];exact⟨_,_,rfl,rfl⟩
theorem AhV{T:Co}{call:G1}{st:AP}{o:Oper}{k:AP->Tr}(a:Fe o=true):IS T call o st k=Tk o.dst k (pop o.op T st):=by
 grind [NQ,Fe,IS]
theorem AeP{call:G1}(a:Gg B h0 X false call)(hr:Rel B h0 F ρ st fr h){o:Oper}(j:Fe o=true){k:AP->Tr}(m:Ev X Q n (IS X.C.T call o st k)):
  ∃n',n'<=n/\∃b,Ev X Q n' (k b)/\∃F' ρ' x fr',HN X.C fr h o=some (.val x h)/\fr.put o.dst x=some fr'/\DO B h0 F ρ st.nx h b fr' h F' ρ'/\∃u s,(pop o.op X.C.T st).To u s:=by
 obtain⟨l,d,g,c⟩:=IM a hr m;obtain⟨⟨⟨x,h'⟩,rfl⟩,_⟩:=g.1 rfl;obtain⟨n',hn,b,he1,F',ρ',fr',hput,hw,_⟩:=c _<|zf.2 rfl;have i:∃u s,(pop o.op X.C.T st).To u s:=by
  grind [AhV,K1]
 cases d with
 |val e=>
  grind [rd_val]
 |skip e=>grind [rd_val]
 |call e _=>grind [rd_val]
 |round e _=>grind [rd_val]
 |alts e=>grind
theorem QF{call:G1}(s:Gg B h0 X false call){ops:Array Oper}{anc:Nat->Nat->Bool}:∀ {L:List Nat} {n:Nat} {st:AP} {F:Fz} {ρ:EI} {fr:Fr} {h:H} {k:AP->Tr} {K:Rs} {cs:List Rc},Rel B h0 F ρ st fr h->Z9 X.C F ρ st.nx h K cs->
  Ev X Q n (Lj X.C.T X.sp call ops anc L st K k)->
  ∃n',n'<=n/\∃e,Ev X Q n' (k e)/\∃F' ρ' fr' h',DO B h0 F ρ st.nx h e fr' h' F' ρ'/\∃M,∀m,M<=m->∃cs',YL X.C (Bp X.C m) ops anc L ⟨fr,h,cs⟩=some ⟨fr',h',cs'⟩
 |[],n,st,F,ρ,fr,h,k,K,cs,hr,_,c=>⟨n,zc _,st,c,F,ρ,fr,h,DO.refl hr,0,fun _ _=>⟨cs,rfl⟩⟩
 |i::is,n,st,F,ρ,fr,h,k,K,cs,hr,D,c=>by
  unfold Lj at c;cases ho:ops[i]? with
  |none=>grind [Ev.AH]
  |some o=>
   rw[ho]at c;simp only at c;obtain⟨e,u,J,e2,R⟩:=Pf hr c;rw[<-J]at D;have fin:∀ {n1:Nat} {j:AP} {F1:Fz} {v:EI} {r:Fr} {O:H} {rs2:Rs} {cs2:List Rc},n1<=n->DO B h0 F ρ st.nx h j r O F1 v->Z9 X.C F1 v j.nx O rs2 cs2->Ev X Q n1 (Lj X.C.T X.sp call ops anc is j rs2 k)->
     (∃M,∀m,M<=m->∃x,Jk X.C (Bp X.C m) ops anc i ⟨fr,h,cs⟩=some (x,⟨r,O,cs2⟩))->
     ∃n',n'<=n/\∃e,Ev X Q n' (k e)/\∃F' ρ' fr' h',DO B h0 F ρ st.nx h e fr' h' F' ρ'/\∃M,∀m,M<=m->∃cs',YL X.C (Bp X.C m) ops anc (i::is) ⟨fr,h,cs⟩=some ⟨fr',h',cs'⟩:=by
    rintro n1 j F1 v r O rs2 cs2 w hw q p ⟨M1,hM1⟩;obtain⟨n2,hn2,st3,he3,F2,ρ2,fr2,h2,hw2,M2,hM2⟩:=QF s hw.rel q p;refine⟨n2,ae,st3,he3,F2,ρ2,fr2,h2,hw.trans hw2,max M1 M2,fun m hm=>?_⟩;obtain⟨x,hx⟩:=hM1 m ae;obtain⟨cs',hcs'⟩:=hM2 m ae;grind [YL]
   rcases R with⟨hw,c⟩|⟨hw,c⟩
   ·cases P:Fe o with
    |true=>
     rw[P]at c;simp only[we]at c;obtain⟨n1,w,j,p,F1,v,x,r,z,d,a,hto⟩:=AeP s u P c;rw[J]at a;have q:Z9 X.C F1 v j.nx h K cs:=D.mono (by rw[J];exact a.le) ae (by simp);cases Y:S8 o with
     |false=>
      rw[Y]at p;refine fin (cs2:=cs) w a q p ⟨0,fun m _=>⟨x,?_⟩⟩;unfold Jk;grind
     |true=>
      rw[Y]at p;refine fin (cs2:=⟨i,o,fr,x⟩::cs) (rs2:=(i,AbX e o.op)::K) w a ⟨_,_,rfl,⟨rfl,fun l hl=>?_⟩,q⟩ p ⟨0,fun m _=>⟨x,?_⟩⟩
      ·obtain⟨bl,Z,V⟩:=mH u z hl hto;refine⟨bl,fun g hg W=>Z g (fun b cs hF=>hg b cs<|a.le.fz b cs hF) W,fun b W=>?_⟩;obtain⟨j1,id,j2,j3,j4⟩:=V b W;rw[J]at j3;exact⟨j1,id,j2,Nat.lt_of_lt_of_le j3 a.le.n,fun y hy=>j4 y<|a.le.at j3 hy⟩
      ·unfold Jk;grind
    |false=>
     rw[P]at c;simp only[wg]at c;cases S:C8 o with
     |true=>
      rw[S]at c;simp only[we]at c;obtain⟨l,A,U,E⟩:=IM s u c;obtain⟨⟨⟨x,O⟩,rfl⟩,hna⟩:=U.1 rfl;obtain⟨n1,w,j,p,F1,v,r,d,a,_⟩:=E _<|zf.2 rfl;rw[J]at a;simp only at d a;have hv:∃ob f,dal X.C fr o=some (ob,f)/\x=f h.nx/\O=h.push ob:=by
       cases A with
       |val z=>obtain⟨ob,f,Z,V⟩:=UG S z;grind
       |skip z=>grind [UG]
       |call z _=>grind [UG]
       |round z _=>grind [UG]
       |alts z=>grind
      obtain⟨ob1,f,Z,rfl,rfl⟩:=hv;have q:Z9 X.C F1 v j.nx (h.push ob1) K cs:=D.mono (by rw[J];exact a.le) (by simp) (fun b W=>by simp[Nat.ne_of_lt W]);refine fin (cs2:=cs) w a q p ⟨0,fun m _=>⟨f h.nx,?_⟩⟩;unfold Jk;grind
     |false=>
      rw[S]at c;simp only[wg]at c;cases G:(yg anc i e (HZ X.sp e o.op) K&&uT e o.op)with
      |false=>grind [Ev.AH]
      |true=>
       rw[G]at c;simp only[we]at c;simp only[zd]at G;obtain⟨I,hnr⟩:=G;obtain⟨l,A,U,E⟩:=IM s u c;obtain⟨⟨⟨x,O⟩,rfl⟩,hna⟩:=U.1 rfl;obtain⟨n1,w,j,p,F1,v,r,d,a,htch⟩:=E _<|zf.2 rfl;simp only at d a htch;obtain⟨Z,V⟩:=Z9.apart u a htch D I;rw[J]at a;refine fin w a V p ?_;have hh:∃M,∀m,M<=m->EG X.C (Bp X.C m) fr h o=some (x,O):=by
        cases A with
        |val z=>exact⟨0,(by grind [EG])⟩
        |skip z=>exact⟨0,(by grind [EG])⟩
        |alts z=>grind
        |round z _=>grind [uT]
        |@call g args _ M z hM=>exact⟨M,(by grind [EG])⟩
       obtain⟨M,hM⟩:=hh;refine⟨M,fun m hm=>⟨x,?_⟩⟩;unfold Jk;grind
   ·cases hv:Df o with
    |false=>
     rw[hv]at c;unfold Ov at c;split at c
     case h_2=>grind [Ev.AH]
     rename_i j d;obtain⟨r,g1,g2,g3,g4⟩:=u.put (x:=.tup []) (by simp[PR]) d;refine fin (cs2:=cs) ae ⟨g2,by rw[g3,J];exact zp,zc _⟩ ah c ⟨0,fun m _=>⟨.tup [],?_⟩⟩;unfold Jk;grind
    |true=>
     rw[hv]at c;cases I:yg anc i e (some []) K with
     |false=>grind [Ev.AH]
     |true=>
      rw[I]at c;unfold Ov at c;split at c
      case h_2=>grind [Ev.AH]
      rename_i j d;obtain⟨r,g1,g2,g3,g4⟩:=u.put (x:=.tup []) (by simp[PR]) d;have a:DO B h0 F ρ e.nx h j r h F ρ:=⟨g2,by rw[g3];exact zp,zc _⟩;obtain⟨Z,V⟩:=Z9.apart (t:=some []) u a (by simp) D I;rw[J]at a;refine fin ae a V c ⟨0,fun m _=>⟨.tup [],?_⟩⟩;unfold Jk;grind
theorem kM{call:G1}(c:Gg B h0 X false call){ops:Array Oper}{k:AP->Tr}(hr:Rel B h0 F ρ st fr h)(g:Ev X Q n (Lj X.C.T X.sp call ops (Fm ops).a (Fm ops).ord st [] k)):
  ∃n',n'<=n/\∃b,Ev X Q n' (k b)/\∃F' ρ' fr' h',DO B h0 F ρ st.nx h b fr' h' F' ρ'/\∃M,∀m,M<=m->J4 X.C (Bp X.C m) ops fr h=some (fr',h'):=by
 obtain⟨n',i,b,d,F',ρ',fr',h',e,M,j⟩:=QF (cs:=[]) c hr (by rfl) g;refine⟨n',i,b,d,F',ρ',fr',h',e,M,fun m l=>?_⟩;grind [J4]
end
section
variable {B:Nat}{h0:H0}{F:Fz}{ρ ρ':EI}{N N':Nat}{f:Nat->Option Nat}
mutual
theorem Sb(d:∀i j,i<N->f i=some j->j<N'/\ρ' j=ρ i):∀ {p:PV} {v:V},PR F ρ N p v->PR F ρ' N' (Jn f p) v
 | .any,_,_=>by simp[Jn,PR]
 | .bl _,_,h=>by grind [Jn,PR]
 | .ub,_,h=>by grind [Jn,PR]
 | .dat _ _,_,h=>by grind [Jn,PR]
 | .nil,_,h| .nilp,_,h| .nilm,_,h| .nilf,_,h| .nili,_,h=>by simpa only[Jn,PR]using h
 | .AV _ _ _,_,h=>by grind [Jn,PR]
 | .agg l,_,h=>by obtain⟨cs,rfl,c⟩:=h;exact⟨cs,rfl,Fs d c⟩
 | .tup l,_,h=>by obtain⟨cs,rfl,c⟩:=h;exact⟨cs,rfl,Fs d c⟩
 | .fn g a b,_,h=>by obtain⟨x,y,rfl,c,e⟩:=h;exact⟨x,y,rfl,Fs d c,Fs d e⟩
 | .ptr i o,_,h=>by
  grind [Jn,PR]
 | .eptr i _ _ _,_,h=>by
  grind [Jn,PR]
 | .sl i _ _ _ _,_,h=>by
  grind [Jn,PR]
 | .yl i,_,h=>by
  grind [Jn,PR]
 | .mp i,_,h=>by
  grind [Jn,PR]
theorem Fs(a:∀i j,i<N->f i=some j->j<N'/\ρ' j=ρ i):∀ {ps:List PV} {vs:List V},Ca F ρ N ps vs->Ca F ρ' N' (Lo f ps) vs
 |[],_,h=>by simpa [Lo]using h
 |p::ps,_,h=>by
  obtain⟨v,vs,rfl,c,b⟩:=h;simp only[Lo,BY];exact⟨Sb a c,Fs a b⟩
end
theorem TO(f:PV->PV):∀(sl:List (Nat×PV)) (m a:PM PV),(∀t,a.get t=(m.get t).map f)->∀t,((sl.map fun x=>(x.1,f x.2)).foldl (fun m x=>m.set x.1<|some x.2) a).get t=((sl.foldl (fun m x=>m.set x.1<|some x.2) m).get t).map f
 |[],_,_,h,t=>h t
 |x::sl,m,a,h,t=>by
  refine TO f sl _ _ (fun t=>?_) t;grind [PM.DZ]
theorem aU(f:PV->PV)(a:f .any=.any)(sl:List (Nat×PV))(t:Nat):Rf (sl.map fun x=>(x.1,f x.2)) t=f (Rf sl t):=by
 unfold Rf FG;rw[TO f sl .leaf .leaf (by simp) t];cases (sl.foldl (fun m x=>m.set x.1<|some x.2) PM.leaf).get t with
 |none=>grind
 |some x=>rfl
theorem sP(a:∀i j,i<N->f i=some j->j<N'/\ρ' j=ρ i){n:Nat}{o:Obj}{x:O}(h:ZP F ρ N n o x):ZP F ρ' N' n (R9 f o) x:=by
 cases o with
 |arr fz e s l=>exact h
 |box ps=>grind [Fs,ZP,R9]
 |tbox t ps=>grind [Fs,ZP,R9]
 |lp g r ps asg body s n sl=>
  obtain⟨ls,m,u,q,k,b,c,d⟩:=h;refine⟨ls,m,u,q,k,b,c,fun t=>?_⟩;rw[aU (Jn f)<|by rfl];exact Sb a<|d t
 |map ks vs l=>exact h
 |siter s p=>exact h
theorem Yb(o:Obj):(R9 f o).frozen=o.frozen:=by cases o<;>rfl
theorem Kn{st:AP}{base:Nat}:∀(n:Nat) (c acc:List Nat),(∀i∈acc,base<=i/\(st.obj i).isSome=true)->acc.Nodup->(∀i∈JH st base n c acc,base<=i/\(st.obj i).isSome=true)/\(JH st base n c acc).Nodup
 |0,_,acc,a,b=>⟨a,b⟩
 |n+1,[],acc,a,b=>⟨a,b⟩
 |n+1,i::c,acc,a,b=>by
  unfold JH;cases l:(zn i base||acc.any (zh i))with
  |true=>exact Kn n c acc a b
  |false=>
   cases g:st.obj i with
   |none=>exact Kn n c acc a b
   |some o=>
    have k:base<=i:=by
     grind [Eg]
    have d:i∉acc:=by
     grind [Nat.beq_refl]
    refine Kn n _ _ (fun j e=>?_) ?_
    ·grind
    grind
theorem QN{base:Nat}:∀(b:List Nat) (n i j:Nat),b.Nodup->SC base b n i=some j->(∃k,b[k]?=some i/\j=n+k)\/(i∉b/\i<base/\j=i)
 |[],n,i,j,_,h=>by
  unfold SC at h;cases o:zn i base with
  |false=>grind
  |true=>simp_all
 |a::b,n,i,j,g,h=>by
  unfold SC at h;rw[Bz]at h;by_cases e:i=a
  ·simp_all
  ·simp only[e,decide_false,wg]at h;have c:=List.nodup_cons.1 g;rcases QN b (Nat.add n 1) i j c.2 h with⟨k,d,l⟩|⟨d,l,m⟩
   ·exact .inl ⟨k+1,by grind,by grind⟩
   grind
theorem eT(f:Nat->Option Nat)(base:Nat):∀(l:Ob) (j:Nat),AU (low f base l) j=if j<base then(AU l j).map (R9 f)else none
 |[],j=>by simp[low,AU]
 |(i,o)::l,j=>by
  simp only[low];have c:=eT f base l j;by_cases a:i<base
  ·rw[Eg a];simp only[we,AU,Bz];grind
  ·have:zn i base=false:=by
    cases b:zn i base with
    |false=>rfl
    |true=>exact wh (Nat.le_of_ble_eq_true b) a
   rw[this];simp only[wg,AU,Bz];grind
theorem Xy{st:AP}(f:Nat->Option Nat):∀(a:List Nat) (n:Nat) (b:Ob) (j:Nat),(∀i∈a,(st.obj i).isSome=true)->AU (kept st f a n b) j=(if n<=j/\j<n+a.length then(a[j-n]?).bind fun i=>(st.obj i).map (R9 f)else AU b j)
 |[],n,b,j,_=>by simp_all [kept,wc]
 |i::a,n,b,j,h=>by
  obtain⟨o,c⟩:=Option.isSome_iff_exists.1 (h i (by simp));unfold kept;rw[c];rw[Xy f a (Nat.add n 1) _ j ah];by_cases d:n+1<=j/\j<n+1+a.length
  ·grind
  ·simp only[AU,Bz];grind
theorem Hm:∀(vs:List (Nat×PV)) (m:PM PV) (t:Nat) (p:PV),(vs.foldl (fun m x=>m.set x.1<|some x.2) m).get t=some p->(t,p)∈vs\/m.get t=some p
 |[],m,t,p,h=>.inr h
 |x::vs,m,t,p,h=>by
  rcases Hm vs _ t p h with a|a
  ·grind
  grind [PM.DZ]
theorem kB{st:AP}{fr:Fr}{h:H}(hr:Rel B h0 F ρ st fr h)(base:Nat)(L:List Nat)(_hb:base<=st.nx):
  ∃ρ',Rel B h0 F ρ' (canon base L st) fr h/\base<=(canon base L st).nx/\∀id,id<base->ρ' id=ρ id:=by
 generalize u:JH st base 100 (Lx ((L.map fun t=>(t,st.get t)).map (·.2))++QM base st.ob) []=ids;have z:=Kn (st:=st) (base:=base) 100 (Lx ((L.map fun t=>(t,st.get t)).map (·.2))++QM base st.ob) [] (by simp) List.nodup_nil;rw[u]at z;obtain⟨hal,I⟩:=z;let g:=SC base ids base
 let l:EI:=fun id=>if id<base then ρ id else(ids[id-base]?).bind ρ
 have D:∀id,id<base->l id=ρ id:=ah;have w:∀k i,ids[k]?=some i->l (base+k)=ρ i:=by
  grind
 have E:canon base L st=Ap st.n ((L.map fun t=>(t,st.get t)).map fun x=>(x.1,Jn g x.2)) (kept st g ids base<|low g base st.ob) (base+ids.length):=by
  rw[show g=SC base ids base from rfl, <-u];rfl
 have P:∀i j,i<st.nx->g i=some j->j<base+ids.length/\l j=ρ i:=by
  intro i j _ J;rcases QN ids base i j I J with⟨k,d,rfl⟩|⟨_,r,rfl⟩
  ·grind
  grind
 have A:∀j,AU (kept st g ids base<|low g base st.ob) j=if j<base then(AU st.ob j).map (R9 g)else(ids[j-base]?).bind fun i=>(st.obj i).map (R9 g):=by
  intro j;rw[Xy g ids base _ j ah,eT];grind
 have src:∀j o',AU (kept st g ids base<|low g base st.ob) j=some o'->∃i o,AU st.ob i=some o/\o'=R9 g o/\l j=ρ i/\j<base+ids.length/\((j<base/\i=j)\/(base<=j/\ids[j-base]?=some i/\base<=i)):=by
  intro j o' q;rw[A]at q;by_cases d:j<base
  ·rw[wd d,zj]at q;grind
  ·rw[wc d]at q;cases v:ids[j-base]? with
   |none=>grind
   |some i=>
    rw[v]at q;simp only[Option.bind_some,zj]at q;obtain⟨o,r,rfl⟩:=q;have W:=(ya.1 v).1;have:=w (j-base) i v;rw[show base+(j-base)=j from by omega]at this;exact⟨i,o,r,rfl,this,by omega,ah⟩
 refine⟨l,?_,by rw[E];show base<=base+ids.length;omega,D⟩;rw[E];refine⟨⟨hr.fp.n,fun t=>?_⟩,⟨fun j o' q=>?_,fun i j oi oj c m Y U q d r=>?_,hr.sr.frz,fun id b m e=>?_,fun j q=>?_,hr.sr.old,hr.sr.lt,hr.sr.le,hr.sr.fo,hr.sr.gl,fun c E=>?_⟩⟩
 ·generalize G:((L.map fun t=>(t,st.get t)).map fun x=>(x.1,Jn g x.2))=vs;show PR F l (base+ids.length) (((FG vs).get t).getD .any)<|fr.get t;cases hp:(FG vs).get t with
  |none=>grind [PR]
  |some p=>
   rcases Hm vs .leaf t p hp with d|d
   ·rw[<-G]at d;simp only[List.map_map,List.mem_map,Function.comp]at d;obtain⟨s,_,r⟩:=d;cases r;exact Sb P (hr.fp.slot _)
   simp_all
 ·obtain⟨i,o,d,rfl,r,h3,_⟩:=src j o' q;obtain⟨b,m,x,k1,k2,k3,k4⟩:=hr.sr.obj i o d;exact⟨b,m,x,r.trans k1,k2,sP P k3,by rw[Yb];exact k4⟩
 ·obtain⟨a,o,K,_,O,_,M⟩:=src i oi U;obtain⟨a',o',g4,_,g5,_,g6⟩:=src j oj q;rw[O]at d;rw[g5]at r;have R:=hr.sr.inj a a' o o' c m Y K g4 d r;rcases M with⟨S,Z⟩|⟨S,Z,e3⟩<;>rcases g6 with⟨V,T⟩|⟨V,T,f3⟩
  ·omega
  ·omega
  ·omega
  grind [List.getElem?_inj]
 ·have e:(if id<base then ρ id else(ids[id-base]?).bind ρ)=some (b,m):=e;by_cases d:id<base
  ·rw[wd d]at e;exact⟨by show id<base+ids.length;omega,(hr.sr.own id b m e).2⟩
  ·rw[wc d]at e;cases v:ids[id-base]? with
   |none=>grind
   |some i=>
    rw[v]at e;have:=(ya.1 v).1;exact⟨by show id<base+ids.length;omega,(hr.sr.own i b m e).2⟩
 ·have y:AU (kept st g ids base<|low g base st.ob) j=none:=q;rw[A]at y;show(if j<base then ρ j else(ids[j-base]?).bind ρ)=none;by_cases d:j<base
  ·rw[wd d]at y ⊢;exact hr.sr.dead j (by simp_all)
  ·rw[wc d]at y ⊢;cases v:ids[j-base]? with
   |none=>rfl
   |some i=>
    grind [Option.map_eq_none_iff]
 ·obtain⟨K,O,M⟩:=hr.sr.pn c E;grind
end
end Go.Pe
