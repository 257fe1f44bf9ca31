import Derived.Test.YtlapcggejnojjaaGreatDoorX07
/- A part of a proof (no law is stated here). Made by program out of texts by AI agents. -/
open List renaming mem_singleton → zc, length_eq_zero_iff → zk, getElem?_eq_some_iff → zm, replicate → zn, drop_zero → zA, mem_cons_of_mem → zE, getElem?_append_right → zH, mem_cons_self → zI, getElem?_append_left → zK, all_eq_true → zM, getElem_cons_zero → zO, take_of_length_le → zP, length_nil → zR, mem_append → zS, map_cons → zV
open Nat renaming le_refl → zd, eq_of_beq_eq_true → ze, mul_le_mul_right → zh, beq → zi, ble_eq_true_of_le → zj, add_mul → zo, ble → zp, zero_mul → zq, blt → zt, min_eq_left → zy, succ_mul → zz, le_of_ble_eq_true → zB, lt_succ_self → zC, beq_refl → zG, lt_of_lt_of_le → zJ, le_trans → zQ, add → zW
open Bool renaming and_eq_true → zf, and_true → zD, and_self → zU
open Option.some renaming injEq → zg
open Option renaming map_eq_some_iff → zl, map_some → zF, getD_some → zN
open List.cons renaming injEq → zr
open Go.Pe.Le renaming refl → zu
open Go.Pe.OK renaming pure → zw
open Prod.mk renaming injEq → zx
open Go.Pe renaming apart → zL
open Go.Det.V renaming beq → zT
section
namespace Go.Pe
open Go.Det
section
variable {B:Nat}{h0:H0}{F:Fz}{ρ:C8}{N:Nat}{C:Ctx}{st st':AD}{fr:Fr}{h h':H}
theorem Df.nil{s:Sh}:Df F s [] []:=⟨by simp,fun i hi=>by simp at hi⟩
theorem Df.cons{s:Sh}{x:s.T}{l:List s.T}{a b:List V}(ha:DC F s x a)(hb:Df F s l b):Df F s (x::l) (a++b):=by
 refine⟨by rw[List.length_append,ha.len,hb.1,List.length_cons,zz];omega,fun i hi=>?_⟩;cases i with
 |zero=>
  simp only[zq,zA,zO];rw[←ha.len,List.take_left];exact ha
 |succ i=>
  have e:(a++b).drop ((i+1)*s.sz)=b.drop (i*s.sz):=by
   rw[zz,Nat.add_comm,D4, ←ha.len,List.drop_left]
  rw[e];exact hb.2 i (by simpa using hi)
theorem Df.VA{s:Sh}{x:s.T}{l:List s.T}{cs:List V}(h:Df F s (x::l) cs):∃a b,cs=a++b∧DC F s x a∧Df F s l b:=by
 have h0:=h.2 0 (by simp);simp only[zq,zA,zO]at h0;refine⟨cs.take s.sz,cs.drop s.sz,(List.take_append_drop _ _).symm,h0,?_,fun i hi=>?_⟩
 ·rw[List.length_drop,h.1,List.length_cons,zz];omega
 ·have:=h.2 (i+1) (by simpa using hi);rw[←D4,Nat.add_comm, ←zz];exact this
theorem Df.append{s:Sh}:∀ {l m:List s.T} {a b:List V},Df F s l a→Df F s m b→Df F s (l++m) (a++b)
 |[],m,a,b,h,h'=>by
  have:a=[]:=zk.1 (by rw[h.1];simp);subst this;simpa using h'
 |x::l,m,a,b,h,h'=>by
  obtain⟨c,d,rfl,h1,h2⟩:=h.VA;rw[List.append_assoc,List.cons_append];exact Df.cons h1 (h2.append h')
theorem Df.replicate{s:Sh}{z:s.T}{c:List V}(hz:DC F s z c):∀n,Df F s (zn n z) ((zn n c).flatten)
 |0=>Df.nil
 |n+1=>by
  rw[List.replicate_succ,List.replicate_succ,List.flatten_cons];exact Df.cons hz (Df.replicate hz n)
theorem Df.OX{s:Sh}:∀ {l:List s.T} {a:List V},Df F s l a→a.all V.one=true
 |[],a,h=>by
  have:a=[]:=zk.1 (by rw[h.1];simp);subst this;rfl
 |x::l,a,h=>by
  obtain⟨c,d,rfl,h1,h2⟩:=h.VA;rw[List.all_append,h2.OX,zD];exact zM.2 h1.OX
theorem Df.part{s:Sh}{l:List s.T}{cs:List V}(h:Df F s l cs){off len:Nat}(hl:off+len≤l.length):Df F s ((l.drop off).take len) ((cs.drop (off*s.sz)).take (len*s.sz)):=by
 have hle:(off+len)*s.sz≤l.length*s.sz:=zh _ hl;rw[zo]at hle;have h1:=h.1;refine⟨by simp;rw[zy (by omega),zy (by omega)],fun i hi=>?_⟩;have hi':i<len:=by simp at hi;omega
 have hi2:(i+1)*s.sz≤len*s.sz:=zh _ hi';rw[zz]at hi2;rw[List.getElem_take,List.getElem_drop];have:=h.2 (off+i) (by omega);have e:(((cs.drop (off*s.sz)).take (len*s.sz)).drop (i*s.sz)).take s.sz=(cs.drop ((off+i)*s.sz)).take s.sz:=by
  rw[List.drop_take,List.take_take,List.drop_drop,zo,zy (by omega)]
 rw[e];exact this
theorem ZV(hr:SR B h0 F ρ st.nx st.ob h){t:TypeId}{p q:PV}{x y:V}(hx:PR F ρ st.nx p x)(hy:PR F ρ st.nx q y){v:PV}(ht:(WR C.T t p q st).To v st'):OK B h0 F ρ st h [] (DS (Mg C.T h t x y)) v st':=by
 unfold WR at ht;split at ht
 case h_2=>simp at ht
 rename_i e k l k' c hu;obtain rfl:=CR hx;obtain rfl:=CR hy;split at ht
 case h_2=>simp at ht
 rename_i i s hi hs;cases hc:(zt 0 i.zero.length&&zi i.zero.length i.size&&zi i.size s.sz)with
 |false=>rw[hc]at ht;simp at ht
 |true=>
  rw[hc]at ht;simp only[zf]at hc;obtain⟨⟨c2,c3⟩,c4⟩:=hc;simp only[cond_true]at ht;split at ht
  case h_2=>simp at ht
  rename_i z hz;simp only[Bk,zf,decide_eq_true_eq]at ht;obtain⟨⟨⟨⟨k1,k2⟩,k3⟩,k4⟩,rfl,rfl⟩:=ht;have k2':l=c:=k2;subst k2';obtain⟨n,rfl,hn⟩:=CF k1;rw[hn]at k3 ⊢;have e3:=ze c3;have e4:=ze c4;have hd:Mg C.T h t (.int k (Int.ofNat n)) (.int k' (Int.ofNat n))=some (.sl h.nx 0 n n 0,h.push (.cells (DH i.zero (n*i.size)) e (0,0))):=by
   have a1:zp n n=true:=zj (zd _);have a2:zt n 9223372036854775808=true:=CJ (by have:(Int.ofNat n:Int)<9223372036854775808:=k4;simp at this;omega);have a3:zp (i.bytes*n) 281474976710656=true:=zj k3;simp only[Mg,hu,hi,a1,a2,a3,c2,c3,zU,cond_true,GD]
  rw[hd];have hzc:=B1 (DJ (F:=F) (ρ:=ρ) (N:=st.nx) i.zero) hz;have hcells:Df F s (zn n z) (DH i.zero (n*i.size)):=by
   rw[←e3,FY];exact Df.replicate hzc n
  exact OK.new hr (o:=.arr false e s (zn n z)) (n:=n) rfl ⟨_,_,rfl,hcells,zd _,by simp⟩ (KU (.inl rfl))
theorem RD(hr:SR B h0 F ρ st.nx st.ob h){s:Sh}{p:PV}{x:V}(hx:PR F ρ st.nx p x){c:Bool}{l:List s.T}(hd:Km st s p=some (c,l))(hc:c=true):
  MS x=some l.length∧LZ x=true∧∃cs,src h s.sz x l.length=some cs∧Df F s l cs:=by
 unfold Km at hd;split at hd
 case h_1=>
  cases hd;simp only[PR]at hx;subst hx;exact⟨rfl,rfl,[],rfl,Df.nil⟩
 case h_2=>
  rename_i s' l';rw[zl]at hd;obtain⟨r,h1,h2⟩:=hd;obtain⟨e,he⟩:=Co h1;have e':s'=s:=by cases e;rfl
  subst e';have:r=l':=by have:=he;cases this;rfl
  subst this;cases h2;simp only[PR,DC]at hx;obtain⟨u,hu1,hx⟩:=hx;obtain rfl:x=u:=by simpa using hu1
  rcases hx with⟨rfl,rfl|rfl|rfl⟩|⟨b,off,cap,o,bs,rfl,g1,g2,g3,g5,g4⟩
  ·exact⟨rfl,rfl,[],rfl,Df.nil⟩
  ·exact⟨rfl,rfl,[],rfl,Df.nil⟩
  ·exact⟨rfl,rfl,[],rfl,Df.nil⟩
  ·obtain⟨te,fz,hg⟩:=hr.frz b bs g2;suffices hD:Df F s' l ((bs.drop off).take (l.length*s'.sz))from⟨rfl,rfl,_,rd_some hg g3 hD.ok,hD⟩
   refine⟨?_,fun i hi=>?_⟩
   ·simp;rw[zy (by omega)]
   ·have hi2:(i+1)*s'.sz≤l.length*s'.sz:=zh _ hi;rw[zz]at hi2;have e:(((bs.drop off).take (l.length*s'.sz)).drop (i*s'.sz)).take s'.sz=(bs.drop (off+i*s'.sz)).take s'.sz:=by
     rw[List.drop_take,List.take_take,List.drop_drop,zy (by omega)]
    rw[e];exact g4 i hi
 case h_3=>
  rename_i id sz off len cap;split at hd
  case h_2=>cases hd
  rename_i fzb te s' l' ho;cases hz:zi sz s'.sz with
  |false=>rw[hz]at hd;cases hd
  |true=>
   rw[hz]at hd;have hz:=ze hz;simp only[cond_true,zl]at hd;obtain⟨r,h1,h2⟩:=hd;obtain⟨e,he⟩:=Co h1;have e':s'=s:=by cases e;rfl
   subst e';have:r=l':=by have:=he;cases this;rfl
   subst this;cases h2;simp only[decide_eq_true_eq]at hc;obtain⟨b,n,y,g1,g2,⟨cs,fz,rfl,g3,g4,g5⟩,_⟩:=hr.at ho;simp only[PR]at hx;have hlen:((r.drop off).take len).length=len:=by simp;omega
   have hle:(off+len)*s'.sz≤r.length*s'.sz:=zh _ hc;rw[zo]at hle;rw[hlen];rcases hx.2 b n g1 with⟨_,_,o,_,rfl⟩|⟨rfl,_,hof,rfl|⟨off',rfl,hoff⟩⟩
   ·refine⟨rfl,rfl,_,rd_some g2 ?_ ?_,?_⟩
    ·rw[hz,g3.1];exact hle
    ·rw[hz];exact(g3.part hc).ok
    ·rw[hz];exact g3.part hc
   ·refine⟨rfl,rfl,[],rfl,?_⟩;simpa using Df.nil
   ·refine⟨rfl,rfl,_,rd_some g2 ?_ ?_,?_⟩
    ·rw[hz]at hoff;rw[g3.1];simp at hle ⊢;omega
    ·simp
    ·simp;exact Df.nil
 case h_4=>cases hd
theorem TK(hr:SR B h0 F ρ st.nx st.ob h){s:Sh}{p:PV}{x:V}(hx:PR F ρ st.nx p x){c:Bool}{l:List s.T}(hd:LN st s p=some (c,l))(hc:c=true):
  MS x=some l.length∧LZ x=true∧∃cs,src h s.sz x l.length=some cs∧Df F s l cs:=RD hr hx.lz hd hc
theorem SR.congr(hr:SR B h0 F ρ N st.ob h)(hg:∀c,h'.get c=h.get c)(hn:h'.nx=h.nx):SR B h0 F ρ N st.ob h':=
 ⟨fun id o ho=>by obtain⟨b,n,x,h1,h2,h3⟩:=hr.obj id o ho;exact⟨b,n,x,h1,(hg b).trans h2,h3⟩,hr.inj,fun b cs hb=>by obtain⟨t,fz,h1⟩:=hr.frz b cs hb;exact⟨t,fz,(hg b).trans h1⟩,hr.own,hr.dead,
  fun b hb he=>(hg b).trans (hr.old b hb he),fun b o hb=>by rw[hn];exact hr.lt b o ((hg b).symm.trans hb),by rw[hn];exact hr.le,hr.fo,hr.gl,fun c hc=>by obtain⟨g1,g2,g3⟩:=hr.pn c hc;exact⟨(hg c).trans g1,g2,g3⟩⟩
end
section
variable {B:Nat}{h0:H0}{F:Fz}{ρ:C8}{N:Nat}{C:Ctx}{st st':AD}{fr:Fr}{h h':H}
theorem SR.We{ob:Ob}(hr:SR B h0 F ρ N ob h){o:Obj}{x:O}{b n:Nat}(hg:h.get b=some x)(hfree:∀id o m,AF ob id=some o→ρ id≠some (b,m))(hF:F b=none)(hB:h0.TC B b)(hP:b∉h0.pin)(hf:o.frozen=false)
  (hx:S5 F (Bl ρ N (some (b,n))) (N+1) n o x):SR B h0 F (Bl ρ N (some (b,n))) (N+1) ((N,o)::ob) h:=by
 have hl:Le F ρ N F (Bl ρ N (some (b,n))) (N+1):=Le.new _;have hget:∀j,AF ((N,o)::ob) j=if j=N then some o else AF ob j:=by
  intro j;simp only[AF,A1];by_cases e:N=j
  ·subst e;simp
  ·rw[if_neg (fun h=>e h.symm)];simp[e]
 refine⟨fun j oj hj=>?_,fun i j oi oj c m m' hi hj h1 h2=>?_,hr.frz,fun id c m hb=>?_,fun j hj=>?_,hr.old,hr.lt,hr.le,hr.fo,hr.gl,fun c hc=>?_⟩
 ·rw[hget]at hj;by_cases e:j=N
  ·subst e;simp only[if_true,zg]at hj;subst hj;exact⟨b,n,x,by simp[Bl],hg,hx,fun _=>hF,fun e=>by rw[hf]at e;cases e⟩
  ·rw[if_neg e]at hj;obtain⟨c,m,y,h1,h2,h3,h4⟩:=hr.obj j oj hj;exact⟨c,m,y,by simp[Bl,e,h1],h2,h3.mono hl,h4⟩
 ·rw[hget]at hi hj;have key:∀k ok m,(if k=N then some o else AF ob k)=some ok→Bl ρ N (some (b,n)) k=some (c,m)→(k=N∧c=b)∨(k≠N∧AF ob k=some ok∧ρ k=some (c,m)∧c≠b):=by
   intro k ok m hk hr';by_cases e:k=N
   ·subst e;simp[Bl]at hr';exact .inl ⟨rfl,hr'.1.symm⟩
   ·rw[if_neg e]at hk;simp only[Bl,e,if_false]at hr';exact .inr ⟨e,hk,hr',fun ec=>hfree k ok m hk (ec▸hr')⟩
  rcases key i oi m hi h1 with⟨e1,e2⟩|⟨e1,e2,e3,e4⟩<;>rcases key j oj m' hj h2 with⟨f1,f2⟩|⟨f1,f2,f3,f4⟩
  ·rw[e1,f1]
  ·exact absurd e2 f4
  ·exact absurd f2 e4
  ·exact hr.inj i j oi oj c m m' e2 f2 e3 f3
 ·unfold Bl at hb;split at hb
  ·rename_i e;cases hb;subst e;exact⟨zC _,hB⟩
  ·have:=hr.own id c m hb;exact⟨by omega,this.2⟩
 ·rw[hget]at hj;by_cases e:j=N
  ·rw[if_pos e]at hj;cases hj
  ·rw[if_neg e]at hj;simp[Bl,e,hr.dead j hj]
 ·obtain⟨g1,g2,g3⟩:=hr.pn c hc;refine⟨g1,g2,fun id m e=>?_⟩;unfold Bl at e;split at e
  ·cases e;exact hP hc
  ·exact g3 id m e
theorem Mh{off:Nat}{cs:List V}(h:off≤cs.length):BP off [] cs=cs:=by
 apply List.ext_getElem?;intro j;rw[EY (by simpa using h)];rw[if_neg (by simp)]
theorem PB{off:Nat}{vs cs:List V}(h:off+vs.length≤cs.length):BP off vs cs=cs.take off++(vs++cs.drop (off+vs.length)):=by
 apply List.ext_getElem?;intro j;rw[EY h];by_cases h1:j<off
 ·rw[if_neg (by omega),zK (by simp;omega),List.getElem?_take_of_lt h1]
 ·rw[zH (by simp;omega)];have hm:(cs.take off).length=off:=by simp;omega
  rw[hm];by_cases h2:j<off+vs.length
  ·rw[if_pos ⟨by omega,h2⟩,zK (by omega)]
  ·rw[if_neg (by omega),zH (by omega),List.getElem?_drop];congr 1;omega
theorem Df.VM{s:Sh}{l new:List s.T}{cs ns:List V}{a:Nat}(h:Df F s l cs)(hn:Df F s new ns)(ha:a+new.length≤l.length):
  Df F s (l.take a++(new++l.drop (a+new.length))) (BP (a*s.sz) ns cs):=by
 have h1:=h.1;have h2:=hn.1;have hle:(a+new.length)*s.sz≤l.length*s.sz:=zh _ ha;rw[PB (by rw[h2, ←zo,h1];exact hle)];have p1:=h.part (off:=0) (len:=a) (by omega);have p2:=h.part (off:=a+new.length) (len:=l.length-(a+new.length)) (by omega);rw[zq,zA,zA]at p1;rw[zP (by simp),zP (by rw[List.length_drop,h1, ←Nat.sub_mul];exact zd _)]at p2;rw[h2, ←zo];exact p1.append (hn.append p2)
def DU:List PV→List Nat
 | .sl id _ _ _ _::_=>[id]
 |_=>[]
theorem TH{s s':Sh}{x:s'.T}{c:Bool}{l:List s.T}(hd:LN st s (.dat s' x)=some (c,l)):c=true:=by
 unfold LN at hd;cases s' with
 |list a=>
  have hd:(DQ (.list a) (.list s) x).map (fun r=>(true,r))=some (c,l):=hd;rw[zl]at hd;obtain⟨r,_,e⟩:=hd;cases e;rfl
 |nlist a=>
  have hd:(DQ (.list a) (.list s) x).map (fun r=>(true,r))=some (c,l):=hd;rw[zl]at hd;obtain⟨r,_,e⟩:=hd;cases e;rfl
 |_=>cases hd
theorem WI(hr:SR B h0 F ρ st.nx st.ob h){ts:Array TypeId}{ps:List PV}{xs:List V}(hx:AW F ρ st.nx ps xs){v:PV}(ht:(N8 C.T ts ps st).To v st'):OK B h0 F ρ st h (DU ps) (DS (Eu C.T h ts xs)) v st':=by
 unfold N8 at ht;split at ht
 case h_2=>simp at ht
 rename_i t tx p q hts htx;simp only[AW]at hx;obtain⟨x,_,rfl,hx,y,_,rfl,hy,rfl⟩:=hx;split at ht
 case h_2=>simp at ht
 rename_i e ex hu hux;split at ht
 case h_2=>simp at ht
 rename_i i s hi hs;cases hc:(zt 0 i.bytes&&zt 0 i.size&&zi i.zero.length i.size&&zi i.size s.sz)with
 |false=>rw[hc]at ht;simp at ht
 |true=>
  rw[hc]at ht;simp only[zf]at hc;obtain⟨⟨⟨c1,c2⟩,c3⟩,c4⟩:=hc;have e4:=ze c4;simp only[cond_true]at ht;split at ht
  case h_2=>simp at ht
  rename_i c new hel;have head:c=true→∃cs,src h i.size y new.length=some cs∧Df F s new cs∧Eu C.T h ts [x,y]=(match x with
      | .nils=>bif zi new.length 0 then some (.nils,h)
       else bif zp ((2*new.length+1000)*i.bytes) 281474976710656 then some (.sl h.nx 0 new.length new.length i.size,GD h e cs)else none
      | .es0=>bif zi new.length 0 then some (.es0,h)
       else bif zp ((2*new.length+1000)*i.bytes) 281474976710656 then some (.sl h.nx 0 new.length new.length i.size,GD h e cs)else none
      | .esl=>bif zi new.length 0 then some (.esl,h)else none
      | .sl b off len cap o=>
       bif zp (len+new.length) cap then(wr h b (off+len*i.size) cs).map fun h'=>(.sl b off (len+new.length) cap o,h')
       else bif zp ((2*(len+new.length)+1000)*i.bytes) 281474976710656 then
        match src h i.size x len with
        |some old=>
         bif zi o 0 then some (.sl h.nx 0 (len+new.length) (len+new.length) i.size,GD h e (old++cs))
         else
          match h.get b with
          |some (.cells _ te fz)=>
           bif zi off 0&&zi o i.size&&zi te e&&zp fz.2 fz.1&&cs.all V.one then some (.sl h.nx 0 (len+new.length) (len+new.length) i.size,(h.kill b).push (.cells (old++cs) e (0,0)))
           else none
          |_=>none
        |none=>none
       else none
      |_=>none):=by
   intro hc;obtain⟨g1,g2,cs,g3,g4⟩:=TK hr hy hel hc;rw[←e4]at g3;refine⟨cs,g3,g4,?_⟩;have hcond:(zt 0 i.bytes&&zt 0 i.size&&zi i.zero.length i.size&&(zi i.size 1||LZ y))=true:=by
    rw[c1,c2,c3,g2,Bool.or_true];rfl
   have hint:isInt (.slice ex)=false:=rfl;simp only[Eu,hts,htx,hu,hux,g1,hi,hint,hcond,cond_true,g3];cases x<;>rfl
  split at ht
  case h_3=>simp at ht
  case h_1=>
   simp only[PR]at hx;subst hx;have grow:c=true→0<new.length→(2*new.length+1000)*i.bytes≤bP→OK B h0 F ρ st h (DU [PV.nil,q]) (DS (Eu C.T h ts [.nils,y])) (.sl st.nx s.sz 0 new.length none) (st.push (.arr false e s new)):=by
    intro k1 k2 k3;obtain⟨cs,g1,g2,g3⟩:=head k1;have b1:zi new.length 0=false:=by rw[A1];simp;intro e;rw[e]at k2;simp at k2
    have b2:zp ((2*new.length+1000)*i.bytes) 281474976710656=true:=zj k3;rw[g3];simp only[b1,b2,cond_false,cond_true];exact OK.new hr (o:=.arr false e s new) (n:=new.length) rfl ⟨_,_,rfl,g2,zd _,rfl⟩ (KU (.inr e4))
   have same:c=true→new.length=0→OK B h0 F ρ st h (DU [PV.nil,q]) (DS (Eu C.T h ts [.nils,y])) .nil st:=by
    intro k1 k2;obtain⟨cs,g1,g2,g3⟩:=head k1;have b1:zi new.length 0=true:=by rw[k2];rfl
    rw[g3];simp only[b1,cond_true];exact⟨.nils,h,F,ρ,.inl rfl,by simp[PR],hr,zu,rfl,rfl,zd _,fun _ _=>.inl rfl⟩
   split at ht
   case h_1=>
    simp only[AH]at ht;obtain⟨rfl,rfl⟩:=ht;simp only[LN,Km,lz,zg,zx]at hel;obtain⟨rfl,rfl⟩:=hel;exact same rfl rfl
   case h_2=>
    have hc':c=true:=by
     exact TH hel
    by_cases hn:0<new.length
    ·rw[decide_eq_true hn]at ht;cases ht with
     |tt ht=>
      simp only[Bk,zf,decide_eq_true_eq]at ht;obtain⟨⟨k1,k3⟩,rfl,rfl⟩:=ht;exact grow k1 hn k3
    ·rw[decide_eq_false hn]at ht;cases ht with
     |ff ht=>
      simp only[AH]at ht;obtain⟨rfl,rfl⟩:=ht;exact same hc' (by omega)
   case h_3=>
    by_cases hn:0<new.length
    ·rw[decide_eq_true hn]at ht;cases ht with
     |tt ht=>
      simp only[Bk,zf,decide_eq_true_eq]at ht;obtain⟨⟨k1,k3⟩,rfl,rfl⟩:=ht;exact grow k1 hn k3
    ·rw[decide_eq_false hn]at ht;cases ht with
     |ff ht=>
      simp only[Bk]at ht;obtain⟨k1,rfl,rfl⟩:=ht;exact same k1 (by omega)
   case h_4=>
    simp only[Bk,zf,decide_eq_true_eq]at ht;obtain⟨⟨⟨k1,k2⟩,k3⟩,rfl,rfl⟩:=ht;exact grow k1 k2 k3
  case h_2=>
   rename_i id sz off len cap;split at ht
   case h_2=>simp at ht
   rename_i e' s' l ho;split at ht
   case h_2=>simp at ht
   rename_i l' hl';obtain⟨ecast,hcast⟩:=Co hl';have es:s'=s:=by cases ecast;rfl
   subst es;have:l'=l:=by have:=hcast;cases this;rfl
   subst this;cases hcc:(zi e e'&&zi sz s'.sz)with
   |false=>rw[hcc]at ht;simp at ht
   |true=>
    rw[hcc]at ht;simp only[zf]at hcc;have ee:=ze hcc.1;have esz:=ze hcc.2;subst ee;subst esz;simp only[cond_true]at ht;split at ht
    case h_2=>
     rename_i k;simp only[Bk,zf,decide_eq_true_eq]at ht;obtain⟨⟨⟨k1,k2⟩,k3⟩,rfl,rfl⟩:=ht;obtain⟨cs,g1,g2,g3⟩:=head k1;obtain⟨b,n,z,h1,h2,⟨bs,fz,rfl,h3,h4,h5⟩,h6,_⟩:=hr.at ho;simp only[PR]at hx;rw[g3];have hone:cs.all V.one=true:=g2.OX;have hcl:cs.length=new.length*s'.sz:=g2.1;have hbl:=h3.1;have hle:(off+len+new.length)*s'.sz≤l'.length*s'.sz:=zh _ (by omega);have hexp:(off+len+new.length)*s'.sz=off*s'.sz+len*s'.sz+new.length*s'.sz:=by rw[zo,zo]
     have hsp:=Df.VM h3 g2 (a:=off+len) (by omega);have hlen:(l'.take (off+len)++(new++l'.drop (off+len+new.length))).length=l'.length:=by simp;omega
     rcases hx.2 b n h1 with⟨_,g6,o,g5,rfl⟩|⟨e0,ek,g6,g7⟩
     ·simp only[zN]at g6;have hw:wr h b (off*s'.sz+len*i.size) cs=some (h.put b (.cells (BP ((off+len)*s'.sz) cs bs) e fz)):=by
       rw[KX h2 (by rw[e4,hcl,hbl];omega) h4 hone,e4, ←zo]
      have b1:zp (len+new.length) k=true:=zj k2;refine⟨.sl b (off*s'.sz) (len+new.length) k o,h.put b (.cells (BP ((off+len)*s'.sz) cs bs) e fz),F,ρ,.inl ?_,?_,hr.set ho h1 h2 rfl rfl (o':=.arr false e s' _) ⟨_,fz,rfl,hsp,h4,hlen.trans h5⟩,zu,rfl,rfl,zd _,fun c _=>?_⟩
      ·simp only[zN,b1,cond_true,hw,zF,DS]
      ·simp only[PR];refine⟨hx.1,fun b' n' hb'=>.inl ?_⟩;rw[h1]at hb';cases hb';exact⟨by simpa using k2,by simpa using g6,o,g5,rfl⟩
      ·rw[H.A0];by_cases e:c=b
       ·exact .inr ⟨id,by simp[DU],n,e▸h1⟩
       ·rw[if_neg e];exact .inl rfl
     ·cases ek;subst e0;have hn0:new.length=0:=by omega
      have hnil:new=[]:=zk.1 hn0;subst hnil;have hcs:cs=[]:=zk.1 (by rw[hcl];simp);subst hcs;have hlp:BP ((off+0)*s'.sz) [] bs=bs:=Mh (by rw[hbl];have:=zh s'.sz (show off+0≤l'.length by omega);exact this);have hput:∀c,(h.put b (.cells (BP ((off+0)*s'.sz) [] bs) e fz)).get c=h.get c:=by
       intro c;rw[hlp,H.A0];by_cases e:c=b
       ·rw[if_pos e,e,h2]
       ·rw[if_neg e]
      have hset:=hr.set ho h1 h2 rfl rfl (o':=.arr false e s' _) (x':=.cells (BP ((off+0)*s'.sz) [] bs) e fz) ⟨_,fz,rfl,hsp,h4,hlen.trans h5⟩;have hset':SR B h0 F ρ st.nx (CH st.ob id (.arr false e s' (l'.take (off+0)++([]++l'.drop (off+0+0))))) h:=
       SR.congr (st:=⟨st.n,st.fr,CH st.ob id _,st.nx⟩) hset (fun c=>(hput c).symm) rfl
      have hpr:∀w,(w=.esl∨∃off',w=.sl b off' 0 0 0∧off'≤off*s'.sz)→PR F ρ st.nx (.sl id s'.sz off (zW 0 0) (some 0)) w:=by
       intro w hw;simp only[PR];refine⟨hx.1,fun b' n' hb'=>.inr ?_⟩;rw[h1]at hb';cases hb';exact⟨by simp,by simp,g6,hw⟩
      rcases g7 with rfl|⟨off',rfl,hoff'⟩
      ·exact⟨.esl,h,F,ρ,.inl rfl,hpr _ (.inl rfl),hset',zu,rfl,rfl,zd _,fun _ _=>.inl rfl⟩
      ·have hob:off'≤bs.length:=by
        have h7:off*s'.sz≤l'.length*s'.sz:=zh _ (by omega);omega
       have hw:wr h b (off'+0*i.size) []=some (h.put b (.cells (BP (off'+0*i.size) [] bs) e fz)):=KX h2 (by simpa using hob) h4 rfl;have hput2:∀c,(h.put b (.cells (BP (off'+0*i.size) [] bs) e fz)).get c=h.get c:=by
        intro c;rw[Mh (by simpa using hob),H.A0];by_cases e:c=b
        ·rw[if_pos e,e,h2]
        ·rw[if_neg e]
       refine⟨.sl b off' 0 0 0,h.put b (.cells (BP (off'+0*i.size) [] bs) e fz),F,ρ,.inl ?_,hpr _ (.inr ⟨off',rfl,hoff'⟩),SR.congr (st:=⟨st.n,st.fr,CH st.ob id _,st.nx⟩) hset' hput2 rfl,zu,rfl,rfl,zd _,fun c _=>.inl (hput2 c)⟩;simp only[zR,Nat.add_zero,show zp 0 0=true from rfl,cond_true,hw,zF,DS]
    simp only[Bk,zf,decide_eq_true_eq]at ht;obtain⟨⟨⟨⟨k1,k2⟩,k3⟩,k4⟩,rfl,rfl⟩:=ht;subst k2;obtain⟨cs,g1,g2,g3⟩:=head k1;obtain⟨b,n,z,h1,h2,⟨bs,fz,rfl,h3,h4,h5⟩,h6,_⟩:=hr.at ho;have hFb:=h6 rfl;simp only[PR]at hx;have hB:=(hr.own id b n h1).2;have hPb:b∉h0.pin:=fun hp=>(hr.pn b hp).2.2 id n h1
    have hidN:=(hr.own id b n h1).1;obtain⟨_,_,o,g5,rfl⟩:len≤len∧0+len≤n∧∃o,(o=0∨o=s'.sz)∧x=.sl b (0*s'.sz) len len o:=by
     rcases hx.2 b n h1 with g|⟨_,e,_⟩
     ·exact g
     ·cases e
    have hbl:bs.length=len*i.size:=by rw[h3.1,k3,e4]
    have hfree:∀j oj m,AF (Fc st.ob id) j=some oj→Bl ρ id none j≠some (b,m):=by
     intro j oj m hj hjr;rw[Dq]at hj;split at hj
     ·cases hj
     ·rename_i hne;simp only[Bl,hne,if_false]at hjr;exact hne (hr.inj j id oj _ b m n hj ho hjr h1)
    have hdel:=hr.del id;have hle1:Le F ρ st.nx F (Bl ρ id none) st.nx:=Le.Ox id;have hnew:Df F s' (l'++new) (bs++cs):=h3.append g2;have hlen:(l'++new).length=len+new.length:=by rw[List.length_append, ←k3]
    have hone:cs.all V.one=true:=g2.OX;rw[g3];simp only;by_cases hn:new.length=0
    ·
     have hnil:new=[]:=zk.1 hn;have hcs:cs=[]:=zk.1 (by rw[g2.1,hn,zq]);subst hcs;have b1:zp (len+new.length) len=true:=zj (by omega);have hw:wr h b (0*s'.sz+len*i.size) []=some (h.put b (.cells (BP (0*s'.sz+len*i.size) [] bs) e fz)):=KX h2 (by rw[hbl];simp) h4 rfl;have hput:∀c,(h.put b (.cells (BP (0*s'.sz+len*i.size) [] bs) e fz)).get c=h.get c:=by
      intro c;rw[Mh (by rw[hbl];simp),H.A0];by_cases e:c=b
      ·rw[if_pos e,e,h2]
      ·rw[if_neg e]
     refine⟨.sl b (0*s'.sz) (len+new.length) len o,h.put b (.cells (BP (0*s'.sz+len*i.size) [] bs) e fz),F,Bl (Bl ρ id none) st.nx (some (b,n)),.inl ?_,?_,?_,hle1.trans (Le.new _),rfl,rfl,zd _,fun c _=>.inl (hput c)⟩
     ·simp only[b1,cond_true,hw,zF,DS]
     ·unfold PR;refine⟨zC _,fun b' n' hb=>.inl ?_⟩;simp[Bl]at hb;obtain⟨rfl,rfl⟩:=hb;refine⟨zd _,?_,o,g5,?_⟩
      ·show 0+(len+new.length)≤n;omega
      ·show V.sl b (0*s'.sz) (len+new.length) len o=.sl b (0*s'.sz) (len+new.length) (len+new.length) o;rw[hn];rfl
     ·refine SR.We (ob:=Fc st.ob id) ?_ (x:=.cells bs e fz) ((hput b).trans h2) hfree hFb hB hPb rfl ⟨bs,fz,rfl,?_,h4,?_⟩
      ·exact SR.congr (st:=⟨st.n,st.fr,Fc st.ob id,st.nx⟩) hdel hput rfl
      ·rw[hnil,List.append_nil];exact h3
      ·rw[hnil,List.append_nil];exact h5
    ·
     have b1:zp (len+new.length) len=false:=by
      cases hb:zp (len+new.length) len with
      |false=>rfl
      |true=>have:=zB hb;omega
     have b2:zp ((2*(len+new.length)+1000)*i.bytes) 281474976710656=true:=zj k4;have hsrc:src h i.size (.sl b (0*s'.sz) len len o) len=some bs:=by
      show rd h b (0*s'.sz) (len*i.size)=_;rw[rd_some h2 (by rw[hbl,zq];omega) (fun u hu=>h3.ok u (List.mem_of_mem_drop (List.mem_of_mem_take hu)))];rw[zq,zA, ←hbl,List.take_length]
     simp only[b1,b2,cond_false,cond_true,hsrc];have fin:∀ {h1':H},SR B h0 F (Bl ρ id none) st.nx (Fc st.ob id) h1'→h1'.nx=h.nx→(∀c,c≠b→h1'.get c=h.get c)→
       OK B h0 F ρ st h [id] (DS (some (.sl h.nx 0 (len+new.length) (len+new.length) i.size,h1'.push (.cells (bs++cs) e (0,0))))) (.sl st.nx s'.sz 0 (zW len new.length) none) ((st.NX id).push (.arr false e s' (l'++new))):=by
      intro h1' hr1 hnx hg;have hp:=hr1.push (o:=.arr false e s' (l'++new)) (x:=.cells (bs++cs) e (0,0)) (n:=len+new.length) rfl ⟨_,_,rfl,hnew,zd _,hlen⟩;refine⟨_,_,F,_,.inl rfl,?_,hp,hle1.trans (Le.new _),rfl,rfl,by show h.nx≤h1'.nx+1;omega,fun c hc=>?_⟩
      ·rw[←hnx];exact KU (.inr e4)
      ·rw[H.Bd,if_neg (by omega)];by_cases e:c=b
       ·exact .inr ⟨id,zc.2 rfl,n,e▸h1⟩
       ·exact .inl (hg c e)
     rcases g5 with rfl|rfl
     ·simp only[zG,cond_true];exact fin hdel rfl (fun _ _=>rfl)
     ·have b3:zi s'.sz 0=false:=by
       rw[←e4];cases hb:zi i.size 0 with
       |false=>rfl
       |true=>have:=ze hb;rw[this]at c2;cases c2
      have b4:(zi (0*s'.sz) 0&&zi s'.sz i.size&&zi e e&&zp fz.2 fz.1&&cs.all V.one)=true:=by
       rw[zq,e4,hone,zj h4];simp
      simp only[b3,cond_false,h2,b4,cond_true];exact fin (hdel.kill hfree hFb hB hPb) rfl (fun c hc=>by rw[H.Cc,if_neg hc])
end
section
variable {B:Nat}{h0:H0}{F:Fz}{ρ:C8}{N:Nat}{C:Ctx}{st st':AD}{fr:Fr}{h h':H}
theorem Dx:∀ {s:Sh} {x:s.T} {v:V},DV F s x v→PR F ρ N (Bz s x) v
 | .pair a b,x,v,h=>by obtain⟨cs,rfl,h1⟩:=h.1 rfl;unfold Bz PR;exact⟨cs,rfl,Ca h1⟩
 | .unit,x,v,h=>by obtain⟨cs,rfl,h1⟩:=h.1 rfl;simp only[DC]at h1;subst h1;unfold Bz PR;exact⟨[],rfl,by simp⟩
 | .int _,x,v,h=>by have:=h.2 rfl;unfold Bz PR;exact this
 | .bool,x,v,h=>by have:=h.2 rfl;unfold Bz PR;exact this
 | .str,x,v,h=>by have:=h.2 rfl;unfold Bz PR;exact this
 | .list _,x,v,h=>by have:=h.2 rfl;unfold Bz PR;exact this
 | .nlist _,x,v,h=>by have:=h.2 rfl;unfold Bz PR;exact this
 | .fnv,x,v,h=>by
  have:=h.2 rfl;simp only[DC,zr,and_true]at this;subst this;unfold Bz;cases (x:Option Fn)<;>simp[PR]
theorem YD{s:Sh}{p:PV}{x:s.T}{v:V}(hp:PR F ρ N p v)(hd:eX s p=some x):DV F s x v:=by
 unfold eX at hd;cases hb:(Jn p==s.MV)with
 |false=>rw[hb]at hd;cases hd
 |true=>
  rw[hb]at hd;simp only[cond_true]at hd;have hb:Jn p=s.MV:=by simpa using hb
  refine⟨fun e=>?_,fun e=>?_⟩
  ·rw[e]at hb;cases p<;>simp only[Jn]at hb<;>try (cases hb;done)
   rename_i l;simp only[PR]at hp;obtain⟨cs,rfl,h1⟩:=hp;exact⟨cs,rfl,B1 h1 hd⟩
  ·rw[e]at hb;have:p.cells=[p]:=by cases p<;>first|rfl|(simp[Jn]at hb)
   rw[this]at hd;exact B1 (by simpa using hp) hd
theorem WU{T:BA}{t:TypeId}{s:Sh}(h:Xx T t=some s):(∃k,s=.int k∧T.und t=some (.int k))∨(s=.str∧T.und t=some .string)∨(s=.bool∧T.und t=some .bool):=by
 unfold Xx at h;split at h
 ·rename_i k hu;cases h;exact .inl ⟨k,rfl,hu⟩
 ·rename_i hu;cases h;exact .inr (.inl ⟨rfl,hu⟩)
 ·rename_i hu;cases h;exact .inr (.inr ⟨rfl,hu⟩)
 ·cases h
theorem Rz{T:BA}{t:TypeId}{s:Sh}(hs:Xx T t=some s){p:PV}{x:s.T}{v:V}(hp:PR F ρ N p v)(hd:Zm s p=some x):DV F s x v:=by
 have:=FB hp hd;rcases WU hs with⟨k,rfl,_⟩|⟨rfl,_⟩|⟨rfl,_⟩<;>exact⟨fun e=>(by cases e),fun _=>this⟩
theorem OZ{T:BA}{t:TypeId}{s:Sh}(hs:Xx T t=some s){x:s.T}{v:V}(hv:DV F s x v):∃d,T.und t=some d∧GF T t d v=true∧(∀es,HS T t v es=Iy T t v es 0)∧∀y u,DV F s y u→WT T t v u=some (Nh s x y):=by
 rcases WU hs with⟨k,rfl,hu⟩|⟨rfl,hu⟩|⟨rfl,hu⟩<;>
 ·have h1:=hv.2 rfl;simp only[DC,zr,and_true]at h1;subst h1;refine⟨_,hu,rfl,fun _=>rfl,fun y u hy=>?_⟩;have h2:=hy.2 rfl;simp only[DC,zr,and_true]at h2;subst h2;simp[WT,hu,Nh]
theorem LR{T:BA}{t:TypeId}{ks vs:Sh}(hs:Xx T t=some ks){k:ks.T}{kv:V}(hk:DV F ks k kv):∀ {l:List (ks.T×vs.T)} {es:List (V×V×Nat)},MR F ks vs l es→∀i,∃r,Iy T t kv es i=some r∧
  (match r with
   |none=>Dz ks vs k l=none∧Pb ks vs k l=l∧∀x xv c,DV F vs x xv→MR F ks vs (FE ks vs k x l) (es++[(kv,xv,c)])
   |some (j,u)=>(∃v,Dz ks vs k l=some v∧DV F vs v u)∧i≤j∧MR F ks vs (Pb ks vs k l) (es.eraseIdx (j-i))∧∀x xv,DV F vs x xv→MR F ks vs (FE ks vs k x l) (QP es (j-i) kv xv)):=by
 intro l es hm;induction hm with
 |nil=>intro i;exact⟨none,rfl,rfl,rfl,fun x xv c hx=>.cons hk hx .nil⟩
 |@cons a b l av bv n es h1 h2 h3 ih=>
  intro i;obtain⟨d,_,_,_,hq⟩:=OZ hs hk;have hq:=hq a av h1;unfold Iy;rw[hq];cases hb:Nh ks k a with
  |true=>
   refine⟨some (i,bv),rfl,⟨b,by simp[Dz,hb],h2⟩,zd _,?_,fun x xv hx=>?_⟩
   ·simp only[Nat.sub_self,List.eraseIdx_cons_zero,Pb,hb,cond_true];exact h3
   ·simp only[Nat.sub_self,FE,hb,cond_true,QP,List.modify_zero_cons];exact .cons hk hx h3
  |false=>
   obtain⟨r,g1,g2⟩:=ih (i+1);refine⟨r,g1,?_⟩;cases r with
   |none=>
    obtain⟨k1,k2,k3⟩:=g2;refine⟨by simp only[Dz,hb,cond_false];exact k1,by simp only[Pb,hb,cond_false,k2],fun x xv c hx=>?_⟩;simp only[FE,hb,cond_false,List.cons_append];exact .cons h1 h2 (k3 x xv c hx)
   |some ju=>
    obtain⟨j,u⟩:=ju;obtain⟨⟨v,k1,k2⟩,k3,k4,k5⟩:=g2;have e:j-i=(j-(i+1))+1:=by omega
    refine⟨⟨v,by simp only[Dz,hb,cond_false];exact k1,k2⟩,by omega,?_,fun x xv hx=>?_⟩
    ·rw[e];simp only[List.eraseIdx_cons_succ,Pb,hb,cond_false];exact .cons h1 h2 k4
    ·rw[e];simp only[FE,hb,cond_false,QP,List.modify_succ_cons];exact .cons h1 h2 (k5 x xv hx)
theorem XR(hr:SR B h0 F ρ st.nx st.ob h){t:TypeId}{v:PV}(ht:(Q3 C.T t st).To v st'):OK B h0 F ρ st h [] (DS (GN h none)) v st':=by
 unfold Q3 at ht;split at ht
 case h_2=>simp at ht
 split at ht
 case h_2=>simp at ht
 rename_i ks vs hk hv;simp only[AH]at ht;obtain⟨rfl,rfl⟩:=ht;refine OK.new hr (o:=.map ks vs []) (x:=.map [] 0) (n:=0) rfl ⟨[],0,rfl,.nil⟩ ?_;unfold PR;exact⟨zC _,fun b m hb=>by simp[Bl]at hb;rw[hb.1]⟩
theorem Uk(hr:SR B h0 F ρ st.nx st.ob h){ks vs:Sh}{m:PV}{l:List (ks.T×vs.T)}{x:V}(hm:PR F ρ st.nx m x)(hd:VI st ks vs m=some l):∃es,entries h x=some es∧MR F ks vs l es:=by
 unfold VI at hd;split at hd
 ·cases hd;simp only[PR]at hm;subst hm;exact⟨[],rfl,.nil⟩
 ·rename_i id;split at hd
  case h_2=>cases hd
  rename_i ks' vs' l' ho;obtain⟨e,he⟩:=Co hd;simp only[Sh.list.injEq,Sh.pair.injEq]at e;obtain⟨rfl,rfl⟩:=e;obtain rfl:l'=l:=he;obtain⟨b,n,o,h1,h2,⟨es,clk,rfl,h4⟩,_⟩:=hr.at ho;simp only[PR]at hm;obtain rfl:=hm.2 b n h1;exact⟨es,by simp[entries,h2],h4⟩
 ·cases hd
theorem Wk{ks vs:Sh}{ok:Bool}{z:vs.T}{x:ks.T}:∀ {l:List (ks.T×vs.T)} {v:PV},(cI ks vs ok z x st l).To v st'→st=st'∧((Dz ks vs x l=none∧v=bif ok then .tup [Bz vs z,.bl false]else Bz vs z)∨∃w,Dz ks vs x l=some w∧v=bif ok then .tup [Bz vs w,.bl true]else Bz vs w)
 |[],v,ht=>by
  unfold cI at ht;simp only[AH]at ht;exact⟨ht.2,.inl ⟨rfl,ht.1.symm⟩⟩
 |(a,b)::l,v,ht=>by
  unfold cI at ht;generalize hc:Nh ks x a=c at ht;cases ht with
  |tt ht=>
   simp only[AH]at ht;exact⟨ht.2,.inr ⟨b,by simp[Dz,hc],ht.1.symm⟩⟩
  |ff ht=>
   obtain⟨h1,h2⟩:=Wk ht;have e:Dz ks vs x ((a,b)::l)=Dz ks vs x l:=by simp[Dz,hc]
   rw[e];exact⟨h1,h2⟩
theorem V1(hr:SR B h0 F ρ st.nx st.ob h){t:TypeId}{p q:PV}{x y:V}(hx:PR F ρ st.nx p x)(hy:PR F ρ st.nx q y){ok:Bool}{v:PV}(ht:(ON C.T t p q ok st).To v st'):OK B h0 F ρ st h [] (A6 h (Ds C.T h t x y ok)) v st':=by
 unfold ON at ht;split at ht
 case h_2=>simp at ht
 rename_i kt e hu;split at ht
 case h_2=>simp at ht
 rename_i ks vs i hks hvs hi;split at ht
 case h_2=>simp at ht
 rename_i k l z hk hl hz;cases hb:(cM i.zv==vs.MV)with
 |false=>rw[hb]at ht;simp at ht
 |true=>
  rw[hb]at ht;simp only[cond_true]at ht;have hkd:=Rz hks hy hk;obtain⟨es,he,hm⟩:=Uk hr hx hl;obtain⟨kd,g1,g2,g3,_⟩:=OZ hks hkd;obtain⟨r,r1,r2⟩:=LR hks hkd hm 0;have hzd:DV F vs z i.zv:=by
   have h1:DC F vs z i.zv.cells:=B1 (DJ (F:=F) (ρ:=ρ) (N:=st.nx) i.zero) hz;have hb:cM i.zv=vs.MV:=by simpa using hb
   refine⟨fun e=>?_,fun e=>?_⟩
   ·rw[e]at hb;cases hv:i.zv<;>rw[hv]at hb<;>simp only[cM]at hb<;>try (cases hb;done)
    rw[hv]at h1;exact⟨_,rfl,h1⟩
   ·rw[e]at hb;have:i.zv.cells=[i.zv]:=by cases hv:i.zv<;>rw[hv]at hb<;>first|rfl|(simp[cM]at hb)
    rw[←this];exact h1
  unfold Ds;simp only[hu,g1,he,g2,cond_true,g3,r1];cases hf:vs.YS with
  |true=>
   rw[hf]at ht;simp only[cond_true]at ht;have hk2:=Wk ht;obtain⟨e0,hk3⟩:=hk2;subst e0;rcases hk3 with⟨hn,hv⟩|⟨w,hw,hv⟩
   ·cases r with
    |none=>
     simp only[hi];cases ok with
     |true=>exact zw hr rfl (by rw[hv];simp only[cond_true,PR];exact⟨_,rfl,_,_,rfl,Dx hzd,_,_,rfl,by simp[PR],rfl⟩)
     |false=>exact zw hr rfl (by rw[hv];exact Dx hzd)
    |some ju=>
     obtain⟨⟨v',k1,_⟩,_⟩:=r2;rw[hn]at k1;cases k1
   ·cases r with
    |none=>rw[r2.1]at hw;cases hw
    |some ju=>
     obtain⟨⟨v',k1,k2⟩,_⟩:=r2;rw[hw]at k1;cases k1;cases ok with
     |true=>exact zw hr rfl (by rw[hv];simp only[cond_true,PR];exact⟨_,rfl,_,_,rfl,Dx k2,_,_,rfl,by simp[PR],rfl⟩)
     |false=>exact zw hr rfl (by rw[hv];exact Dx k2)
  |false=>
  rw[hf]at ht;simp only[cond_false,AH]at ht;obtain⟨rfl,rfl⟩:=ht;cases r with
  |none=>
   obtain⟨k1,_⟩:=r2;simp only[hi,k1,Option.getD_none,Option.isSome_none];cases ok with
   |true=>exact zw hr rfl (by simp only[cond_true,PR];exact⟨_,rfl,_,_,rfl,Dx hzd,_,_,rfl,CN _,rfl⟩)
   |false=>exact zw hr rfl (Dx hzd)
  |some ju=>
   obtain⟨j,u⟩:=ju;obtain⟨⟨v,k1,k2⟩,_⟩:=r2;simp only[k1,zN,Option.isSome_some];cases ok with
   |true=>exact zw hr rfl (by simp only[cond_true,PR];exact⟨_,rfl,_,_,rfl,Dx k2,_,_,rfl,CN _,rfl⟩)
   |false=>exact zw hr rfl (Dx k2)
theorem WW(hr:SR B h0 F ρ st.nx st.ob h){t:TypeId}{p q r:PV}{x y z:V}(hx:PR F ρ st.nx p x)(hy:PR F ρ st.nx q y)(hz:PR F ρ st.nx r z){v:PV}(ht:(Oj C.T t p q r st).To v st'):
  ∃id,p=.mp id∧OK B h0 F ρ st h [id] (VR (FM C.T h t x y z)) v st':=by
 unfold Oj at ht;split at ht
 case h_2=>simp at ht
 rename_i kt e id hu;split at ht
 case h_2=>simp at ht
 rename_i ks ks' vs l hks ho;split at ht
 case h_2=>simp at ht
 rename_i k l2 w hk hl hw;obtain⟨e1,he⟩:=Co hl;simp only[Sh.list.injEq,Sh.pair.injEq,and_true]at e1;subst e1;obtain rfl:l=l2:=he;simp only[AH]at ht;obtain⟨rfl,rfl⟩:=ht;have hkd:=Rz hks hy hk;have hwd:=YD hz hw;obtain⟨b,n,o,h1,h2,⟨es,clk,rfl,h4⟩,_⟩:=hr.at ho;have hx':=hx;simp only[PR]at hx';obtain rfl:=hx'.2 b n h1;obtain⟨kd,g1,g2,g3,_⟩:=OZ hks hkd;obtain⟨r',r1,r2⟩:=LR hks hkd h4 0;refine⟨id,rfl,?_⟩;have fin:∀es' clk',MR F ks' vs (FE ks' vs k w l) es'→OK B h0 F ρ st h [id] (VR (some (h.put b (.map es' clk')))) (.tup []) (st.setObj id (.map ks' vs (FE ks' vs k w l))):=by
  intro es' clk' hm;refine⟨.tup [],_,F,ρ,.inr ⟨rfl,rfl⟩,by simp[PR],hr.set ho h1 h2 rfl rfl ⟨es',clk',rfl,hm⟩,zu,rfl,rfl,zd _,fun c _=>?_⟩;by_cases ec:c=b
  ·exact .inr ⟨id,zc.2 rfl,n,ec▸h1⟩
  ·exact .inl (by rw[H.A0,if_neg ec])
 unfold FM;simp only[hu,g1,h2,g2,cond_true,g3,r1];cases r' with
 |none=>exact fin _ _ (r2.2.2 w z clk hwd)
 |some ju=>exact fin _ _ (r2.2.2.2 w z hwd)
theorem V0(hr:SR B h0 F ρ st.nx st.ob h){ts:Array TypeId}{ps:List PV}{xs:List V}(hx:AW F ρ st.nx ps xs){v:PV}(ht:(OO C.T ts ps st).To v st'):
  ∃id qs,ps=.mp id::qs∧OK B h0 F ρ st h [id] (DS (II C.T h ts xs)) v st':=by
 unfold OO at ht;split at ht
 case h_2=>simp at ht
 rename_i t id q hts;split at ht
 case h_2=>simp at ht
 rename_i kt e hu;split at ht
 case h_2=>simp at ht
 rename_i ks ks' vs l hks ho;split at ht
 case h_2=>simp at ht
 rename_i k l2 hk hl;obtain⟨e1,he⟩:=Co hl;simp only[Sh.list.injEq,Sh.pair.injEq,and_true]at e1;subst e1;obtain rfl:l=l2:=he;simp only[AH]at ht;obtain⟨rfl,rfl⟩:=ht;simp only[AW]at hx;obtain⟨x,xs',rfl,hx1,y,xs'',rfl,hy,rfl⟩:=hx;have hkd:=Rz hks hy hk;obtain⟨b,n,o,h1,h2,⟨es,clk,rfl,h4⟩,_⟩:=hr.at ho;obtain rfl:=hx1.2 b n h1;obtain⟨kd,g1,g2,g3,_⟩:=OZ hks hkd;obtain⟨r',r1,r2⟩:=LR hks hkd h4 0;refine⟨id,_,rfl,?_⟩;have fin:∀es',MR F ks' vs (Pb ks' vs k l) es'→OK B h0 F ρ st h [id] (DS (some (.tup [],h.put b (.map es' clk)))) (.tup []) (st.setObj id (.map ks' vs (Pb ks' vs k l))):=by
  intro es' hm;refine⟨.tup [],_,F,ρ,.inl rfl,by simp[PR],hr.set ho h1 h2 rfl rfl ⟨es',clk,rfl,hm⟩,zu,rfl,rfl,zd _,fun c _=>?_⟩;by_cases ec:c=b
  ·exact .inr ⟨id,zc.2 rfl,n,ec▸h1⟩
  ·exact .inl (by rw[H.A0,if_neg ec])
 unfold II;simp only[hts,hu,g1,h2,g2,cond_true,g3,r1];cases r' with
 |none=>exact fin es (by rw[r2.2.1];exact h4)
 |some ju=>
  have:=r2.2.2.1;simp only[Nat.sub_zero]at this;exact fin _ this
end
section
variable {B:Nat}{h0:H0}{F:Fz}{ρ:C8}{N:Nat}{C:Ctx}{st st':AD}{fr:Fr}{h h':H}
theorem SR.same(hr:SR B h0 F ρ st.nx st.ob h){id b n:Nat}{o o':Obj}{x:O}(ho:st.obj id=some o)(hb:ρ id=some (b,n))(hg:h.get b=some x)(hf:o.frozen=false)(hf':o'.frozen=false)
  (hx:S5 F ρ st.nx n o' x):SR B h0 F ρ st.nx (CH st.ob id o') h:=by
 have hput:∀c,h.get c=(h.put b x).get c:=by
  intro c;rw[H.A0];by_cases e:c=b
  ·rw[if_pos e,e,hg]
  ·rw[if_neg e]
 exact SR.congr (st:=⟨st.n,st.fr,CH st.ob id o',st.nx⟩) (hr.set ho hb hg hf hf' hx) hput rfl
theorem YY(hr:SR B h0 F ρ st.nx st.ob h){ts:Array TypeId}{ps:List PV}{xs:List V}(hx:AW F ρ st.nx ps xs){v:PV}(ht:(Q4 C.T ts ps st).To v st'):OK B h0 F ρ st h (DU ps) (DS (Ec C.T h ts xs)) v st':=by
 unfold Q4 at ht;split at ht
 case h_2=>simp at ht
 rename_i t p hts;simp only[AW]at hx;obtain⟨x,_,rfl,hx,rfl⟩:=hx;split at ht
 case h_2=>simp at ht
 rename_i e hu;split at ht
 case h_3=>simp at ht
 case h_1=>
  simp only[AH]at ht;obtain⟨rfl,rfl⟩:=ht;simp only[PR]at hx;subst hx;exact⟨.tup [],h,F,ρ,.inl (by simp[Ec,hts,hu,DS]),by simp[PR],hr,zu,rfl,rfl,zd _,fun _ _=>.inl rfl⟩
 rename_i id sz off len cap;split at ht
 case h_2=>simp at ht
 rename_i i e' s l hi ho;cases hc:(zi sz s.sz&&zt 0 i.zero.length&&zi i.zero.length s.sz&&Det.IX V.one i.zero)with
 |false=>rw[hc]at ht;simp at ht
 |true=>
  rw[hc]at ht;simp only[zf,DR]at hc;obtain⟨⟨⟨c1,c2⟩,c3⟩,c4⟩:=hc;have c1:=ze c1;have c3:=ze c3;subst c1;simp only[cond_true]at ht;split at ht
  case h_2=>simp at ht
  rename_i z hz;simp only[Bk,decide_eq_true_eq]at ht;obtain⟨k1,rfl,rfl⟩:=ht;obtain⟨b,n,y,h1,h2,⟨bs,fz,rfl,h3,h4,h5⟩,h6,_⟩:=hr.at ho;have hz0:DC F s z i.zero:=B1 (DJ (F:=F) (ρ:=ρ) (N:=st.nx) i.zero) hz;have hrep:=Df.replicate hz0 len;have hsp:=Df.VM h3 hrep (a:=off) (by simpa using k1);rw[List.length_replicate]at hsp;have hlen:(l.take off++(zn len z++l.drop (off+len))).length=l.length:=by simp;omega
  have skip:Ec C.T h ts [x]=some (.tup [],h)→len=0→OK B h0 F ρ st h (DU [.sl id s.sz off len cap]) (DS (Ec C.T h ts [x])) (.tup []) (st.setObj id (.arr false e' s (l.take off++(zn len z++l.drop (off+len))))):=by
   intro hd h0;subst h0;have el:l.take off++(zn 0 z++l.drop (off+0))=l:=by simp
   refine⟨.tup [],h,F,ρ,.inl (by rw[hd];rfl),by simp[PR],hr.same ho h1 h2 rfl rfl (o':=.arr false e' s _) ⟨bs,fz,rfl,?_,h4,?_⟩,zu,rfl,rfl,zd _,fun _ _=>.inl rfl⟩
   ·rw[el];exact h3
   ·rw[el];exact h5
  simp only[PR]at hx;rcases hx.2 b n h1 with⟨_,g6,o,g5,rfl⟩|⟨e0,ek,g6,rfl|⟨off',rfl,_⟩⟩
  ·by_cases h0:len=0
   ·exact skip (by simp[Ec,hts,hu,h0]) h0
   ·have hw:wr h b (off*s.sz) (DH i.zero (len*i.zero.length))=some (h.put b (.cells (BP (off*s.sz) ((zn len i.zero).flatten) bs) e' fz)):=by
     rw[FY];refine KX h2 ?_ h4 ?_
     ·rw[hrep.1,List.length_replicate, ←zo,h3.1];exact zh _ k1
     ·exact hrep.OX
    have b0:zi len 0=false:=by rw[A1];simp[h0]
    refine⟨.tup [],h.put b (.cells (BP (off*s.sz) ((zn len i.zero).flatten) bs) e' fz),F,ρ,.inl ?_,by simp[PR],hr.set ho h1 h2 rfl rfl (o':=.arr false e' s _) ⟨_,fz,rfl,hsp,h4,hlen.trans h5⟩,zu,rfl,rfl,zd _,fun c _=>?_⟩
    ·simp only[Ec,hts,hu,b0,cond_false,hi,c2,cond_true,hw,zF,DS]
    ·rw[H.A0];by_cases e:c=b
     ·exact .inr ⟨id,by simp[DU],n,e▸h1⟩
     ·rw[if_neg e];exact .inl rfl
  ·exact skip (by simp[Ec,hts,hu]) e0
  ·exact skip (by simp[Ec,hts,hu]) e0
theorem YT(hr:SR B h0 F ρ st.nx st.ob h){t:TypeId}{p:PV}{x:V}(hx:PR F ρ st.nx p x){v:PV}(ht:(Rp C.T t p st).To v st'):OK B h0 F ρ st h [] (DS (FX C.T h t x)) v st':=by
 unfold Rp at ht;split at ht
 case h_2=>simp at ht
 rename_i s hu;simp only[AH]at ht;obtain⟨rfl,rfl⟩:=ht;obtain rfl:=EN hx;have hd:FX C.T h t (.str s)=some (.ptr h.nx 0,h.push (.siter s 0)):=by simp[FX,O6,hu]
 rw[hd];exact OK.new hr (o:=.siter s 0) (n:=0) rfl rfl KM
theorem Z8(hr:SR B h0 F ρ st.nx st.ob h){p:PV}{x:V}(hx:PR F ρ st.nx p x){i:Bool}{v:PV}(ht:(WH p i st).To v st'):i=true∧∃id off,p=.ptr id off∧OK B h0 F ρ st h [id] (DS (J1 h x i)) v st':=by
 unfold WH at ht;split at ht
 case h_2=>simp at ht
 rename_i id;split at ht
 case h_2=>simp at ht
 rename_i s pos ho;obtain⟨b,n,y,h1,h2,h3,h6,_⟩:=hr.at ho;simp only[S5]at h3;subst h3;simp only[PR]at hx;obtain rfl:=hx.2 b n h1;refine⟨rfl,id,0,rfl,?_⟩;by_cases hp:pos<s.length
 ·rw[decide_eq_true hp]at ht;cases ht with
  |tt ht=>
   simp only[AH]at ht;obtain⟨rfl,rfl⟩:=ht;have hd:J1 h (.ptr b 0) true=some (.tup [.bool true,i64 pos,.int .i32 (rune s pos)],h.put b (.siter s (pos+HI s pos))):=by
    simp only[J1,h2,Fk,decide_eq_true hp,cond_true];rfl
   refine⟨_,_,F,ρ,.inl (by rw[hd];rfl),?_,hr.set ho h1 h2 rfl rfl (o':=.siter s _) rfl,zu,rfl,rfl,zd _,fun c _=>?_⟩
   ·simp[PR,DC,i64]
   ·rw[H.A0];by_cases e:c=b
    ·exact .inr ⟨id,zc.2 rfl,n,e▸h1⟩
    ·rw[if_neg e];exact .inl rfl
 ·rw[decide_eq_false hp]at ht;cases ht with
  |ff ht=>
   simp only[AH]at ht;obtain⟨rfl,rfl⟩:=ht;refine⟨.tup [.bool false],h,F,ρ,.inl ?_,by simp[PR],hr,zu,rfl,rfl,zd _,fun _ _=>.inl rfl⟩;simp only[J1,h2,Fk,decide_eq_false hp,cond_false,DS]
end
section
variable {B:Nat}{h0:H0}{C:Ctx}{F F1 F':Fz}{ρ:C8}{N:Nat}{st st':AD}{fr:Fr}{h h':H}
def PC(F:Fz)(p:PV)(v:V):Prop:=∀ρ N,PR F ρ N p v
def J8(F:Fz)(ps:List PV)(vs:List V):Prop:=∀ρ N,AW F ρ N ps vs
theorem Le.Uq(hF:∀b cs,F b=some cs→F1 b=some cs):Le F ρ N F1 ρ N:=⟨hF,fun _ _=>.inl rfl,zd _⟩
theorem PC.mono(hF:∀b cs,F b=some cs→F1 b=some cs){p:PV}{v:V}(hp:PC F p v):PC F1 p v:=fun ρ N=>(hp ρ N).mono (Le.Uq hF)
theorem J8.cons{p:PV}{ps:List PV}{v:V}{vs:List V}(h1:PC F p v)(h2:J8 F ps vs):J8 F (p::ps) (v::vs):=fun ρ N=>(AL ..).2 ⟨h1 ρ N,h2 ρ N⟩
theorem J8.dc{s:Sh}{ps:List PV}{vs:List V}{x:s.T}(hp:J8 F ps vs)(hd:Dc s ps=some x):DC F s x vs:=B1 (hp (fun _=>none) 0) hd
theorem PC.Bz:∀ {s:Sh} {x:s.T} {cs:List V},DC F s x cs→(s.MV=true→PC F (Bz s x) (.agg cs))∧(s.MV=false→∀v,cs=[v]→PC F (Bz s x) v)
 | .pair a b,x,cs,h=>⟨fun _ ρ N=>by unfold Pe.Bz PR;exact⟨cs,rfl,Ca h⟩,fun e=>by cases e⟩
 | .unit,x,cs,h=>⟨fun _ ρ N=>by simp only[DC]at h;subst h;unfold Pe.Bz PR;exact⟨[],rfl,by simp⟩,fun e=>by cases e⟩
 | .int _,x,cs,h=>⟨fun e=>(by cases e),fun _ v hv ρ N=>by subst hv;unfold Pe.Bz PR;exact h⟩
 | .bool,x,cs,h=>⟨fun e=>(by cases e),fun _ v hv ρ N=>by subst hv;unfold Pe.Bz PR;exact h⟩
 | .str,x,cs,h=>⟨fun e=>(by cases e),fun _ v hv ρ N=>by subst hv;unfold Pe.Bz PR;exact h⟩
 | .list _,x,cs,h=>⟨fun e=>(by cases e),fun _ v hv ρ N=>by subst hv;unfold Pe.Bz PR;exact h⟩
 | .nlist _,x,cs,h=>⟨fun e=>(by cases e),fun _ v hv ρ N=>by subst hv;unfold Pe.Bz PR;exact h⟩
 | .fnv,x,cs,h=>⟨fun e=>(by cases e),fun _ v hv ρ N=>by
   subst hv;simp only[DC,zr,and_true]at h;subst h;unfold Pe.Bz;cases (x:Option Fn)<;>simp[PR]⟩
theorem SR.cW{ob ob':Ob}(hr:SR B h0 F ρ N ob h)(he:∀j,AF ob' j=AF ob j):SR B h0 F ρ N ob' h:=
 ⟨fun id o ho=>hr.obj id o (he id▸ho),fun id id' o o' b n n' h1 h2=>hr.inj id id' o o' b n n' (he id▸h1) (he id'▸h2),hr.frz,hr.own,fun id hid=>hr.dead id (he id▸hid),hr.old,hr.lt,hr.le,hr.fo,hr.gl,hr.pn⟩
theorem Z4{s:Sh}{l:List s.T}{cs:List V}{b:Nat}(hF:F b=some cs)(hd:Df F s l cs){off len:Nat}(hle:off+len≤l.length){cap o:Nat}(hcap:len≤cap)(ho:o=0∨o=s.sz):
  DC F (.list s) ((l.drop off).take len) [.sl b (off*s.sz) len cap o]:=by
 have hlen:((l.drop off).take len).length=len:=by simp;omega
 simp only[DC];refine⟨_,rfl,.inr ⟨b,off*s.sz,cap,o,cs,by rw[hlen],by rw[hlen];exact hcap,hF,?_,ho,fun i hi=>?_⟩⟩
 ·rw[hlen,hd.1, ←zo];exact zh _ hle
 ·rw[hlen]at hi;have h1:=hd.2 (off+i) (by omega);have e1:((l.drop off).take len)[i]=l[off+i]'(by omega):=by simp
  rw[e1, ←zo];exact h1
theorem I4(st:AD)(p:PV):(A9 st p).nx=st.nx∧(A9 st p).fr=st.fr∧(A9 st p).n=st.n:=by
 unfold A9;split
 ·split<;>exact⟨rfl,rfl,rfl⟩
 ·exact⟨rfl,rfl,rfl⟩
theorem Cx:∀(ps:List PV) (st:AD),(AZ ps st).nx=st.nx∧(AZ ps st).fr=st.fr∧(AZ ps st).n=st.n
 |[],_=>⟨rfl,rfl,rfl⟩
 |p::ps,st=>by
  obtain⟨h1,h2,h3⟩:=Cx ps (A9 st p);obtain⟨g1,g2,g3⟩:=I4 st p;exact⟨h1.trans g1,h2.trans g2,h3.trans g3⟩
theorem Gu:∀(ps qs:List PV) (st:AD),AZ (ps++qs) st=AZ qs (AZ ps st)
 |[],_,_=>rfl
 |p::ps,qs,st=>Gu ps qs (A9 st p)
def CZ:Option Obj→Option Obj→Prop
 |some (.arr _ e s l),o=>∃fz,o=some (.arr fz e s l)
 |a,b=>b=a
theorem CZ.refl(o:Option Obj):CZ o o:=by
 cases o with
 |none=>rfl
 |some o=>cases o<;>first|rfl|exact⟨_,rfl⟩
theorem JO(st:AD)(p:PV)(j:Nat):CZ (st.obj j) ((A9 st p).obj j):=by
 unfold A9;split
 case h_2=>exact CZ.refl _
 split
 case h_2=>exact CZ.refl _
 rename_i id _ _ _ _ _ fz e s l ho;show CZ (AF st.ob j) (AF (CH st.ob id (.arr true e s l)) j);rw[Fl _ _ _ _ (by show(st.obj id).isSome=true;rw[ho];rfl)];split
 ·rename_i e1;subst e1;show CZ (st.obj j) _;rw[ho];exact⟨_,rfl⟩
 ·exact CZ.refl _
theorem WY{st st':AD}(h:∀id,CZ (st.obj id) (st'.obj id))(p:PV):Cm st' p=Cm st p:=by
 unfold Cm;cases p<;>try rfl
 rename_i id sz off len cap;have:=h id;cases ho:st.obj id with
 |none=>rw[ho]at this;simp only[ho,show st'.obj id=none from this]
 |some o=>
  rw[ho]at this;cases o with
  |arr fz e s l=>
   obtain⟨fz',h1⟩:=this;simp only[ho,h1]
  |box _=>simp only[ho,show st'.obj id=_ from this]
  |map _ _ _=>simp only[ho,show st'.obj id=_ from this]
  |siter _ _=>simp only[ho,show st'.obj id=_ from this]
  |lp _ _ _ _ _ _ _ _=>simp only[ho,show st'.obj id=_ from this]
theorem Jr{st st':AD}(h:∀id,CZ (st.obj id) (st'.obj id)):∀ps:List PV,EI st' ps=EI st ps
 |[]=>rfl
 |p::ps=>by unfold EI;rw[WY h p,Jr h ps]
theorem CZ.trans{a b c:Option Obj}(h1:CZ a b)(h2:CZ b c):CZ a c:=by
 cases a with
 |none=>have:b=none:=h1;subst this;exact h2
 |some o=>
  cases o with
  |arr fz e s l=>obtain⟨fz',rfl⟩:=h1;exact h2
  |box _=>have:b=_:=h1;subst this;exact h2
  |map _ _ _=>have:b=_:=h1;subst this;exact h2
  |siter _ _=>have:b=_:=h1;subst this;exact h2
  |lp _ _ _ _ _ _ _ _=>have:b=_:=h1;subst this;exact h2
theorem J3:∀(ps:List PV) (st:AD) (id:Nat),CZ (st.obj id) ((AZ ps st).obj id)
 |[],_,_=>CZ.refl _
 |p::ps,st,id=>(JO st p id).trans (J3 ps (A9 st p) id)
theorem QD{st st':AD}(h:∀id,CZ (st.obj id) (st'.obj id))(s:Sh)(p:PV):GH st' s p=GH st s p:=by
 unfold GH;rw[Jr h]
theorem Jm{st st':AD}(h:∀id,CZ (st.obj id) (st'.obj id)):∀(l:List Sh) (ps:List PV),CA st' l ps=CA st l ps
 |[],[]=>rfl
 |[],_::_=>rfl
 |[a],[p]=>QD h a p
 |[a],[]=>rfl
 |[a],_::_::_=>rfl
 |a::b::l,[]=>rfl
 |a::b::l,p::ps=>by unfold CA;rw[QD h a p,Jm h (b::l) ps]
theorem JP(hr:SR B h0 F ρ st.nx st.ob h){p:PV}{v:V}(hp:PR F ρ st.nx p v):
  ∃F1,SR B h0 F1 ρ (A9 st p).nx (A9 st p).ob h∧(∀b cs,F b=some cs→F1 b=some cs)∧∀x,Cm st p=some (true,x)→PC F1 x v:=by
 have same:∀ {q:PV},(∀x,Cm st q=some (true,x)→PC F x v)→A9 st q=st→∃F1,SR B h0 F1 ρ (A9 st q).nx (A9 st q).ob h∧(∀b cs,F b=some cs→F1 b=some cs)∧∀x,Cm st q=some (true,x)→PC F1 x v:=
  fun h1 h2=>⟨F,by rw[h2];exact hr,fun _ _ h=>h,h1⟩
 cases p with
 |sl id sz off len cap=>
  cases ho:st.obj id with
  |none=>exact same (fun x hx=>by simp[Cm,ho]at hx) (by simp[A9,ho])
  |some o=>
   cases o with
   |box _=>exact same (fun x hx=>by simp[Cm,ho]at hx) (by simp[A9,ho])
   |map _ _ _=>exact same (fun x hx=>by simp[Cm,ho]at hx) (by simp[A9,ho])
   |siter _ _=>exact same (fun x hx=>by simp[Cm,ho]at hx) (by simp[A9,ho])
   |lp _ _ _ _ _ _ _ _=>exact same (fun x hx=>by simp[Cm,ho]at hx) (by simp[A9,ho])
   |arr fz e s l=>
    obtain⟨b,n,x,h1,h2,⟨cs,fz',rfl,h4,h5,h6⟩,h7,h8⟩:=hr.at ho;have hst:A9 st (.sl id sz off len cap)=st.setObj id (.arr true e s l):=by simp[A9,ho]
    have hset:∀j,AF (CH st.ob id (.arr true e s l)) j=if j=id then some (.arr true e s l)else AF st.ob j:=fun j=>Fl _ _ _ _ (by show(st.obj id).isSome=true;rw[ho];rfl)
    have fin:∀ {G:Fz},G b=some cs→(∀b cs,F b=some cs→G b=some cs)→∀x,Cm st (.sl id sz off len cap)=some (true,x)→PC G x v:=by
     intro G hG hFG x hx ρ' N';simp only[Cm,ho]at hx;cases hsz:zi sz s.sz with
     |false=>rw[hsz]at hx;simp at hx
     |true=>
      rw[hsz]at hx;simp only[cond_true,zg,zx,decide_eq_true_eq]at hx;obtain⟨hle,rfl⟩:=hx;have hsz:=ze hsz;subst hsz;unfold PR;simp only[PR]at hp;rcases hp.2 b n h1 with⟨k1,k2,o,k3,rfl⟩|⟨rfl,rfl,k3,rfl|⟨off',rfl,k4⟩⟩
      ·exact Z4 hG (h4.mono hFG) hle k1 k3
      ·simp[DC]
      ·simp only[List.take_zero,DC];refine⟨_,rfl,.inr ⟨b,off',0,0,cs,rfl,zd _,hG,?_,.inl rfl,fun i hi=>by simp at hi⟩⟩;simp only[zR,zq,Nat.add_zero];rw[h4.1];exact zQ k4 (zh _ (by rw[h6];exact k3))
    cases hfz:fz with
    |true=>
     subst hfz;obtain⟨cs',t',fz2,k1,k2⟩:=h8 rfl;cases k1;refine⟨F,?_,fun _ _ h=>h,fin k2 (fun _ _ h=>h)⟩;rw[hst];refine SR.cW hr fun j=>?_
     show AF (CH st.ob id _) j=_;rw[hset];split
     ·rename_i ej;subst ej;exact ho.symm
     ·rfl
    |false=>
     subst hfz;have hFb:F b=none:=h7 rfl;have hmono:∀c cs',F c=some cs'→(fun c=>if c=b then some cs else F c) c=some cs':=by
      intro c cs' hc;have:c≠b:=fun e=>by rw[e,hFb]at hc;cases hc
      simp[this,hc]
     refine⟨fun c=>if c=b then some cs else F c,?_,hmono,fin (by simp) hmono⟩;rw[hst];have hle:Le F ρ st.nx (fun c=>if c=b then some cs else F c) ρ st.nx:=Le.Uq hmono;have get':∀k ok,AF (CH st.ob id (.arr true e s l)) k=some ok→∃o2,AF st.ob k=some o2:=by
      intro k ok hk;rw[hset]at hk;by_cases ek:k=id
      ·exact⟨_,ek▸ho⟩
      ·rw[if_neg ek]at hk;exact⟨ok,hk⟩
     refine⟨fun j oj hj=>?_,fun i j oi oj c m m' hi hj g1 g2=>?_,fun c cs' hc=>?_,hr.own,fun j hj=>?_,hr.old,hr.lt,hr.le,fun c cs' hc=>?_,hr.gl,hr.pn⟩
     ·have hj:AF (CH st.ob id (.arr true e s l)) j=some oj:=hj;rw[hset]at hj;by_cases ej:j=id
      ·subst ej;simp only[if_true,zg]at hj;subst hj;refine⟨b,n,_,h1,h2,⟨cs,fz',rfl,h4.mono hmono,h5,h6⟩,fun e=>(by cases e),fun _=>⟨cs,_,_,rfl,by simp⟩⟩
      ·rw[if_neg ej]at hj;obtain⟨c,m,y,g1,g2,g3,g4,g5⟩:=hr.obj j oj hj;have hne:c≠b:=fun ec=>ej (hr.inj j id oj _ c m n hj ho g1 (ec▸h1))
       exact⟨c,m,y,g1,g2,g3.mono hle,fun e=>by simp[hne,g4 e],fun e=>by obtain⟨a1,a2,a3,a4,a5⟩:=g5 e;exact⟨a1,a2,a3,a4,by simp[hne,a5]⟩⟩
     ·obtain⟨_,k1⟩:=get' i oi hi;obtain⟨_,k2⟩:=get' j oj hj;exact hr.inj i j _ _ c m m' k1 k2 g1 g2
     ·split at hc
      ·rename_i ec;cases hc;subst ec;exact⟨_,_,h2⟩
      ·exact hr.frz c cs' hc
     ·have hj:AF (CH st.ob id (.arr true e s l)) j=none:=hj;rw[hset]at hj;split at hj
      ·cases hj
      ·exact hr.dead j hj
     ·split at hc
      ·rename_i ec;subst ec;exact .inr (hr.own id c n h1).2
      ·exact hr.fo c cs' hc
 |dat s x=>exact same (fun y hy ρ' N'=>by simp only[Cm,zg,zx,true_and]at hy;subst hy;unfold PR at hp ⊢;exact hp) rfl
 |bl b=>exact same (fun y hy ρ' N'=>by simp only[Cm,zg,zx,true_and]at hy;subst hy;unfold PR at hp ⊢;exact hp) rfl
 |nil=>exact same (fun y hy ρ' N'=>by simp only[Cm,zg,zx,true_and]at hy;subst hy;unfold PR at hp ⊢;exact hp) rfl
 |any|ub|yl _|nilp|nilm|nilf|nili|agg _|tup _|ptr _ _|eptr _ _ _ _|dptr _ _ _|mp _|fn _ _ _=>exact same (fun x hx=>by simp[Cm]at hx) rfl
theorem F8:∀ {ps:List PV} {vs:List V} {st:AD} {F:Fz},SR B h0 F ρ st.nx st.ob h→AW F ρ st.nx ps vs→
  ∃F1,SR B h0 F1 ρ (AZ ps st).nx (AZ ps st).ob h∧(∀b cs,F b=some cs→F1 b=some cs)∧∀xs,EI st ps=some (true,xs)→J8 F1 xs vs
 |[],vs,st,F,hr,hp=>⟨F,hr,fun _ _ h=>h,fun xs hx=>by
  cases hx;have hv:vs=[]:=by simpa using hp
  subst hv;intro ρ' N';simp⟩
 |p::ps,vs,st,F,hr,hp=>by
  simp only[AW]at hp;obtain⟨v,vs,rfl,h1,h2⟩:=hp;obtain⟨F1,g1,g2,g3⟩:=JP hr h1;have h2':AW F1 ρ (A9 st p).nx ps vs:=by rw[(I4 st p).1];exact h2.mono (Le.Uq g2)
  obtain⟨F2,k1,k2,k3⟩:=F8 g1 h2';refine⟨F2,k1,fun b cs hb=>k2 b cs (g2 b cs hb),fun xs hx=>?_⟩;unfold EI at hx;split at hx
  case h_2=>cases hx
  rename_i c x d xs' e1 e2;simp only[zg,zx,zf]at hx;obtain⟨⟨rfl,rfl⟩,rfl⟩:=hx;exact J8.cons ((g3 x e1).mono k2) (k3 xs' (by rw[Jr (JO st p)];exact e2))
theorem Wg(hr:SR B h0 F ρ st.nx st.ob h){t:TypeId}{n:Nat}{l:List (Nat×PV)}{l':List (Nat×V)}(hl:ZH F ρ st.nx l l'){v:PV}(ht:(OD C.T t n l st).To v st'):OK B h0 F ρ st h [] (DS (Du C.T h t n l')) v st':=by
 unfold OD at ht;split at ht
 case h_2=>simp at ht
 rename_i e hu;split at ht
 case h_2=>simp at ht
 rename_i i s hi hs;cases hc:(zp (Nat.mul n i.size) 16777216&&zt 0 i.zero.length&&zi i.zero.length i.size&&zi i.size s.sz)with
 |false=>rw[hc]at ht;simp at ht
 |true=>
  rw[hc]at ht;simp only[zf]at hc;obtain⟨⟨⟨c1,c2⟩,c3⟩,c4⟩:=hc;simp only[cond_true]at ht;split at ht
  case h_2=>simp at ht
  rename_i cs hcs;split at ht
  case h_2=>
   split at ht
   case h_2=>simp at ht
   rename_i c cs' hb;split at ht
   case h_2=>simp at ht
   rename_i el hel;simp only[Bk]at ht;obtain⟨rfl,rfl,rfl⟩:=ht;have e3:=ze c3;have e4:=ze c4;have hz:AW F ρ st.nx (HX (i.zero.map Sb) n) (DH i.zero (n*i.size)):=by
    rw[←e3,FY];exact HY _ _
   obtain⟨ys,g1,g2⟩:=G4 hr hl hz hcs;have hlen:ys.length=n*s.sz:=by
    rw[←e4];rw[JJ g1];simp[DH]
   obtain⟨F1,j1,j2,j3⟩:=F8 hr g2;obtain⟨k1,k2⟩:=GX (j3 cs' hb ρ st.nx) hel hlen;have hd:Du C.T h t n l'=some (.sl h.nx 0 n n 0,h.push (.cells ys e (0,0))):=by
    have c1':zp (n*i.size) 16777216=true:=c1;simp only[Du,hu,hi,c1',c2,c3,zU,cond_true,g1,GD]
   rw[hd];obtain⟨f1,f2,f3⟩:=Cx cs st;have res:=OK.new (F:=F1) (ρ:=ρ) (st:=AZ cs st) j1 (o:=.arr false e s el) (x:=.cells ys e (0,0)) (n:=n) (v:=.sl (AZ cs st).nx s.sz 0 n none) (v':=.sl h.nx 0 n n 0) rfl ⟨_,_,rfl,k2.mono (fun _ _ h=>h),zd _,k1⟩ (KU (.inl rfl));obtain⟨v',h',F',ρ',q1,q2,q3,q4,q5,q6,q7,q8⟩:=res;rw[f1]at q2;exact⟨v',h',F',ρ',q1,q2,q3,(by rw[f1]at q4;exact(Le.Uq j2).trans q4),q5.trans f2,q6.trans f3,q7,q8⟩
  rename_i el hel;simp only[AH]at ht;obtain⟨rfl,rfl⟩:=ht;have e3:=ze c3;have e4:=ze c4;have hz:AW F ρ st.nx (HX (i.zero.map Sb) n) (DH i.zero (n*i.size)):=by
   rw[←e3,FY];exact HY _ _
  obtain⟨ys,g1,g2⟩:=G4 hr hl hz hcs;have hlen:ys.length=n*s.sz:=by
   rw[←e4];rw[JJ g1];simp[DH]
  obtain⟨k1,k2⟩:=GX g2 hel hlen;have hd:Du C.T h t n l'=some (.sl h.nx 0 n n 0,h.push (.cells ys e (0,0))):=by
   have c1':zp (n*i.size) 16777216=true:=c1;simp only[Du,hu,hi,c1',c2,c3,zU,cond_true,g1,GD]
  rw[hd];exact OK.new hr (o:=.arr false e s el) (n:=n) rfl ⟨_,_,rfl,k2.mono (fun _ _ h=>h),zd _,k1⟩ (KU (.inl rfl))
end
section
variable {B:Nat}{h0:H0}{F:Fz}{ρ:C8}{N:Nat}{C:Ctx}{st st':AD}{fr:Fr}{h h':H}
theorem CX{x:Operand}{k:PV→PO}{v:PV}:(v1 st x k).To v st'↔∃p,M0 st x=some p∧(k p).To v st':=by
 unfold v1;cases M0 st x with
 |none=>simp
 |some p=>simp
theorem VU(hf:FP F ρ N st fr){x:Option Operand}{k:Option PV→PO}{v:PV}(ht:(o1 st x k).To v st'):∃p y,QI C fr x=some y∧Pf F ρ N p y∧(k p).To v st':=by
 unfold o1 at ht;cases x with
 |none=>exact⟨none,none,rfl,rfl,ht⟩
 |some x=>
  obtain⟨p,h1,h2⟩:=CX.1 ht;obtain⟨y,g1,g2⟩:=BM (C:=C) hf h1;exact⟨some p,some y,by simp[QI,g1],⟨y,rfl,g2⟩,h2⟩
theorem TY(hr:SR B h0 F ρ st.nx st.ob h){b:Builtin}{ts:Array TypeId}{ps:List PV}{xs:List V}(hx:AW F ρ st.nx ps xs){v:PV}(ht:(Gt C.T b ts ps st).To v st'):
  OK B h0 F ρ st h (match b with| .append| .clear=>DU ps|_=>[]) (C1 C h b ts xs) v st':=by
 unfold Gt at ht;split at ht
 case h_6=>simp at ht
 case h_5=>exact YY hr hx ht
 case h_1=>exact dM hr hx ht
 case h_2=>exact WI hr hx ht
 case h_3=>exact cX (g:=Vr) hr (fun k x y=>by simp[Vr,imax]) hx ht
 case h_4=>exact cX (g:=UW) hr (fun k x y=>by simp[UW,Dr]) hx ht
theorem Xd(hr:Rel B h0 F ρ st fr h){o:Oper}{v:PV}(ht:(pop o.op C.T st).To v st'):
  ∃tch,OK B h0 F ρ st h tch (EP C fr h o) v st'∧∀sp ids,EZ sp st o.op=some ids→∀i∈tch,i∈ids:=by
 have nil:∀ {d:Option OR} {op:Op},OK B h0 F ρ st h [] d v st'→∃tch,OK B h0 F ρ st h tch d v st'∧∀sp ids,EZ sp st op=some ids→∀i∈tch,i∈ids:=fun h=>⟨[],h,fun _ _ _ i hi=>by cases hi⟩
 have ev1:∀ {x p},M0 st x=some p→∃y,ev C fr x=some y∧PR F ρ st.nx p y:=fun hp=>BM hr.fp hp
 unfold pop at ht;rw[Ch];unfold Fb;cases hop:o.op<;>rw[hop]at ht<;>simp only[HA,Jt]at ht<;>simp only
 case move x|assign x=>
  simp only[QS,K3]at ht;obtain⟨h1,rfl⟩:=ht;obtain⟨y,g1,g2⟩:=ev1 h1;refine nil ?_;rw[g1];exact zw hr.sr rfl g2
 case pick c a b=>
  simp only[VF,CX]at ht;obtain⟨p,h1,q,h2,r,h3,ht⟩:=ht;obtain⟨x,g1,g2⟩:=ev1 h1;obtain⟨y,g3,g4⟩:=ev1 h2;obtain⟨z,g5,g6⟩:=ev1 h3;obtain⟨t,rfl,hk⟩:=ZC hr.sr g2 g4 g6 ht;refine nil ?_;rw[g1];simp only;cases t
  ·simpa [g5]using hk
  ·simpa [g3]using hk
 case alloc t=>exact nil (YG hr.sr ht)
 case box t x=>
  simp only[Zn,CX]at ht;obtain⟨p,h1,ht⟩:=ht;obtain⟨y,g1,g2⟩:=ev1 h1;split at ht
  case h_2=>simp at ht
  rename_i cs hcs;cases hs:Det.IX (HH st) cs with
  |false=>rw[hs]at ht;simp at ht
  |true=>
  rw[hs]at ht;simp only[cond_true,AH]at ht;obtain⟨rfl,rfl⟩:=ht;refine nil ?_;rw[g1];exact dJ hr.sr g2 hcs (by rw[←DR];exact hs)
 case build t ps=>
  simp only[Sf]at ht;split at ht
  case h_2=>simp at ht
  rename_i l hl;obtain⟨l',g1,g2⟩:=MD (C:=C) hr.fp hl;refine nil ?_;rw[g1];exact XY hr.sr g2 ht
 case buildSlice t n ps=>
  simp only[Qs]at ht;split at ht
  case h_2=>simp at ht
  rename_i l hl;obtain⟨l',g1,g2⟩:=MD (C:=C) hr.fp hl;refine nil ?_;rw[g1];exact Wg hr.sr g2 ht
 case load t x=>
  simp only[Vj,CX]at ht;obtain⟨p,h1,ht⟩:=ht;obtain⟨y,g1,g2⟩:=ev1 h1;refine nil ?_;rw[g1];exact WD hr.sr g2 ht
 case store t x y=>
  simp only[Ta,CX]at ht;obtain⟨p,h1,q,h2,ht⟩:=ht;obtain⟨a,g1,g2⟩:=ev1 h1;obtain⟨b,g3,g4⟩:=ev1 h2;obtain⟨id,hid,hk⟩:=W2 hr.sr g2 g4 ht;refine⟨[id],by rw[g1,g3];exact hk,fun sp ids hids=>?_⟩;simp only[EZ,h1]at hids;rcases hid with⟨off,rfl⟩|⟨sz,j,off,rfl⟩<;>(simp only[zg]at hids;subst hids;intro i hi;exact hi)
 case nilCheck x=>
  simp only[K5,CX]at ht;obtain⟨p,h1,ht⟩:=ht;obtain⟨y,g1,g2⟩:=ev1 h1;rw[g1];split at ht
  case h_4=>simp at ht
  case h_1=>
   rename_i id off;cases hl:Kp (st.obj id)with
   |false=>rw[hl]at ht;simp at ht
   |true=>
    rw[hl]at ht;simp only[cond_true,AH]at ht;obtain⟨rfl,rfl⟩:=ht;obtain⟨b,n,k1⟩:=hr.sr.live hl;have g2':=g2;simp only[PR]at g2';obtain rfl:=g2'.2 b n k1;exact nil (zw hr.sr rfl g2)
  case h_2=>
   rename_i id sz j off;cases hl:Kp (st.obj id)with
   |false=>rw[hl]at ht;simp at ht
   |true=>
    rw[hl]at ht;simp only[cond_true,AH]at ht;obtain⟨rfl,rfl⟩:=ht;obtain⟨b,n,k1⟩:=hr.sr.live hl;have g2':=g2;simp only[PR]at g2';obtain rfl:=g2'.2 b n k1;exact nil (zw hr.sr rfl g2)
  case h_3=>
   simp only[AH]at ht;obtain⟨rfl,rfl⟩:=ht;have g2':=g2;simp only[PR]at g2';obtain⟨b,o',cs,rfl,_⟩:=g2';exact nil (zw hr.sr rfl g2)
 case binOp op t x y t2=>
  simp only[Zh,CX]at ht;obtain⟨p,h1,q,h2,ht⟩:=ht;obtain⟨a,g1,g2⟩:=ev1 h1;obtain⟨b,g3,g4⟩:=ev1 h2;refine nil ?_;rw[g1,g3];split at ht
  case h_2=>exact cP hr.sr g2 g4 ht
  rename_i r hn;simp only[AH]at ht;obtain⟨rfl,rfl⟩:=ht;unfold Y0 at hn;split at hn
  case h_3=>cases hn
  all_goals
   rename_i m hu;cases hc:(SW x||SW y)with
   |false=>rw[hc]at hn;cases hn
   |true=>
    rw[hc]at hn;cases hn;simp only[PR]at g2 g4;subst g2 g4;exact zw hr.sr (by simp only[Ka,XB,hu,hc,cond_true,A6]) (Iv _)
 case unOp op t x=>
  simp only[cQ,CX]at ht;obtain⟨p,h1,ht⟩:=ht;obtain⟨y,g1,g2⟩:=ev1 h1;refine nil ?_;rw[g1];exact eJ hr.sr g2 ht
 case convert s d x=>
  simp only[UX,CX]at ht;obtain⟨p,h1,ht⟩:=ht;obtain⟨y,g1,g2⟩:=ev1 h1;refine nil ?_;rw[g1];exact Z3 hr.sr g2 ht
 case makeFunc f a b=>
  simp only[VQ]at ht;split at ht
  case h_2=>simp at ht
  rename_i x y hx hy;simp only[AH]at ht;obtain⟨rfl,rfl⟩:=ht;obtain⟨u,g1,g2⟩:=Dw (C:=C) hr.fp hx;obtain⟨w,g3,g4⟩:=Dw (C:=C) hr.fp hy;refine nil ?_;rw[g1,g3];exact zw hr.sr rfl (by unfold PR;exact⟨_,_,rfl,g2,g4⟩)
 case makeMap t r=>
  simp only[S7]at ht;split at ht
  case h_2=>simp at ht
  refine nil ?_;exact XR hr.sr ht
 case lookup t x i ok=>
  simp only[P6,CX]at ht;obtain⟨p,h1,q,h2,ht⟩:=ht;obtain⟨a,g1,g2⟩:=ev1 h1;obtain⟨b,g3,g4⟩:=ev1 h2;refine nil ?_;rw[g1,g3];exact V1 hr.sr g2 g4 ht
 case mapUpdate t m k x|insert t m k x=>
  simp only[MA,CX]at ht;obtain⟨p,h1,q,h2,r,h3,ht⟩:=ht;obtain⟨a,g1,g2⟩:=ev1 h1;obtain⟨b,g3,g4⟩:=ev1 h2;obtain⟨c,g5,g6⟩:=ev1 h3;obtain⟨id,rfl,hk⟩:=WW hr.sr g2 g4 g6 ht;refine⟨[id],by rw[g1,g3,g5];exact hk,fun sp ids hids=>?_⟩;simp only[EZ,h1,zg]at hids;subst hids;intro i hi;exact hi
 case makeSlice t l c=>
  simp only[Vg,CX]at ht;obtain⟨p,h1,q,h2,ht⟩:=ht;obtain⟨a,g1,g2⟩:=ev1 h1;obtain⟨b,g3,g4⟩:=ev1 h2;refine nil ?_;rw[g1,g3];exact ZV hr.sr g2 g4 ht
 case slice t x lo hi mx=>
  simp only[SS,CX]at ht;obtain⟨p,h1,ht⟩:=ht;obtain⟨a,g1,g2⟩:=ev1 h1;obtain⟨l,l',k1,k2,ht⟩:=VU (C:=C) hr.fp ht;obtain⟨m,m',k3,k4,ht⟩:=VU (C:=C) hr.fp ht;obtain⟨n,n',k5,k6,ht⟩:=VU (C:=C) hr.fp ht;refine nil ?_;rw[g1,k1,k3,k5];exact YK hr.sr g2 k2 k4 k6 ht
 case fieldAddr t x f=>
  simp only[Sx,CX]at ht;obtain⟨p,h1,ht⟩:=ht;obtain⟨y,g1,g2⟩:=ev1 h1;refine nil ?_;rw[g1];exact XN hr.sr g2 ht
 case field t x f=>
  simp only[SI,CX]at ht;obtain⟨p,h1,ht⟩:=ht;obtain⟨y,g1,g2⟩:=ev1 h1;refine nil ?_;rw[g1];exact Yh hr.sr g2 ht
 case indexAddr t x i=>
  simp only[SA,CX]at ht;obtain⟨p,h1,q,h2,ht⟩:=ht;obtain⟨a,g1,g2⟩:=ev1 h1;obtain⟨b,g3,g4⟩:=ev1 h2;refine nil ?_;rw[g1,g3];exact XU hr.sr g2 g4 ht
 case index t x i=>
  simp only[Ti,CX]at ht;obtain⟨p,h1,q,h2,ht⟩:=ht;obtain⟨a,g1,g2⟩:=ev1 h1;obtain⟨b,g3,g4⟩:=ev1 h2;refine nil ?_;rw[g1,g3];exact W4 hr.sr g2 g4 ht
 case extract x i=>
  simp only[Nv,CX]at ht;obtain⟨p,h1,ht⟩:=ht;obtain⟨y,g1,g2⟩:=ev1 h1;refine nil ?_;rw[g1];exact Tm hr.sr g2 ht
 case range t x=>
  simp only[Di,CX]at ht;obtain⟨p,h1,ht⟩:=ht;obtain⟨y,g1,g2⟩:=ev1 h1;refine nil ?_;rw[g1];exact YT hr.sr g2 ht
 case next x i=>
  simp only[Vs,CX]at ht;obtain⟨p,h1,ht⟩:=ht;obtain⟨y,g1,g2⟩:=ev1 h1;obtain⟨rfl,id,off,rfl,hk⟩:=Z8 hr.sr g2 ht;refine⟨[id],by rw[g1];exact hk,fun sp ids hids=>?_⟩;simp only[EZ]at hids;cases hids
 case call c=>
  simp only[N6]at ht;split at ht
  case h_1=>simp at ht
  rename_i args hargs;obtain⟨args',g1,g2⟩:=Dw (C:=C) hr.fp hargs;split at ht
  case h_2=>simp at ht
  case h_1=>
   rename_i b hb;split at ht
   case h_1=>
    obtain⟨id,qs,rfl,hk⟩:=V0 hr.sr g2 ht;refine⟨[id],by rw[hb,g1];exact hk,fun sp ids hids=>?_⟩;simp only[EZ,hb,hargs,zg]at hids;subst hids;intro i hi;exact hi
   case h_2=>
   have:=TY hr.sr g2 ht;refine⟨_,by rw[hb,g1];exact this,fun sp ids hids=>?_⟩;simp only[EZ,hb,hargs]at hids;cases b<;>simp only at hids ⊢<;>try (first|(intro i hi;cases hi;done)|(cases hids;done))
   case append=>
    cases args with
    |nil=>simp[DU]
    |cons p ps=>cases p<;>simp only[zg]at hids<;>subst hids<;>(intro i hi;exact hi)
end
section
variable {B:Nat}{h0:H0}{F:Fz}{ρ:C8}{N:Nat}{X:A2}{st st':AD}{fr:Fr}{h h':H}{Q:PV→Ob→Prop}{n:Nat}
@[simp] theorem Ci(st:AD)(t:Nat)(p:PV)(s:Nat):(st.set t p).get s=if s=t then p else st.get s:=by
 unfold AD.get AD.set;simp only[PM.Ci];split<;>rfl
theorem Rel.set(hr:Rel B h0 F ρ st fr h){t:Nat}{p:PV}{x:V}(hp:PR F ρ st.nx p x):Rel B h0 F ρ (st.set t p) ⟨fr.n,fr.m.set t (some x)⟩ h:=by
 refine⟨⟨hr.fp.n,fun s=>?_⟩,hr.sr⟩;rw[Ci];unfold Fr.get;simp only[PM.Ci];split
 ·exact hp
 ·exact hr.fp.slot s
theorem Rel.note(hr:Rel B h0 F ρ st fr h){t:Nat}{p:PV}(hp:PR F ρ st.nx p (fr.get t)):Rel B h0 F ρ (st.set t p) fr h:=by
 refine⟨⟨hr.fp.n,fun s=>?_⟩,hr.sr⟩;rw[Ci];split
 ·rename_i e;subst e;exact hp
 ·exact hr.fp.slot s
theorem Rel.put(hr:Rel B h0 F ρ st fr h){d:Option Nat}{p:PV}{x:V}(hp:PR F ρ st.nx p x)(hd:st.put d p=some st'):∃fr',fr.put d x=some fr'∧Rel B h0 F ρ st' fr' h∧st'.nx=st.nx∧st'.ob=st.ob:=by
 unfold AD.put at hd;unfold Fr.put;cases d with
 |none=>cases hd;exact⟨fr,rfl,hr,rfl,rfl⟩
 |some t=>
  simp only at hd ⊢;have hn:st.n=fr.n:=hr.fp.n;rw[hn]at hd;cases hb:zt t fr.n with
  |false=>rw[hb]at hd;cases hd
  |true=>
   rw[hb]at hd;simp only[cond_true,zg]at hd;subst hd;exact⟨_,rfl,hr.set hp,rfl,rfl⟩
structure Cu(B:Nat)(h0:H0)(F:Fz)(ρ:C8)(N:Nat)(h:H)(st':AD)(fr':Fr)(h':H)(F':Fz)(ρ':C8):Prop where
 rel:Rel B h0 F' ρ' st' fr' h'
 le:Le F ρ N F' ρ' st'.nx
 nx:h.nx≤h'.nx
theorem Cu.refl(hr:Rel B h0 F ρ st fr h):Cu B h0 F ρ st.nx h st fr h F ρ:=⟨hr,zu,zd _⟩
theorem Cu.trans{F' F'':Fz}{ρ' ρ'':C8}{st'':AD}{fr' fr'':Fr}{h'':H}(a:Cu B h0 F ρ N h st' fr' h' F' ρ')(b:Cu B h0 F' ρ' st'.nx h' st'' fr'' h'' F'' ρ''):Cu B h0 F ρ N h st'' fr'' h'' F'' ρ'':=
 ⟨b.rel,a.le.trans b.le,zQ a.nx b.nx⟩
def cE(X:A2)(ρ:C8)(h:H)(args':List V):bE→Cl→Prop
 | .fn g,c=>c=.fn g args'∧X.C.prim g=none∧∃i,X.C.fn g=some i
 | .rnd id,c=>∃b n ls,ρ id=some (b,n)∧h.get b=some (.loop ls)∧args'.length=ls.ps.size∧c=.rnd b ls (Ew ls.ps.toList args' ls.fr)
inductive JY (X:A2) (ρ:C8) (h:H) (args':List V):bE→List (V×H)→Prop where
 |AY {g:bE} {c:Cl} {l:List (V×H)} {M:Nat}:cE X ρ h args' g c→(∀m,M≤m→Det.AY X.C m c h=some l)→JY X ρ h args' g l
 |prim {g:FuncId} {q:List V→H→Option (V×H)} {x:V×H}:X.C.prim g=some q→q args' h=some x→JY X ρ h args' (.fn g) [x]
def DO(B:Nat)(h0:H0)(X:A2)(nd:Bool)(call:D6):Prop:=
 ∀ {Q:PV→Ob→Prop} {n:Nat} {g:bE} {args:List PV} {st:AD} {k:PV→AD→Tr},Ev X Q n (call g args st k)→∀ {F:Fz} {ρ:C8} {fr:Fr} {h:H} {args':List V},Rel B h0 F ρ st fr h→AW F ρ st.nx args args'→
  ∃l,JY X ρ h args' g l∧(nd=false→∃x,l=[x])∧
   ∀x∈l,∃n',n'≤n∧∃r st',Ev X Q n' (k r st')∧∃F' ρ',PR F' ρ' st'.nx r x.1∧Cu B h0 F ρ st.nx h st' fr x.2 F' ρ'∧(∀gg,g=.fn gg→∀sp,X.sp gg=some sp→∀b,b<h.nx→x.2.get b=h.get b)
theorem Ev.Dt{c:Bool}{a b:Tr}(he:Ev X Q n (.ite c a b)):(c=true∧Ev X Q n a)∨(c=false∧Ev X Q n b):=by
 cases he with
 |ite h1 h2=>
  cases c with
  |true=>exact .inl ⟨rfl,h1 rfl⟩
  |false=>exact .inr ⟨rfl,h2 rfl⟩
theorem Ev.PI{a b:Tr}(he:Ev X Q n (.both a b)):Ev X Q n a∧Ev X Q n b:=by
 cases he with
 |both h1 h2=>exact⟨h1,h2⟩
theorem Ev.Aw:¬Ev X Q n .fail:=fun h=>by cases h
theorem Ev.RU{v:PV}{ob:Ob}(he:Ev X Q n (.leaf v ob)):Q v ob:=by
 cases he with
 |leaf h=>exact h
theorem J7(hr:Rel B h0 F ρ st fr h){ops:Array Oper}{o:Oper}{yes no:AD→Tr}(he:Ev X Q n (guarded ops o st yes no)):
  ∃st1,Rel B h0 F ρ st1 fr h∧st1.nx=st.nx∧st1.ob=st.ob∧((AR fr ops o=true∧Ev X Q n (yes st1))∨(AR fr ops o=false∧Ev X Q n (no st1))):=by
 unfold guarded at he;unfold AR;cases hg:o.guard with
 |none=>rw[hg]at he;exact⟨st,hr,rfl,rfl,.inl ⟨rfl,he⟩⟩
 |some jw=>
  obtain⟨j,want⟩:=jw;rw[hg]at he;simp only at he ⊢;cases hb:(ops[j]?).bind (·.dst)with
  |none=>rw[hb]at he;exact absurd he Ev.Aw
  |some t=>
   rw[hb]at he;simp only at he ⊢;rw[show st.n=fr.n from hr.fp.n]at he;cases hlt:zt t fr.n with
   |false=>rw[hlt]at he;exact absurd he Ev.Aw
   |true=>
    rw[hlt]at he;simp only[cond_true]at he ⊢;have hs:=hr.fp.slot t;split at he
    case h_1=>
     rename_i b hb2;rw[hb2]at hs;rw[LG hs];refine⟨st,hr,rfl,rfl,?_⟩;cases hbw:(b==want)with
     |true=>rw[hbw]at he;exact .inl ⟨hbw,he⟩
     |false=>rw[hbw]at he;exact .inr ⟨hbw,he⟩
    case h_2=>
     rename_i b hb2;rw[hb2]at hs;have hv:=Fs hs;have note:∀c:Bool,b=c→Rel B h0 F ρ (st.set t (.bl c)) fr h:=by
      rintro c rfl;exact hr.note (by rw[hv];exact Iv _)
     rw[hv];cases want with
     |true=>
      simp only[cond_true]at he;rcases he.Dt with⟨hb3,he⟩|⟨hb3,he⟩
      ·exact⟨_,note true hb3,rfl,rfl,.inl ⟨by rw[show b=true from hb3];rfl,he⟩⟩
      ·exact⟨_,note false hb3,rfl,rfl,.inr ⟨by rw[show b=false from hb3];rfl,he⟩⟩
     |false=>
      simp only[cond_false]at he;rcases he.Dt with⟨hb3,he⟩|⟨hb3,he⟩
      ·exact⟨_,note true hb3,rfl,rfl,.inr ⟨by rw[show b=true from hb3];rfl,he⟩⟩
      ·exact⟨_,note false hb3,rfl,rfl,.inl ⟨by rw[show b=false from hb3];rfl,he⟩⟩
    case h_5=>exact absurd he Ev.Aw
    case h_4=>
     rename_i hb2;rw[hb2]at hs;simp only[PR]at hs;obtain⟨b,hv⟩:=hs;have note:∀c:Bool,b=c→Rel B h0 F ρ (st.set t (.bl c)) fr h:=by
      rintro c rfl;exact hr.note (by rw[hv];exact Iv _)
     obtain⟨he1,he2⟩:=he.PI;rw[hv];cases b with
     |true=>
      cases want with
      |true=>exact⟨_,note true rfl,rfl,rfl,.inl ⟨rfl,he1⟩⟩
      |false=>exact⟨_,note true rfl,rfl,rfl,.inr ⟨rfl,he1⟩⟩
     |false=>
      cases want with
      |true=>exact⟨_,note false rfl,rfl,rfl,.inr ⟨rfl,he2⟩⟩
      |false=>exact⟨_,note false rfl,rfl,rfl,.inl ⟨rfl,he2⟩⟩
    case h_3=>
     rename_i l hb2;rw[hb2]at hs;simp only[PR]at hs;obtain⟨cs,hv,_⟩:=hs;rw[hv];exact⟨st,hr,rfl,rfl,.inr ⟨rfl,he⟩⟩
theorem GS{d:Option Nat}{k:AD→Tr}:∀ {po:PO},Ev X Q n (KY d k po)→∃u s st1,po.To u s∧s.put d u=some st1∧Ev X Q n (k st1)
 | .bad,he=>absurd he Ev.Aw
 | .val u s,he=>by
  simp only[KY]at he;split at he
  ·rename_i s1 hs;exact⟨u,s,s1,.val,hs,he⟩
  ·exact absurd he Ev.Aw
 | .ite c a b,he=>by
  simp only[KY]at he;rcases he.Dt with⟨rfl,he2⟩|⟨rfl,he2⟩
  ·obtain⟨u,s,s1,h1,h2⟩:=GS he2;exact⟨u,s,s1,.tt h1,h2⟩
  ·obtain⟨u,s,s1,h1,h2⟩:=GS he2;exact⟨u,s,s1,.ff h1,h2⟩
inductive XA (X:A2) (fr:Fr) (h:H) (o:Oper):List (V×H)→Prop where
 |val {x:V} {h':H}:EP X.C fr h o=some (.val x h')→XA X fr h o [(x,h')]
 |skip {h':H}:EP X.C fr h o=some (.skip h')→XA X fr h o [(.tup [],h')]
 |alts {l:List (V×H)}:EP X.C fr h o=some (.alts l)→XA X fr h o l
 |call {g:FuncId} {args:List V} {l:List (V×H)} {M:Nat}:EP X.C fr h o=some (.enter g args)→(∀m,M≤m→AY X.C m (.fn g args) h=some l)→XA X fr h o l
 |round {b:Nat} {ls:LS} {f:Fr} {l:List (V×H)} {M:Nat}:EP X.C fr h o=some (.round b ls f)→(∀m,M≤m→AY X.C m (.rnd b ls f) h=some l)→XA X fr h o l
theorem FI{nd:Bool}{call:D6}(hcall:DO B h0 X nd call)(hr:Rel B h0 F ρ st fr h){o:Oper}{k:AD→Tr}(he:Ev X Q n (FR X.C.T call o st k)):
  ∃l,XA X fr h o l∧((nd=false→(∃x,l=[x])∧∀l',EP X.C fr h o≠some (.alts l'))∧((∀id a,HT st o.op≠ .yes (.rnd id) a)→∀b ls f,EP X.C fr h o≠some (.round b ls f)))∧∀x∈l,∃n',n'≤n∧∃st1,Ev X Q n' (k st1)∧∃F' ρ' fr',fr.put o.dst x.1=some fr'∧Cu B h0 F ρ st.nx h st1 fr' x.2 F' ρ'∧
   ∀ids,EZ X.sp st o.op=some ids→∀b,b<h.nx→x.2.get b=h.get b∨∃id∈ids,∃m,ρ id=some (b,m):=by
 unfold FR at he;split at he
 case h_2=>exact absurd he Ev.Aw
 case h_1=>
  rename_i g args hc;unfold HT at hc;split at hc
  case h_2=>cases hc
  rename_i c hop;split at hc
  case h_2=>cases hc
  rename_i f hcal;split at hc
  case h_3=>cases hc
  case h_2=>
   rename_i id ps hf hps;cases hc;obtain⟨fv,f1,f2⟩:=BM (C:=X.C) hr.fp hf;obtain⟨av,a1,a2⟩:=Dw (C:=X.C) hr.fp hps;simp only[PR]at f2;obtain⟨l,hcd,hnd,hall⟩:=hcall he hr a2;obtain⟨hcd1,hM⟩:=hcd;obtain⟨b,m,ls,c1,c2,c3,rfl⟩:=hcd1;obtain rfl:=f2.2 b m c1;have hdop:EP X.C fr h o=some (.round b ls (Ew ls.ps.toList av ls.fr)):=by
    rw[Ch];unfold Fb;have hb:zi av.length ls.ps.size=true:=by rw[c3];exact zG _
    simp only[hop,hcal,a1,f1,IZ,c2,hb,cond_true]
   refine⟨l,.round hdop hM,⟨fun e=>⟨hnd e,fun l'=>by rw[hdop];intro h;cases h⟩,fun hno=>?_⟩,fun x hx=>?_⟩
   ·exact absurd (by unfold HT;simp only[hop,hcal,hf,hps]) (hno id args)
   obtain⟨n',hn,r,st',he',F',ρ',hp,hw,hsp⟩:=hall x hx;split at he'
   case h_2=>exact absurd he' Ev.Aw
   rename_i st1 hput;obtain⟨fr',g1,g2,g3,g4⟩:=hw.rel.put hp hput;refine⟨n',hn,st1,he',F',ρ',fr',g1,⟨g2,by rw[g3];exact hw.le,hw.nx⟩,fun ids hids b hb=>?_⟩;simp only[hop,EZ,hcal,hf]at hids;cases hids
  rename_i g' first cap ps hf hps
  cases hc;obtain⟨fv,f1,f2⟩:=BM (C:=X.C) hr.fp hf;obtain⟨av,a1,a2⟩:=Dw (C:=X.C) hr.fp hps;simp only[PR]at f2;obtain⟨fa,fb,rfl,f3,f4⟩:=f2;have hargs:AW F ρ st.nx (first++ps++cap) (fa++av++fb):=(f3.append a2).append f4;obtain⟨l,hcd,hnd,hall⟩:=hcall he hr hargs;have hdid:XA X fr h o l∧(∀l',EP X.C fr h o≠some (.alts l'))∧∀b ls f,EP X.C fr h o≠some (.round b ls f):=by
   cases hcd with
   |AY hc hM=>
    obtain⟨rfl,hprim,i,hfn⟩:=hc;have hdop:EP X.C fr h o=some (.enter g' (fa++av++fb)):=by
     rw[Ch];unfold Fb;simp only[hop,hcal,a1,f1,IZ,hprim,hfn]
    exact⟨.call hdop hM,fun l'=>(by rw[hdop];intro h;cases h),fun b ls f=>(by rw[hdop];intro h;cases h)⟩
   |prim hq hx=>
    rename_i q x;have hdop:EP X.C fr h o=some (.val x.1 x.2):=by
     rw[Ch];unfold Fb;simp only[hop,hcal,a1,f1,IZ,hq,hx,DS]
    exact⟨.val hdop,fun l'=>(by rw[hdop];intro h;cases h),fun b ls f=>(by rw[hdop];intro h;cases h)⟩
  refine⟨l,hdid.1,⟨fun e=>⟨hnd e,hdid.2.1⟩,fun _=>hdid.2.2⟩,fun x hx=>?_⟩;obtain⟨n',hn,r,st',he',F',ρ',hp,hw,hsp⟩:=hall x hx;split at he'
  case h_2=>exact absurd he' Ev.Aw
  rename_i st1 hput;obtain⟨fr',g1,g2,g3,g4⟩:=hw.rel.put hp hput;refine⟨n',hn,st1,he',F',ρ',fr',g1,⟨g2,by rw[g3];exact hw.le,hw.nx⟩,fun ids hids b hb=>?_⟩;simp only[hop,EZ,hcal,hf]at hids;cases hs:X.sp g' with
  |none=>rw[hs]at hids;cases hids
  |some sp=>exact .inl (hsp g' rfl sp hs b hb)
 case h_3=>
  obtain⟨u,s,st1,h1,h2,h3⟩:=GS he;obtain⟨tch,⟨v',h',F',ρ',g1,g2,g3,g4,g5,g6,g7,g8⟩,htch⟩:=Xd (C:=X.C) hr h1;have hrs:Rel B h0 F' ρ' s fr h':=⟨⟨by rw[g6];exact hr.fp.n,fun t=>by
   have:s.get t=st.get t:=by unfold AD.get;rw[g5]
   rw[this];exact(hr.fp.slot t).mono g4⟩,g3⟩
  obtain⟨fr',k1,k2,k3,k4⟩:=hrs.put g2 h2;refine⟨[(v',h')],?_,⟨fun _=>⟨⟨_,rfl⟩,fun l'=>by rcases g1 with g1|⟨g1,_⟩<;>rw[g1]<;>intro h<;>cases h⟩,fun _ b ls f=>by rcases g1 with g1|⟨g1,_⟩<;>rw[g1]<;>intro h<;>cases h⟩,fun x hx=>?_⟩
  ·rcases g1 with g1|⟨g1,rfl⟩
   ·exact .val g1
   ·exact .skip g1
  ·cases zc.1 hx;refine⟨n,zd _,st1,h3,F',ρ',fr',k1,⟨k2,by rw[k3];exact g4,g7⟩,fun ids hids b hb=>?_⟩;rcases g8 b hb with e|⟨id,hi,m,e⟩
   ·exact .inl e
   ·exact .inr ⟨id,htch _ _ hids id hi,m,e⟩
theorem Zw{α β:Type}{f:α→Option (List β)}{x:α}:bl [x] f=f x:=by
 unfold bl;cases f x<;>rfl
theorem Jb{α β:Type}{f:Nat→Nat→α→Option (List β)}{P:β→Prop}{nd:Bool}{l:List α}(hone:nd=false→∃x,l=[x])(h:∀a∈l,∃r M,(∀m,M≤m→∀q,M≤q→f m q a=some r)∧(nd=false→∃x,r=[x])∧∀y∈r,P y):
  ∃r M,(∀m,M≤m→∀q,M≤q→bl l (f m q)=some r)∧(nd=false→∃x,r=[x])∧∀y∈r,P y:=by
 cases nd with
 |false=>
  obtain⟨x,rfl⟩:=hone rfl;obtain⟨r,M,h1,h2,h3⟩:=h x (zc.2 rfl);exact⟨r,M,fun m hm q hq=>by rw[Zw];exact h1 m hm q hq,h2,h3⟩
 |true=>
  clear hone;suffices hs:∃r M,(∀m,M≤m→∀q,M≤q→bl l (f m q)=some r)∧∀y∈r,P y by
   obtain⟨r,M,h1,h2⟩:=hs;exact⟨r,M,h1,fun e=>(by cases e),h2⟩
  induction l with
  |nil=>exact⟨[],0,fun _ _ _ _=>rfl,fun y hy=>by cases hy⟩
  |cons a l ih=>
   obtain⟨r,M,h1,_,h2⟩:=h a zI;obtain⟨r2,M2,h3,h4⟩:=ih (fun x hx=>h x (zE _ hx));cases l with
   |nil=>exact⟨r,M,fun m hm q hq=>(by simp only[bl,h1 m hm q hq]),h2⟩
   |cons b l=>
    refine⟨r++r2,max M M2,fun m hm q hq=>?_,fun y hy=>?_⟩
    ·unfold bl;rw[h1 m (by omega) q (by omega)];simp only;rw[h3 m (by omega) q (by omega)]
    ·rcases zS.1 hy with hy|hy
     ·exact h2 y hy
     ·exact h4 y hy
theorem Lj{d:Option Nat}{P:Fr×H→Prop}:∀ {l:List (V×H)},(∀x∈l,∃fr',fr.put d x.1=some fr'∧P (fr',x.2))→∃r,FN fr d l=some r∧(∀y∈r,P y)∧((∃x,l=[x])→∃y,r=[y])
 |[],_=>⟨[],rfl,fun y hy=>(by cases hy),fun⟨x,h⟩=>by cases h⟩
 |x::l,h=>by
  obtain⟨fr',h1,h2⟩:=h x zI;obtain⟨r,h3,h4,_⟩:=Lj (l:=l) (fun y hy=>h y (zE _ hy));refine⟨(fr',x.2)::r,?_,fun y hy=>?_,fun⟨z,hz⟩=>?_⟩
  ·obtain⟨v,hv⟩:=x;unfold FN;rw[h1];simp only;rw[h3]
  ·rcases List.mem_cons.1 hy with rfl|hy
   ·exact h2
   ·exact h4 y hy
  ·cases hz;cases h3;exact⟨_,rfl⟩
theorem XA.eQ{l:List (V×H)}{o:Oper}{ops:Array Oper}(hd:XA X fr h o l)(hw:AR fr ops o=true){P:Fr×H→Prop}(hp:∀x∈l,∃fr',fr.put o.dst x.1=some fr'∧P (fr',x.2)):
  ∃r M,(∀m,M≤m→step1 X.C (AY X.C m) ops o fr h=some r)∧((∃x,l=[x])→∃y,r=[y])∧∀y∈r,P y:=by
 obtain⟨r,h3,h4,h5⟩:=Lj hp;cases hd with
 |@val x h' hd=>
  obtain⟨fr',k1,k2⟩:=hp _ (zc.2 rfl);exact⟨[(fr',h')],0,fun m _=>(by simp only[step1,hw,cond_true,JE,hd,k1]),fun _=>⟨_,rfl⟩,fun y hy=>by cases zc.1 hy;exact k2⟩
 |@skip h' hd=>
  obtain⟨fr',k1,k2⟩:=hp _ (zc.2 rfl);exact⟨[(fr',h')],0,fun m _=>(by simp only[step1,hw,cond_true,JE,hd,k1]),fun _=>⟨_,rfl⟩,fun y hy=>by cases zc.1 hy;exact k2⟩
 |alts hd=>exact⟨r,0,fun m _=>by simp only[step1,hw,cond_true,JE,hd,h3],h5,h4⟩
 |@call g args l M hd hM=>exact⟨r,M,fun m hm=>by simp only[step1,hw,cond_true,JE,hd,hM m hm,h3],h5,h4⟩
 |@round b ls f l M hd hM=>exact⟨r,M,fun m hm=>by simp only[step1,hw,cond_true,JE,hd,hM m hm,h3],h5,h4⟩
theorem RC(hr:Rel B h0 F ρ st fr h){o:Oper}{v:PV}{stx:AD}(hb:RI X.C.T st o.op=some (v,stx)):OK B h0 F ρ st h [] (JE X.C fr h o) v stx:=by
 unfold RI at hb;split at hb
 case h_2=>cases hb
 rename_i s d x hop;split at hb
 case h_2=>cases hb
 rename_i e l hs hd hx;split at hb
 case h_2=>cases hb
 rename_i he;cases hb;obtain⟨y,g1,g2⟩:=BM (C:=X.C) hr.fp hx;obtain rfl:=EN g2;have hdop:EP X.C fr h o=none:=by
  rw[Ch];unfold Fb;rw[hop];simp only[g1,Fo,hs,hd];rfl
 have hx:JE X.C fr h o=DS (some (.sl h.nx 0 l.length l.length 1,h.push (.cells (l.map fun b=>.int .u8 (.ofNat b.toNat)) e (0,0)))):=by
  unfold JE;rw[hdop,hop];simp only[g1,NU,hs,hd,he]
 rw[hx];refine OK.new hr.sr (o:=.arr false e (.int .u8) (l.map fun b=>(b.toNat:Int))) (n:=l.length) rfl ⟨l.map fun b=>V.int .u8 (.ofNat b.toNat),(0,0),rfl,⟨by simp[Sh.sz],fun j hj=>?_⟩,zd _,by simp⟩ ?_
 ·have hj':j<l.length:=by simpa using hj
  have e1:((l.map fun b=>V.int .u8 (.ofNat b.toNat)).drop (j*1)).take 1=[V.int .u8 (.ofNat (l[j]).toNat)]:=by
   rw[Nat.mul_one,List.drop_eq_getElem_cons (by simpa using hj')];simp
  show DC _ (.int .u8) _ (((l.map fun b=>V.int .u8 (.ofNat b.toNat)).drop (j*1)).take 1);rw[e1];simp[DC]
 ·unfold PR;refine⟨zC _,fun b m hb=>.inl ⟨zd _,?_,1,.inr rfl,?_⟩⟩
  ·simp[Bl]at hb;show 0+l.length≤m;omega
  ·simp[Bl]at hb;rw[←hb.1];simp
theorem PW{nd:Bool}{call:D6}(hcall:DO B h0 X nd call){ops:Array Oper}:∀ {l:List Oper} {n:Nat} {st:AD} {F:Fz} {ρ:C8} {fr:Fr} {h:H} {k:AD→Tr},Rel B h0 F ρ st fr h→Ev X Q n (prun X.C.T call ops l st k)→
  ∃r M,(∀m,M≤m→Oi X.C (AY X.C m) ops l fr h=some r)∧(nd=false→∃x,r=[x])∧∀x∈r,∃n',n'≤n∧∃st1,Ev X Q n' (k st1)∧∃F' ρ',Cu B h0 F ρ st.nx h st1 x.1 x.2 F' ρ'
 |[],n,st,F,ρ,fr,h,k,hr,he=>⟨[(fr,h)],0,fun _ _=>rfl,fun _=>⟨_,rfl⟩,fun x hx=>by cases zc.1 hx;exact⟨n,zd _,st,he,F,ρ,Cu.refl hr⟩⟩
 |o::rest,n,st,F,ρ,fr,h,k,hr,he=>by
  unfold prun at he;obtain⟨st1,hr1,e1,e2,hcase⟩:=J7 hr he;have fin:∀ {l:List (Fr×H)},(∃M,∀m,M≤m→step1 X.C (AY X.C m) ops o fr h=some l)→(nd=false→∃x,l=[x])→
    (∀y∈l,∃n',n'≤n∧∃st2,Ev X Q n' (prun X.C.T call ops rest st2 k)∧∃F' ρ',Cu B h0 F ρ st.nx h st2 y.1 y.2 F' ρ')→
    ∃r M,(∀m,M≤m→Oi X.C (AY X.C m) ops (o::rest) fr h=some r)∧(nd=false→∃x,r=[x])∧∀x∈r,∃n',n'≤n∧∃st1,Ev X Q n' (k st1)∧∃F' ρ',Cu B h0 F ρ st.nx h st1 x.1 x.2 F' ρ':=by
   rintro l ⟨M1,hM1⟩ hone hl;obtain⟨r,M,h1,h2,h3⟩:=Jb (f:=fun m _ (x:Fr×H)=>Oi X.C (AY X.C m) ops rest x.1 x.2) (P:=fun x=>∃n',n'≤n∧∃st1,Ev X Q n' (k st1)∧∃F' ρ',Cu B h0 F ρ st.nx h st1 x.1 x.2 F' ρ') hone fun y hy=>by
    obtain⟨n1,hn1,st2,he2,F1,ρ1,hwent⟩:=hl y hy;obtain⟨r,M,h1,h3,h2⟩:=PW hcall hwent.rel he2;refine⟨r,M,fun m hm _ _=>h1 m hm,h3,fun z hz=>?_⟩;obtain⟨n2,hn2,st3,he3,F2,ρ2,hwent2⟩:=h2 z hz;exact⟨n2,zQ hn2 hn1,st3,he3,F2,ρ2,hwent.trans hwent2⟩
   refine⟨r,max M M1,fun m hm=>?_,h2,h3⟩;simp only[Oi,hM1 m (by omega)];exact h1 m (by omega) m (by omega)
  rcases hcase with⟨hw,he⟩|⟨hw,he⟩
  ·unfold Zg at he;split at he
   case h_1=>
    rename_i v stx hb;split at he
    case h_2=>exact absurd he Ev.Aw
    rename_i st2 hput;obtain⟨v',h',F',ρ',g1,g2,g3,g4,g5,g6,g7,g8⟩:=RC hr1 hb;have hrs:Rel B h0 F' ρ' stx fr h':=⟨⟨by rw[g6];exact hr1.fp.n,fun t=>by
     have:stx.get t=st1.get t:=by unfold AD.get;rw[g5]
     rw[this];exact(hr1.fp.slot t).mono g4⟩,g3⟩
    have hpr:∃u,PR F' ρ' stx.nx v u∧∀fr',fr.put o.dst u=some fr'→∀m,step1 X.C (AY X.C m) ops o fr h=some [(fr',h')]:=by
     rcases g1 with g1|⟨g1,rfl⟩
     ·exact⟨v',g2,fun fr' k1 m=>by simp only[step1,hw,cond_true,g1,k1]⟩
     ·exact⟨.tup [],g2,fun fr' k1 m=>by simp only[step1,hw,cond_true,g1,k1]⟩
    obtain⟨u,hu,CC⟩:=hpr;obtain⟨fr',k1,k2,k3,k4⟩:=hrs.put hu hput;refine fin (l:=[(fr',h')]) ⟨0,fun m _=>CC fr' k1 m⟩ (fun _=>⟨_,rfl⟩) fun y hy=>?_
    cases zc.1 hy;exact⟨n,zd _,st2,he,F',ρ',k2,by rw[k3, ←e1];exact g4,g7⟩
   obtain⟨l,hdid,hnd,hall⟩:=FI hcall hr1 he;obtain⟨r,M,h1,h3,h2⟩:=hdid.eQ (ops:=ops) (P:=fun y=>∃n',n'≤n∧∃st2,Ev X Q n' (prun X.C.T call ops rest st2 k)∧∃F' ρ',Cu B h0 F ρ st.nx h st2 y.1 y.2 F' ρ') hw fun x hx=>by
    obtain⟨n1,hn1,st2,he2,F1,ρ1,fr1,hput,hwent,_⟩:=hall x hx;rw[e1]at hwent;exact⟨fr1,hput,n1,hn1,st2,he2,F1,ρ1,hwent⟩
   exact fin ⟨M,h1⟩ (fun e=>h3 (hnd.1 e).1) h2
  ·unfold Jj at he;split at he
   case h_2=>exact absurd he Ev.Aw
   rename_i st2 hput;obtain⟨fr1,g1,g2,g3,g4⟩:=hr1.put (x:=.tup []) (by simp[PR]) hput;refine fin (l:=[(fr1,h)]) ⟨0,fun m _=>by simp only[step1,hw,cond_false,g1]⟩ (fun _=>⟨_,rfl⟩) fun y hy=>?_
   cases zc.1 hy;exact⟨n,zd _,st2,he,F,ρ,g2,by rw[g3,e1];exact zu,zd _⟩
end
section
variable {B:Nat}{h0:H0}{F:Fz}{ρ:C8}{N:Nat}{X:A2}{st st':AD}{fr:Fr}{h h':H}{Q:PV→Ob→Prop}{n:Nat}
mutual
theorem Jh:∀v:V,zT v v=true
 | .bool b=>by simp[zT]
 | .int k n=>by simp[zT]
 | .str s=>by simp[zT]
 | .nilp=>rfl
 | .ptr a i=>by simp[zT]
 | .nils=>rfl
 | .sl a b c d e=>by simp[zT]
 | .esl=>rfl
 | .es0=>rfl
 | .junk=>rfl
 | .nilm=>rfl
 | .map a=>by simp[zT]
 | .yld a=>by simp[zT]
 | .nilf=>rfl
 | .nili=>rfl
 | .fn f a b=>by simp only[zT,D2 a,D2 b,zD,beq_iff_eq]
 | .iface t x=>by simp only[zT,Jh x,zD];exact zG t
 | .agg a=>by simp only[zT];exact D2 a
 | .tup a=>by simp only[zT];exact D2 a
theorem D2:∀vs:List V,V.Iq vs vs=true
 |[]=>rfl
 |v::vs=>by simp only[V.Iq,Jh v,D2 vs,zD]
end
theorem Wj{T:BA}{t:TypeId}{a x:V}(hd:DE T h t a=some x):∃b off o,a=.ptr b off∧h.get b=some o∧(∀g:H,g.get b=h.get b→DE T g t a=some x)∧
  ∀(g:H) cs t1 f1 t2 f2,h.get b=some (.cells cs t1 f1)→g.get b=some (.cells cs t2 f2)→DE T g t a=some x:=by
 unfold DE at hd;split at hd
 case h_2=>cases hd
 rename_i b off d i e1 e2;have hb:∃o,h.get b=some o:=by
  cases hg:h.get b with
  |some o=>exact⟨o,rfl⟩
  |none=>
   unfold rd at hd;rw[hg]at hd;cases CS d<;>simp at hd
 obtain⟨o,ho⟩:=hb;refine⟨b,off,o,rfl,ho,fun g hg=>?_,fun g cs t1 f1 t2 f2 k1 k2=>?_⟩
 ·unfold DE;simp only[e1,e2];unfold rd at hd ⊢;rw[hg];exact hd
 ·unfold DE;simp only[e1,e2];unfold rd at hd ⊢;rw[k1]at hd;rw[k2];exact hd
def Oa(C:Ctx)(F:Fz)(bl:List Nat)(h:H)(fr:Fr)(o:Oper)(x:V):Prop:=
 ∀g:H,(∀b cs,F b=some cs→∃t fz,g.get b=some (.cells cs t fz))→(∀b∈bl,g.get b=h.get b)→∃z,EP C fr g o=some (.val x z)
theorem Rv:∀ {s:Sh} {x:s.T} {cs:List V} {b:Nat},DC F s x cs→V.map b∉cs
 | .int _,_,_,_,h,hm=>by simp only[DC]at h;subst h;cases zc.1 hm
 | .bool,_,_,_,h,hm=>by simp only[DC]at h;subst h;cases zc.1 hm
 | .str,_,_,_,h,hm=>by simp only[DC]at h;subst h;cases zc.1 hm
 | .list s,l,_,_,h,hm=>by
  simp only[DC]at h;obtain⟨v,rfl,h⟩:=h;obtain rfl:=zc.1 hm;rcases h with⟨_,h|h|h⟩|⟨b,off,cap,o,bs,h,_⟩<;>cases h
 | .pair a b,x,_,_,h,hm=>by
  simp only[DC]at h;obtain⟨c,d,rfl,h1,h2⟩:=h;rcases zS.1 hm with hm|hm
  ·exact Rv h1 hm
  ·exact Rv h2 hm
 | .unit,_,_,_,h,hm=>by simp only[DC]at h;subst h;cases hm
 | .fnv,x,_,_,h,hm=>by simp only[DC]at h;subst h;have:=zc.1 hm;revert this;cases (x:Option Fn)<;>intro h<;>cases h
 | .nlist s,l,_,_,h,hm=>by
  simp only[DC]at h;obtain⟨v,rfl,h⟩:=h;obtain rfl:=zc.1 hm;rcases h with⟨_,h⟩|⟨_,b,off,cap,o,bs,h,_⟩<;>cases h
theorem RL{s:Sh}{x:s.T}{b:Nat}(hp:PR F ρ N (.dat s x) (.map b)):False:=by
 simp only[PR]at hp;exact Rv hp (zc.2 rfl)
theorem RE{b:Nat}(hp:PR F ρ N .nil (.map b)):False:=by
 simp only[PR]at hp;cases hp
theorem Ws(hr:SR B h0 F ρ st.nx st.ob h){o:Oper}{c:Call}(hop:o.op=.call c)(hcal:c.callee=.builtin .len){id sz off len:Nat}{cap:Option Nat}(hps:Kf st c.args.toList=some [.sl id sz off len cap]){u:PV}{s:AD}
  (ht:(pop o.op X.C.T st).To u s) {b:Nat} (hp:PR F ρ st.nx (.sl id sz off len cap) (.map b)):False:=by
 rw[hop]at ht;simp only[pop,N6,hps,hcal,Gt,XP,Qr,zV,List.map_nil,lz]at ht;split at ht
 case h_2=>simp at ht
 rename_i t x _ he;cases he;split at ht
 case h_3=>
  rename_i he;cases he;cases hl:Kp (st.obj id)with
  |false=>rw[hl]at ht;simp at ht
  |true=>
   obtain⟨b',n,h1⟩:=hr.live hl;simp only[PR]at hp;rcases hp.2 b' n h1 with⟨_,_,o,_,h⟩|⟨_,_,_,h|⟨_,h,_⟩⟩<;>cases h
 all_goals first|(simp at ht;done)|(rename_i he;cases he;done)|(rename_i he _;cases he)
theorem Lf{T:BA}{ts:Array TypeId}{a:V}{g:H}(hnm:∀b,a≠ .map b)(h:H):D8 T g ts [a]=D8 T h ts [a]:=by
 unfold D8;cases ts[0]? with
 |none=>rfl
 |some t=>
  simp only;cases T.und t with
  |none=>cases a<;>rfl
  |some d=>cases d<;>cases a<;>first|rfl|(rename_i b;exact absurd rfl (hnm b))|(rename_i b _;exact absurd rfl (hnm b))|(rename_i b _ _;exact absurd rfl (hnm b))
theorem TS(hr:Rel B h0 F ρ st fr h){o:Oper}{x:V}(hd:EP X.C fr h o=some (.val x h)){l:List Nat}(hl:YZ st o.op=some l)(hto:∃u s,(pop o.op X.C.T st).To u s):
  ∃bl,Oa X.C F bl h fr o x∧∀b∈bl,b<h.nx∧∃id∈l,id<st.nx∧∀y,ρ id=some y→y.1=b:=by
 unfold YZ at hl;rw[Ch]at hd;unfold Fb at hd;split at hl
 case h_5=>cases hl
 case h_4 t y i ok hop=>
  simp only[hop]at hd;have hdop:∀g,EP X.C fr g o=(match ev X.C fr y,ev X.C fr i with|some v,some u=>A6 g (Ds X.C.T g t v u ok)|_,_=>none):=fun g=>by rw[Ch];unfold Fb;simp only[hop];rfl
  cases hy:ev X.C fr y with
  |none=>rw[hy]at hd;cases hd
  |some a=>
   cases hi:ev X.C fr i with
   |none=>rw[hy,hi]at hd;cases hd
   |some u=>
    rw[hy,hi]at hd;simp only at hd;obtain⟨x',hx',he⟩:=Es hd;cases he;have hloc:∀g:H,entries g a=entries h a→Ds X.C.T g t a u ok=some x:=by
     intro g hg;unfold Ds at hx' ⊢;rw[hg];exact hx'
    split at hl
    case h_3=>cases hl
    case h_1=>
     rename_i id hp;obtain⟨a',g1,g2⟩:=BM (C:=X.C) hr.fp hp;rw[hy]at g1;cases g1;have hent:∃es,entries h a=some es:=by
      unfold Ds at hx';split at hx'
      case h_2=>cases hx'
      split at hx'
      case h_2=>cases hx'
      rename_i es _ he;exact⟨es,he⟩
     obtain⟨es,he⟩:=hent;cases hl;by_cases hmap:∃b,a=.map b
     ·obtain⟨b,rfl⟩:=hmap;have hb:∃ob,h.get b=some ob:=by
       cases hg:h.get b with
       |none=>simp[entries,hg]at he
       |some ob=>exact⟨ob,rfl⟩
      obtain⟨ob,hb⟩:=hb;simp only[PR]at g2;refine⟨[b],fun g _ hg=>⟨g,?_⟩,fun b' hb'=>?_⟩
      ·rw[hdop,hy,hi];simp only;rw[hloc g (by simp only[entries,hg b (zc.2 rfl)])];rfl
      ·cases zc.1 hb';refine⟨hr.sr.lt b ob hb,id,zc.2 rfl,g2.1,fun z hz=>?_⟩;have:=g2.2 z.1 z.2 hz;cases this;rfl
     ·refine⟨[],fun g _ hg=>⟨g,?_⟩,fun b' hb'=>by cases hb'⟩;rw[hdop,hy,hi];simp only;rw[hloc g ?_];rfl;cases a<;>first|rfl|(rename_i b;exact absurd ⟨b,rfl⟩ hmap)
    case h_2=>
     rename_i hp;obtain⟨a',g1,g2⟩:=BM (C:=X.C) hr.fp hp;rw[hy]at g1;cases g1;simp only[PR]at g2;subst g2;cases hl;refine⟨[],fun g _ hg=>⟨g,?_⟩,fun b' hb'=>by cases hb'⟩;rw[hdop,hy,hi];simp only;rw[hloc g rfl];rfl
 case h_1 t y hop=>
  simp only[hop]at hd;have hdop:∀g,EP X.C fr g o=(match ev X.C fr y with|some v=>A6 g (DE X.C.T g t v)|none=>none):=fun g=>by rw[Ch];unfold Fb;simp only[hop];rfl
  cases hy:ev X.C fr y with
  |none=>rw[hy]at hd;cases hd
  |some a=>
   rw[hy]at hd;simp only at hd;obtain⟨x',hx',he⟩:=Es hd;cases he;obtain⟨b,off,ob,rfl,hb,hloc,hfz⟩:=Wj hx';have hblt:=hr.sr.lt b ob hb;have live:∀id,id<st.nx→(∀z,ρ id=some z→z.1=b)→l=[id]→∃bl,Oa X.C F bl h fr o x∧∀b∈bl,b<h.nx∧∃id∈l,id<st.nx∧∀y,ρ id=some y→y.1=b:=by
    rintro id hlt hid rfl;refine⟨[b],fun g _ hg=>⟨g,?_⟩,fun b' hb'=>?_⟩
    ·rw[hdop,hy];simp only;rw[hloc g (hg b (zc.2 rfl))];rfl
    ·cases zc.1 hb';exact⟨hblt,id,zc.2 rfl,hlt,hid⟩
   split at hl
   case h_4=>cases hl
   case h_1=>
    rename_i id off' hp;obtain⟨a',g1,g2⟩:=BM (C:=X.C) hr.fp hp;rw[hy]at g1;cases g1;simp only[PR]at g2;refine live id g2.1 (fun z hz=>?_) (by cases hl;rfl);have:=g2.2 z.1 z.2 hz;cases this;rfl
   case h_2=>
    rename_i id sz j off' hp;obtain⟨a',g1,g2⟩:=BM (C:=X.C) hr.fp hp;rw[hy]at g1;cases g1;simp only[PR]at g2;refine live id g2.1 (fun z hz=>?_) (by cases hl;rfl);have:=g2.2 z.1 z.2 hz;cases this;rfl
   case h_3=>
    rename_i s y' off' hp;obtain⟨a',g1,g2⟩:=BM (C:=X.C) hr.fp hp;rw[hy]at g1;cases g1;simp only[PR]at g2;obtain⟨b',o',cs,he,hF,_⟩:=g2;cases he;obtain⟨t1,f1,k1⟩:=hr.sr.frz b cs hF;refine⟨[],fun g hg _=>⟨g,?_⟩,fun b' hb'=>by cases hb'⟩;obtain⟨t2,f2,k2⟩:=hg b cs hF;rw[hdop,hy];simp only;rw[hfz g cs t1 f1 t2 f2 k1 k2];rfl
 case h_2 s d y hop=>
  simp only[hop]at hd;have hdop:∀g,EP X.C fr g o=(match ev X.C fr y with|some v=>A6 g (Fo X.C.T g s d v)|none=>none):=fun g=>by rw[Ch];unfold Fb;simp only[hop];rfl
  have fin:∀a,ev X.C fr y=some a→(∀g,Fo X.C.T g s d a=Fo X.C.T h s d a)→∃bl,Oa X.C F bl h fr o x∧∀b∈bl,b<h.nx∧∃id∈l,id<st.nx∧∀y,ρ id=some y→y.1=b:=by
   intro a ha hg;rw[ha]at hd;simp only at hd;obtain⟨x',hx',he⟩:=Es hd;cases he;exact⟨[],fun g _ _=>⟨g,by rw[hdop,ha];simp only;rw[hg,hx'];rfl⟩,fun b hb=>by cases hb⟩
  split at hl
  case h_3=>cases hl
  case h_1=>
   rename_i k z hp;obtain⟨a',g1,g2⟩:=BM (C:=X.C) hr.fp hp;simp only[PR,DC,zr,and_true]at g2;subst g2;exact fin _ g1 fun g=>by
    unfold Fo;cases X.C.T.und s with
    |none=>rfl
    |some u=>cases X.C.T.und d with
     |none=>cases u<;>rfl
     |some w=>cases u<;>cases w<;>rfl
  case h_2=>
   rename_i z hp;obtain⟨a',g1,g2⟩:=BM (C:=X.C) hr.fp hp;simp only[PR,DC,zr,and_true]at g2;subst g2;exact fin _ g1 fun g=>by
    unfold Fo;cases X.C.T.und s with
    |none=>rfl
    |some u=>cases X.C.T.und d with
     |none=>cases u<;>rfl
     |some w=>cases u<;>cases w<;>rfl
 case h_3 c hop=>
  simp only[hop]at hd;split at hl
  case h_5=>cases hl
  case h_4=>
   rename_i id hcal hps;obtain⟨gG,g1,g2⟩:=Dw (C:=X.C) hr.fp hps;simp only[AW]at g2;obtain⟨a,as',rfl,g2,rfl⟩:=g2;have hdop:∀g,EP X.C fr g o=A6 g (D8 X.C.T g c.argTypes [a]):=fun g=>by rw[Ch];unfold Fb;simp only[hop,hcal,g1];rfl
   simp only[hcal,g1,C1]at hd;obtain⟨x',hx',he⟩:=Es hd;cases he;cases hl;by_cases hmap:∃b,a=.map b
   ·obtain⟨b,rfl⟩:=hmap;simp only[PR]at g2;by_cases hb:∃ob,h.get b=some ob
    ·obtain⟨ob,hb⟩:=hb;refine⟨[b],fun g _ hg=>⟨g,?_⟩,fun b' hb'=>?_⟩
     ·rw[hdop];have:D8 X.C.T g c.argTypes [.map b]=D8 X.C.T h c.argTypes [.map b]:=by
       unfold D8;cases c.argTypes[0]? with
       |none=>rfl
       |some t=>
        simp only;cases X.C.T.und t with
        |none=>rfl
        |some d=>cases d<;>first|rfl|simp only[hg b (zc.2 rfl)]
      rw[this,hx'];rfl
     ·cases zc.1 hb';refine⟨hr.sr.lt b ob hb,id,zc.2 rfl,g2.1,fun z hz=>?_⟩;have:=g2.2 z.1 z.2 hz;cases this;rfl
    ·have hnone:h.get b=none:=by
      cases hg:h.get b with
      |none=>rfl
      |some ob=>exact absurd ⟨ob,hg⟩ hb
     refine⟨[],fun g _ _=>⟨g,?_⟩,fun b' hb'=>by cases hb'⟩;obtain⟨uu,s,ht⟩:=hto;exfalso;rw[hop]at ht;simp only[pop,N6,hps,hcal,Gt,XP,Qr,zV,List.map_nil,lz]at ht;split at ht
     case h_2=>simp at ht
     rename_i t x _ he;cases he;split at ht
     case h_5=>
      rename_i he;cases he;split at ht
      case h_2=>simp at ht
      rename_i ks vs l ho;obtain⟨b1,n1,o1,q1,q2,_⟩:=hr.sr.at ho;have:=g2.2 b1 n1 q1;cases this;rw[hnone]at q2;cases q2
     all_goals first|(simp at ht;done)|(rename_i he;cases he;done)|(rename_i he _;cases he)
   ·refine⟨[],fun g _ _=>⟨g,?_⟩,fun b hb=>by cases hb⟩;rw[hdop,Lf (fun b e=>hmap ⟨b,e⟩) h,hx'];rfl
  all_goals
   rename_i hcal hps;obtain⟨gG,g1,g2⟩:=Dw (C:=X.C) hr.fp hps;simp only[AW]at g2;obtain⟨a,as',rfl,g2,rfl⟩:=g2;have hdop:∀g,EP X.C fr g o=A6 g (D8 X.C.T g c.argTypes [a]):=fun g=>by rw[Ch];unfold Fb;simp only[hop,hcal,g1];rfl
   simp only[hcal,g1,C1]at hd;have hnm:∀b,a≠ .map b:=by
    intro b e;subst e;first
     |exact RL g2
     |exact RE g2
     |(obtain⟨u,s,ht⟩:=hto
       exact Ws hr.sr hop hcal hps ht g2)
   obtain⟨x',hx',he⟩:=Es hd;cases he;refine⟨[],fun g _ _=>⟨g,?_⟩,fun b hb=>by cases hb⟩;rw[hdop];rw[Lf hnm h,hx'];rfl
structure UU(C:Ctx)(F:Fz)(ρ:C8)(N:Nat)(h:H)(r:Nat×Option (List Nat))(c:Rc):Prop where
 i:c.i=r.1
 k:∀l,r.2=some l→∃bl,Oa C F bl h c.f c.o c.v∧∀b∈bl,b<h.nx∧∃id∈l,id<N∧∀y,ρ id=some y→y.1=b
def Ry(C:Ctx)(F:Fz)(ρ:C8)(N:Nat)(h:H):Rs→List Rc→Prop
 |[],l=>l=[]
 |r::rs,l=>∃c cs,l=c::cs∧UU C F ρ N h r c∧Ry C F ρ N h rs cs
theorem UU.mono{F':Fz}{ρ':C8}{N':Nat}{r:Nat×Option (List Nat)}{c:Rc}(hk:UU X.C F ρ N h r c)(hl:Le F ρ N F' ρ' N')(hx:h.nx≤h'.nx)
  (hs:∀l,r.2=some l→∀b,b<h.nx→(∃id∈l,id<N∧∀y,ρ id=some y→y.1=b)→h'.get b=h.get b):UU X.C F' ρ' N' h' r c:=by
 refine⟨hk.i,fun l hl'=>?_⟩;obtain⟨bl,h1,h2⟩:=hk.k l hl';refine⟨bl,fun g hg hb=>h1 g (fun b cs hF=>hg b cs (hl.fz b cs hF)) (fun b hb'=>?_),fun b hb'=>?_⟩
 ·obtain⟨k1,k2⟩:=h2 b hb';rw[hb b hb',hs l hl' b k1 k2]
 ·obtain⟨k1,id,k2,k3,k4⟩:=h2 b hb';exact⟨zJ k1 hx,id,k2,zJ k3 hl.n,fun y hy=>k4 y (hl.at k3 hy)⟩
theorem Ry.mono{F':Fz}{ρ':C8}{N':Nat}(hl:Le F ρ N F' ρ' N')(hx:h.nx≤h'.nx)(hs:∀b,b<h.nx→h'.get b=h.get b):∀ {rs:Rs} {cs:List Rc},Ry X.C F ρ N h rs cs→Ry X.C F' ρ' N' h' rs cs
 |[],_,hk=>hk
 |r::rs,_,hk=>by
  obtain⟨c,cs,rfl,h1,h2⟩:=hk;exact⟨c,cs,rfl,h1.mono hl hx (fun l _ b hb _=>hs b hb),Ry.mono hl hx hs h2⟩
theorem Ry.apart{F':Fz}{ρ':C8}{fr':Fr}{anc:Nat→Nat→Bool}{i:Nat}{t:Option (List Nat)}(hr:Rel B h0 F ρ st fr h)(hw:Cu B h0 F ρ st.nx h st' fr' h' F' ρ')
  (ht:∀ids,t=some ids→∀b,b<h.nx→h'.get b=h.get b∨∃id∈ids,∃m,ρ id=some (b,m)):
  ∀ {rs:Rs} {cs:List Rc},Ry X.C F ρ st.nx h rs cs→zL anc i st t rs=true→cs.all (still X.C anc i h')=true∧Ry X.C F' ρ' st'.nx h' (behind st t rs) cs
 |[],_,hk,_=>by
  cases hk;exact⟨rfl,rfl⟩
 |r::rs,_,hk,ha=>by
  obtain⟨c,cs,rfl,h1,h2⟩:=hk;unfold zL at ha;rw[List.all_cons,zf]at ha;obtain⟨h3,h4⟩:=Ry.apart hr hw ht h2 (by unfold zL;exact ha.2);have key:(Tu r.2 t&&IM st r.2)=true→∀l,r.2=some l→∀b,b<h.nx→(∃id∈l,id<st.nx∧∀y,ρ id=some y→y.1=b)→h'.get b=h.get b:=by
   rintro hd l hl b hb ⟨id,k1,k2,k3⟩;simp only[zf,hl]at hd;have hlive:=zM.1 hd.2 id k1;obtain⟨b1,m1,e1⟩:=hr.sr.live hlive;obtain rfl:b1=b:=k3 _ e1;cases t with
   |none=>
    cases l with
    |nil=>cases k1
    |cons a l=>cases hd.1
   |some ids=>
    rcases ht ids rfl b1 hb with e|⟨id',k4,m,e2⟩
    ·exact e
    ·exfalso;obtain⟨o1,g1⟩:=Gz hlive;have g2:∃o2,AF st.ob id'=some o2:=by
      cases hg:AF st.ob id' with
      |some o2=>exact⟨o2,rfl⟩
      |none=>rw[hr.sr.dead id' hg]at e2;cases e2
     obtain⟨o2,g2⟩:=g2;obtain rfl:=hr.sr.inj id id' o1 o2 b1 m1 m g1 g2 e1 e2;have h5:=zM.1 hd.1 id k1;simp only[Bool.not_eq_true']at h5;have h6:ids.any (zi id)=true:=List.any_eq_true.2 ⟨id,k4,zG id⟩;rw[h6]at h5;cases h5
  refine⟨?_,c,cs,rfl,?_,h4⟩
  ·rw[List.all_cons,h3,zD];unfold still;rw[h1.i];cases han:anc i r.1 with
   |true=>rfl
   |false=>
    rw[han]at ha;simp only[Bool.false_or]at ha ⊢;have hd:=ha.1;have hl:∃l,r.2=some l:=by
     cases hr2:r.2 with
     |some l=>exact⟨l,rfl⟩
     |none=>rw[hr2]at hd;simp[Tu]at hd
    obtain⟨l,hl⟩:=hl;obtain⟨bl,k1,k2⟩:=h1.k l hl;obtain⟨z,hz⟩:=k1 h' (fun b cs hF=>hw.rel.sr.frz b cs (hw.le.fz b cs hF)) (fun b hb=>key hd l hl b (k2 b hb).1 (k2 b hb).2);rw[hz];simp only;exact Jh _
  ·show UU X.C F' ρ' st'.nx h' (bif Tu r.2 t&&IM st r.2 then r else(r.1,none)) c;cases hd:(Tu r.2 t&&IM st r.2)with
   |true=>exact h1.mono hw.le hw.nx (key hd)
   |false=>
    exact⟨h1.i,fun l hl=>by cases hl⟩
theorem Lw{C:Ctx}{o:Oper}(ha:BE o=true){r:OR}(hd:EP C fr h o=some r):∃ob f,UD C fr o=some (ob,f)∧r=.val (f h.nx) (h.push ob):=by
 rw[Ch]at hd;unfold Fb at hd;unfold BE at ha;unfold UD;split at ha
 case h_4=>cases ha
 case h_1 t hop=>
  simp only[hop]at hd ⊢;unfold ED at hd;cases hi:C.T.inf t with
  |none=>rw[hi]at hd;cases hd
  |some i=>rw[hi]at hd;cases hd;exact⟨_,_,rfl,rfl⟩
 case h_2 t x hop=>
  simp only[hop]at hd ⊢;cases hx:ev C fr x with
  |none=>rw[hx]at hd;cases hd
  |some y=>rw[hx]at hd;cases hd;exact⟨_,_,rfl,rfl⟩
 case h_3 t n ps hop=>
  simp only[hop]at hd ⊢;cases hx:Rd C fr ps.toList with
  |none=>rw[hx]at hd;cases hd
  |some y=>
   rw[hx]at hd;simp only at hd ⊢;unfold Du at hd;unfold QL;split at hd
   case h_2=>cases hd
   rename_i e he;simp only[he];split at hd
   case h_2=>cases hd
   rename_i i hi;simp only[hi];cases hc:(zp (n*i.size) 16777216&&zt 0 (i.zero.length)&&zi i.zero.length i.size)with
   |false=>rw[hc]at hd;cases hd
   |true=>
    rw[hc]at hd;simp only[cond_true]at hd ⊢;split at hd
    case h_2=>cases hd
    rename_i cs hcs;cases hd;simp only[hcs];exact⟨_,_,rfl,rfl⟩
theorem dB{T:BA}{call:D6}{st:AD}{o:Oper}{k:AD→Tr}(hrd:Db o=true):FR T call o st k=KY o.dst k (pop o.op T st):=by
 have:HT st o.op=.no:=by
  unfold Db at hrd;unfold HT;cases hop:o.op<;>rw[hop]at hrd<;>first|rfl|skip
  case call c=>
   obtain⟨callee,args,ts⟩:=c;cases callee<;>first|rfl|(cases hrd)
 unfold FR;rw[this]
theorem ZB{call:D6}(hcall:DO B h0 X false call)(hr:Rel B h0 F ρ st fr h){o:Oper}(hrd:Db o=true){k:AD→Tr}(he:Ev X Q n (FR X.C.T call o st k)):
  ∃n',n'≤n∧∃st1,Ev X Q n' (k st1)∧∃F' ρ' x fr',EP X.C fr h o=some (.val x h)∧fr.put o.dst x=some fr'∧Cu B h0 F ρ st.nx h st1 fr' h F' ρ'∧∃u s,(pop o.op X.C.T st).To u s:=by
 obtain⟨l,hdid,hnd,hall⟩:=FI hcall hr he;obtain⟨⟨⟨x,h'⟩,rfl⟩,_⟩:=hnd.1 rfl;obtain⟨n',hn,st1,he1,F',ρ',fr',hput,hw,_⟩:=hall _ (zc.2 rfl);have hto:∃u s,(pop o.op X.C.T st).To u s:=by
  rw[dB hrd]at he;obtain⟨u,s,_,h1,_⟩:=GS he;exact⟨u,s,h1⟩
 cases hdid with
 |val hd=>
  obtain⟨y,hy⟩:=rd_val hrd hd;cases hy;exact⟨n',hn,st1,he1,F',ρ',x,fr',hd,hput,hw,hto⟩
 |skip hd=>obtain⟨y,hy⟩:=rd_val hrd hd;cases hy
 |call hd _=>obtain⟨y,hy⟩:=rd_val hrd hd;cases hy
 |round hd _=>obtain⟨y,hy⟩:=rd_val hrd hd;cases hy
 |alts hd=>obtain⟨y,hy⟩:=rd_val hrd hd;cases hy
theorem LF{call:D6}(hcall:DO B h0 X false call){ops:Array Oper}{anc:Nat→Nat→Bool}:∀ {L:List Nat} {n:Nat} {st:AD} {F:Fz} {ρ:C8} {fr:Fr} {h:H} {k:AD→Tr} {rs:Rs} {cs:List Rc},Rel B h0 F ρ st fr h→Ry X.C F ρ st.nx h rs cs→
  Ev X Q n (HL X.C.T X.sp call ops anc L st rs k)→
  ∃n',n'≤n∧∃st1,Ev X Q n' (k st1)∧∃F' ρ' fr' h',Cu B h0 F ρ st.nx h st1 fr' h' F' ρ'∧∃M,∀m,M≤m→∃cs',Qh X.C (AY X.C m) ops anc L ⟨fr,h,cs⟩=some ⟨fr',h',cs'⟩
 |[],n,st,F,ρ,fr,h,k,rs,cs,hr,_,he=>⟨n,zd _,st,he,F,ρ,fr,h,Cu.refl hr,0,fun _ _=>⟨cs,rfl⟩⟩
 |i::is,n,st,F,ρ,fr,h,k,rs,cs,hr,hrs,he=>by
  unfold HL at he;cases ho:ops[i]? with
  |none=>rw[ho]at he;exact absurd he Ev.Aw
  |some o=>
   rw[ho]at he;simp only at he;obtain⟨st1,hr1,e1,e2,hcase⟩:=J7 hr he;rw[←e1]at hrs;have fin:∀ {n1:Nat} {st2:AD} {F1:Fz} {ρ1:C8} {fr1:Fr} {h1:H} {rs2:Rs} {cs2:List Rc},n1≤n→Cu B h0 F ρ st.nx h st2 fr1 h1 F1 ρ1→Ry X.C F1 ρ1 st2.nx h1 rs2 cs2→Ev X Q n1 (HL X.C.T X.sp call ops anc is st2 rs2 k)→
     (∃M,∀m,M≤m→∃x,F5 X.C (AY X.C m) ops anc i ⟨fr,h,cs⟩=some (x,⟨fr1,h1,cs2⟩))→
     ∃n',n'≤n∧∃st1,Ev X Q n' (k st1)∧∃F' ρ' fr' h',Cu B h0 F ρ st.nx h st1 fr' h' F' ρ'∧∃M,∀m,M≤m→∃cs',Qh X.C (AY X.C m) ops anc (i::is) ⟨fr,h,cs⟩=some ⟨fr',h',cs'⟩:=by
    rintro n1 st2 F1 ρ1 fr1 h1 rs2 cs2 hn1 hw hrs2 he2 ⟨M1,hM1⟩;obtain⟨n2,hn2,st3,he3,F2,ρ2,fr2,h2,hw2,M2,hM2⟩:=LF hcall hw.rel hrs2 he2;refine⟨n2,zQ hn2 hn1,st3,he3,F2,ρ2,fr2,h2,hw.trans hw2,max M1 M2,fun m hm=>?_⟩;obtain⟨x,hx⟩:=hM1 m (by omega);obtain⟨cs',hcs'⟩:=hM2 m (by omega);exact⟨cs',by unfold Qh;rw[hx];exact hcs'⟩
   rcases hcase with⟨hw,he⟩|⟨hw,he⟩
   ·cases hrd:Db o with
    |true=>
     rw[hrd]at he;simp only[cond_true]at he;obtain⟨n1,hn1,st2,he2,F1,ρ1,x,fr1,hd,hput,hwent,hto⟩:=ZB hcall hr1 hrd he;rw[e1]at hwent;have hrs2:Ry X.C F1 ρ1 st2.nx h rs cs:=hrs.mono (by rw[e1];exact hwent.le) (zd _) (fun _ _=>rfl);cases hhd:Mw o with
     |false=>
      rw[hhd]at he2;refine fin (cs2:=cs) hn1 hwent hrs2 he2 ⟨0,fun m _=>⟨x,?_⟩⟩;unfold F5;simp only[ho,hw,cond_true,hrd,hd,hput,hhd,cond_false]
     |true=>
      rw[hhd]at he2;refine fin (cs2:=⟨i,o,fr,x⟩::cs) (rs2:=(i,YZ st1 o.op)::rs) hn1 hwent ⟨_,_,rfl,⟨rfl,fun l hl=>?_⟩,hrs2⟩ he2 ⟨0,fun m _=>⟨x,?_⟩⟩
      ·obtain⟨bl,k1,k2⟩:=TS hr1 hd hl hto;refine⟨bl,fun g hg hb=>k1 g (fun b cs hF=>hg b cs (hwent.le.fz b cs hF)) hb,fun b hb=>?_⟩;obtain⟨j1,id,j2,j3,j4⟩:=k2 b hb;rw[e1]at j3;exact⟨j1,id,j2,zJ j3 hwent.le.n,fun y hy=>j4 y (hwent.le.at j3 hy)⟩
      ·unfold F5;simp only[ho,hw,cond_true,hrd,hd,hput,hhd]
    |false=>
     rw[hrd]at he;simp only[cond_false]at he;cases hal:BE o with
     |true=>
      rw[hal]at he;simp only[cond_true]at he;obtain⟨l,hdid,hnd,hall⟩:=FI hcall hr1 he;obtain⟨⟨⟨x,h1⟩,rfl⟩,hna⟩:=hnd.1 rfl;obtain⟨n1,hn1,st2,he2,F1,ρ1,fr1,hput,hwent,_⟩:=hall _ (zc.2 rfl);rw[e1]at hwent;simp only at hput hwent;have hv:∃ob f,UD X.C fr o=some (ob,f)∧x=f h.nx∧h1=h.push ob:=by
       cases hdid with
       |val hd=>obtain⟨ob,f,k1,k2⟩:=Lw hal hd;cases k2;exact⟨ob,f,k1,rfl,rfl⟩
       |skip hd=>obtain⟨ob,f,k1,k2⟩:=Lw hal hd;cases k2
       |call hd _=>obtain⟨ob,f,k1,k2⟩:=Lw hal hd;cases k2
       |round hd _=>obtain⟨ob,f,k1,k2⟩:=Lw hal hd;cases k2
       |alts hd=>obtain⟨ob,f,k1,k2⟩:=Lw hal hd;cases k2
      obtain⟨ob1,f,k1,rfl,rfl⟩:=hv;have hrs2:Ry X.C F1 ρ1 st2.nx (h.push ob1) rs cs:=hrs.mono (by rw[e1];exact hwent.le) (by simp) (fun b hb=>by simp[Nat.ne_of_lt hb]);refine fin (cs2:=cs) hn1 hwent hrs2 he2 ⟨0,fun m _=>⟨f h.nx,?_⟩⟩;unfold F5;simp only[ho,hw,cond_true,hrd,cond_false,hal,k1,hput]
     |false=>
      rw[hal]at he;simp only[cond_false]at he;cases hap2:(zL anc i st1 (EZ X.sp st1 o.op) rs&&Vv st1 o.op)with
      |false=>rw[hap2]at he;exact absurd he Ev.Aw
      |true=>
       rw[hap2]at he;simp only[cond_true]at he;simp only[zf]at hap2;obtain⟨hap,hnr⟩:=hap2;obtain⟨l,hdid,hnd,hall⟩:=FI hcall hr1 he;obtain⟨⟨⟨x,h1⟩,rfl⟩,hna⟩:=hnd.1 rfl;obtain⟨n1,hn1,st2,he2,F1,ρ1,fr1,hput,hwent,htch⟩:=hall _ (zc.2 rfl);simp only at hput hwent htch;obtain⟨k1,k2⟩:=Ry.apart hr1 hwent htch hrs hap;rw[e1]at hwent;refine fin hn1 hwent k2 he2 ?_;have hh:∃M,∀m,M≤m→CC X.C (AY X.C m) fr h o=some (x,h1):=by
        cases hdid with
        |val hd=>exact⟨0,fun m _=>by unfold CC;rw[hd]⟩
        |skip hd=>exact⟨0,fun m _=>by unfold CC;rw[hd]⟩
        |alts hd=>exact absurd hd (hna _)
        |round hd _=>exact absurd hd (hnd.2 (fun id a e=>by unfold Vv at hnr;rw[e]at hnr;cases hnr) _ _ _)
        |@call g args _ M hd hM=>exact⟨M,fun m hm=>by unfold CC;rw[hd];simp only[hM m hm]⟩
       obtain⟨M,hM⟩:=hh;refine⟨M,fun m hm=>⟨x,?_⟩⟩;unfold F5;simp only[ho,hw,cond_true,hrd,cond_false,hal,hM m hm,hput,k1]
   ·cases hv:BQ o with
    |false=>
     rw[hv]at he;simp only[cond_false]at he;unfold Jj at he;split at he
     case h_2=>exact absurd he Ev.Aw
     rename_i st2 hput;obtain⟨fr1,g1,g2,g3,g4⟩:=hr1.put (x:=.tup []) (by simp[PR]) hput;refine fin (cs2:=cs) (zd _) ⟨g2,by rw[g3,e1];exact zu,zd _⟩ (by rw[g3];exact hrs) he ⟨0,fun m _=>⟨.tup [],?_⟩⟩;unfold F5;simp only[ho,hw,cond_false,g1,hv]
    |true=>
     rw[hv]at he;simp only[cond_true]at he;cases hap:zL anc i st1 (some []) rs with
     |false=>rw[hap]at he;exact absurd he Ev.Aw
     |true=>
      rw[hap]at he;simp only[cond_true]at he;unfold Jj at he;split at he
      case h_2=>exact absurd he Ev.Aw
      rename_i st2 hput;obtain⟨fr1,g1,g2,g3,g4⟩:=hr1.put (x:=.tup []) (by simp[PR]) hput;have hwent:Cu B h0 F ρ st1.nx h st2 fr1 h F ρ:=⟨g2,by rw[g3];exact zu,zd _⟩;obtain⟨k1,k2⟩:=Ry.apart (t:=some []) hr1 hwent (fun ids _ b _=>.inl rfl) hrs hap;rw[e1]at hwent;refine fin (zd _) hwent k2 he ⟨0,fun m _=>⟨.tup [],?_⟩⟩;unfold F5;simp only[ho,hw,cond_false,g1,hv,cond_true,k1]
theorem TO{call:D6}(hcall:DO B h0 X false call){ops:Array Oper}{k:AD→Tr}(hr:Rel B h0 F ρ st fr h)(he:Ev X Q n (HL X.C.T X.sp call ops (Dl ops).a (Dl ops).ord st [] k)):
  ∃n',n'≤n∧∃st1,Ev X Q n' (k st1)∧∃F' ρ' fr' h',Cu B h0 F ρ st.nx h st1 fr' h' F' ρ'∧∃M,∀m,M≤m→GG X.C (AY X.C m) ops fr h=some (fr',h'):=by
 obtain⟨n',hn,st1,he1,F',ρ',fr',h',hw,M,hM⟩:=LF (cs:=[]) hcall hr (by rfl) he;refine⟨n',hn,st1,he1,F',ρ',fr',h',hw,M,fun m hm=>?_⟩;obtain⟨cs',hcs'⟩:=hM m hm;unfold GG;rw[hcs']
end
section
variable {B:Nat}{h0:H0}{F:Fz}{ρ ρ':C8}{N N':Nat}{f:Nat→Option Nat}
mutual
theorem LO(hf:∀i j,i<N→f i=some j→j<N'∧ρ' j=ρ i):∀ {p:PV} {v:V},PR F ρ N p v→PR F ρ' N' (Ek f p) v
 | .any,_,_=>by simp[Ek,PR]
 | .bl _,_,h=>by simpa only[Ek,PR]using h
 | .ub,_,h=>by simpa only[Ek,PR]using h
 | .dat _ _,_,h=>by simpa only[Ek,PR]using h
 | .nil,_,h| .nilp,_,h| .nilm,_,h| .nilf,_,h| .nili,_,h=>by simpa only[Ek,PR]using h
 | .dptr _ _ _,_,h=>by simpa only[Ek,PR]using h
 | .agg l,_,h=>by simp only[Ek,PR]at h ⊢;obtain⟨cs,rfl,h1⟩:=h;exact⟨cs,rfl,DZ hf h1⟩
 | .tup l,_,h=>by simp only[Ek,PR]at h ⊢;obtain⟨cs,rfl,h1⟩:=h;exact⟨cs,rfl,DZ hf h1⟩
 | .fn g a b,_,h=>by simp only[Ek,PR]at h ⊢;obtain⟨x,y,rfl,h1,h2⟩:=h;exact⟨x,y,rfl,DZ hf h1,DZ hf h2⟩
 | .ptr i o,_,h=>by
  simp only[Ek];cases hi:f i with
  |none=>simp[PR]
  |some j=>
   simp only[PR]at h ⊢;obtain⟨h1,h2⟩:=hf i j h.1 hi;exact⟨h1,fun b n hb=>h.2 b n (by rw[←h2];exact hb)⟩
 | .eptr i _ _ _,_,h=>by
  simp only[Ek];cases hi:f i with
  |none=>simp[PR]
  |some j=>
   simp only[PR]at h ⊢;obtain⟨h1,h2⟩:=hf i j h.1 hi;exact⟨h1,fun b n hb=>h.2 b n (by rw[←h2];exact hb)⟩
 | .sl i _ _ _ _,_,h=>by
  simp only[Ek];cases hi:f i with
  |none=>simp[PR]
  |some j=>
   simp only[PR]at h ⊢;obtain⟨h1,h2⟩:=hf i j h.1 hi;exact⟨h1,fun b n hb=>h.2 b n (by rw[←h2];exact hb)⟩
 | .yl i,_,h=>by
  simp only[Ek];cases hi:f i with
  |none=>simp[PR]
  |some j=>
   simp only[PR]at h ⊢;obtain⟨h1,h2⟩:=hf i j h.1 hi;exact⟨h1,fun b n hb=>h.2 b n (by rw[←h2];exact hb)⟩
 | .mp i,_,h=>by
  simp only[Ek];cases hi:f i with
  |none=>simp[PR]
  |some j=>
   simp only[PR]at h ⊢;obtain⟨h1,h2⟩:=hf i j h.1 hi;exact⟨h1,fun b n hb=>h.2 b n (by rw[←h2];exact hb)⟩
theorem DZ(hf:∀i j,i<N→f i=some j→j<N'∧ρ' j=ρ i):∀ {ps:List PV} {vs:List V},AW F ρ N ps vs→AW F ρ' N' (Ij f ps) vs
 |[],_,h=>by simpa [Ij]using h
 |p::ps,_,h=>by
  simp only[AW]at h;obtain⟨v,vs,rfl,h1,h2⟩:=h;simp only[Ij,AL];exact⟨LO hf h1,DZ hf h2⟩
end
theorem Nl(f:PV→PV):∀(sl:List (Nat×PV)) (m m':PM PV),(∀t,m'.get t=(m.get t).map f)→∀t,((sl.map fun x=>(x.1,f x.2)).foldl (fun m x=>m.set x.1 (some x.2)) m').get t=((sl.foldl (fun m x=>m.set x.1 (some x.2)) m).get t).map f
 |[],_,_,h,t=>h t
 |x::sl,m,m',h,t=>by
  simp only[zV,List.foldl_cons];refine Nl f sl _ _ (fun t=>?_) t;rw[PM.Ci,PM.Ci];split
  ·rfl
  ·exact h t
theorem RF(f:PV→PV)(hf:f .any=.any)(sl:List (Nat×PV))(t:Nat):O8 (sl.map fun x=>(x.1,f x.2)) t=f (O8 sl t):=by
 unfold O8 DW;rw[Nl f sl .leaf .leaf (fun t=>by rw[PM.Cq];rfl) t];cases (sl.foldl (fun m x=>m.set x.1 (some x.2)) PM.leaf).get t with
 |none=>exact hf.symm
 |some x=>rfl
theorem Wq(hf:∀i j,i<N→f i=some j→j<N'∧ρ' j=ρ i){n:Nat}{o:Obj}{x:O}(h:S5 F ρ N n o x):S5 F ρ' N' n (Oe f o) x:=by
 cases o with
 |arr fz e s l=>exact h
 |box ps=>obtain⟨cs,t,fz,h1,h2,h3⟩:=h;exact⟨cs,t,fz,h1,DZ hf h2,h3⟩
 |lp g r ps asg body s n sl=>
  obtain⟨ls,h1,h2,h3,h4,h5,h6,h7⟩:=h;refine⟨ls,h1,h2,h3,h4,h5,h6,fun t=>?_⟩;rw[RF (Ek f) (by simp[Ek])];exact LO hf (h7 t)
 |map ks vs l=>exact h
 |siter s p=>exact h
theorem PA(o:Obj):(Oe f o).frozen=o.frozen:=by cases o<;>rfl
theorem Hx{st:AD}{base:Nat}:∀(n:Nat) (is acc:List Nat),(∀i∈acc,base≤i∧(st.obj i).isSome=true)→acc.Nodup→(∀i∈GJ st base n is acc,base≤i∧(st.obj i).isSome=true)∧(GJ st base n is acc).Nodup
 |0,_,acc,h1,h2=>⟨h1,h2⟩
 |n+1,[],acc,h1,h2=>⟨h1,h2⟩
 |n+1,i::is,acc,h1,h2=>by
  unfold GJ;cases hc:(zt i base||acc.any (zi i))with
  |true=>simp only[cond_true];exact Hx n is acc h1 h2
  |false=>
   simp only[cond_false];cases ho:st.obj i with
   |none=>simp only;exact Hx n is acc h1 h2
   |some o=>
    simp only;simp only[Bool.or_eq_false_iff]at hc;have hb:base≤i:=by
     rcases Nat.lt_or_ge i base with h|h
     ·have:=hc.1;rw[CJ h]at this;cases this
     ·exact h
    have hni:i∉acc:=by
     intro hi;have:acc.any (zi i)=true:=List.any_eq_true.2 ⟨i,hi,zG i⟩;rw[hc.2]at this;cases this
    refine Hx n _ _ (fun j hj=>?_) ?_
    ·rcases zS.1 hj with hj|hj
     ·exact h1 j hj
     ·cases zc.1 hj;exact⟨hb,by rw[ho];rfl⟩
    ·rw[List.nodup_append];exact⟨h2,by simp,fun a ha b hb'=>by cases zc.1 hb';exact fun e=>hni (e▸ha)⟩
theorem Mc{base:Nat}:∀(ids:List Nat) (n i j:Nat),ids.Nodup→KV base ids n i=some j→(∃k,ids[k]?=some i∧j=n+k)∨(i∉ids∧i<base∧j=i)
 |[],n,i,j,_,h=>by
  unfold KV at h;cases hb:zt i base with
  |false=>rw[hb]at h;cases h
  |true=>rw[hb]at h;cases h;exact .inr ⟨by simp,zB hb,rfl⟩
 |a::ids,n,i,j,hn,h=>by
  unfold KV at h;rw[A1]at h;by_cases e:i=a
  ·subst e;simp only[decide_true,cond_true,zg]at h;exact .inl ⟨0,rfl,by omega⟩
  ·simp only[e,decide_false,cond_false]at h;have hn':=List.nodup_cons.1 hn;rcases Mc ids (zW n 1) i j hn'.2 h with⟨k,h1,h2⟩|⟨h1,h2,h3⟩
   ·exact .inl ⟨k+1,by simpa using h1,by rw[h2];show n+1+k=_;omega⟩
   ·exact .inr ⟨by simp[e,h1],h2,h3⟩
theorem Se(f:Nat→Option Nat)(base:Nat):∀(l:Ob) (j:Nat),AF (low f base l) j=if j<base then(AF l j).map (Oe f)else none
 |[],j=>by simp[low,AF]
 |(i,o)::l,j=>by
  simp only[low];have ih:=Se f base l j;by_cases hi:i<base
  ·rw[CJ hi];simp only[cond_true,AF,A1];by_cases e:i=j
   ·subst e;simp[hi]
   ·simp only[e,decide_false,cond_false];exact ih
  ·have:zt i base=false:=by
    cases hb:zt i base with
    |false=>rfl
    |true=>exact absurd (zB hb) hi
   rw[this];simp only[cond_false,AF,A1];rw[ih];by_cases e:i=j
   ·subst e;simp[hi]
   ·simp[e]
theorem P3{st:AD}(f:Nat→Option Nat):∀(ids:List Nat) (n:Nat) (acc:Ob) (j:Nat),(∀i∈ids,(st.obj i).isSome=true)→AF (kept st f ids n acc) j=(if n≤j∧j<n+ids.length then(ids[j-n]?).bind fun i=>(st.obj i).map (Oe f)else AF acc j)
 |[],n,acc,j,_=>by simp only[kept,zR];rw[if_neg (by omega)]
 |i::ids,n,acc,j,h=>by
  obtain⟨o,ho⟩:=Option.isSome_iff_exists.1 (h i (by simp));unfold kept;rw[ho];simp only;rw[P3 f ids (zW n 1) _ j (fun k hk=>h k (by simp[hk]))];have ea:zW n 1=n+1:=rfl;rw[ea];by_cases h1:n+1≤j∧j<n+1+ids.length
  ·rw[if_pos h1,if_pos (by simp;omega)];have:j-n=(j-(n+1))+1:=by omega
   rw[this];simp
  ·rw[if_neg h1];simp only[AF,A1];by_cases e:n=j
   ·subst e;rw[if_pos (by simp)];simp[ho]
   ·rw[if_neg (by simp;omega)];simp[e]
theorem Gw:∀(vs:List (Nat×PV)) (m:PM PV) (t:Nat) (p:PV),(vs.foldl (fun m x=>m.set x.1 (some x.2)) m).get t=some p→(t,p)∈vs∨m.get t=some p
 |[],m,t,p,h=>.inr h
 |x::vs,m,t,p,h=>by
  rcases Gw vs _ t p h with h1|h1
  ·exact .inl (zE _ h1)
  ·rw[PM.Ci]at h1;split at h1
   ·rename_i e;cases h1;exact .inl (by rw[e];exact zI)
   ·exact .inr h1
theorem UA{st:AD}{fr:Fr}{h:H}(hr:Rel B h0 F ρ st fr h)(base:Nat)(L:List Nat)(_hb:base≤st.nx):
  ∃ρ',Rel B h0 F ρ' (canon base L st) fr h∧base≤(canon base L st).nx∧∀id,id<base→ρ' id=ρ id:=by
 generalize hids:GJ st base 100 (IU ((L.map fun t=>(t,st.get t)).map (·.2))++Mv base st.ob) []=ids;have hok:=Hx (st:=st) (base:=base) 100 (IU ((L.map fun t=>(t,st.get t)).map (·.2))++Mv base st.ob) [] (fun i hi=>by cases hi) List.nodup_nil;rw[hids]at hok;obtain⟨hal,hnd⟩:=hok;let g:=KV base ids base
 let ρ1:C8:=fun id=>if id<base then ρ id else(ids[id-base]?).bind ρ
 have hlow:∀id,id<base→ρ1 id=ρ id:=fun id h=>by show(if id<base then ρ id else _)=_;rw[if_pos h]
 have hhigh:∀k i,ids[k]?=some i→ρ1 (base+k)=ρ i:=by
  intro k i hk;show(if base+k<base then ρ (base+k)else(ids[base+k-base]?).bind ρ)=ρ i;rw[if_neg (by omega),Nat.add_sub_cancel_left,hk];rfl
 have hc:canon base L st=AB st.n ((L.map fun t=>(t,st.get t)).map fun x=>(x.1,Ek g x.2)) (kept st g ids base (low g base st.ob)) (base+ids.length):=by
  rw[show g=KV base ids base from rfl, ←hids];rfl
 have hg:∀i j,i<st.nx→g i=some j→j<base+ids.length∧ρ1 j=ρ i:=by
  intro i j _ hij;rcases Mc ids base i j hnd hij with⟨k,h1,rfl⟩|⟨_,h2,rfl⟩
  ·have:=(zm.1 h1).1;exact⟨by omega,hhigh k i h1⟩
  ·exact⟨by omega,hlow _ h2⟩
 have hob:∀j,AF (kept st g ids base (low g base st.ob)) j=if j<base then(AF st.ob j).map (Oe g)else(ids[j-base]?).bind fun i=>(st.obj i).map (Oe g):=by
  intro j;rw[P3 g ids base _ j (fun i hi=>(hal i hi).2),Se];by_cases h1:j<base
  ·rw[if_neg (by omega),if_pos h1,if_pos h1]
  ·by_cases h2:j<base+ids.length
   ·rw[if_pos (by omega),if_neg h1]
   ·rw[if_neg (by omega),if_neg h1,if_neg h1,List.getElem?_eq_none (by omega)];rfl
 have src:∀j o',AF (kept st g ids base (low g base st.ob)) j=some o'→∃i o,AF st.ob i=some o∧o'=Oe g o∧ρ1 j=ρ i∧j<base+ids.length∧((j<base∧i=j)∨(base≤j∧ids[j-base]?=some i∧base≤i)):=by
  intro j o' hj;rw[hob]at hj;by_cases h1:j<base
  ·rw[if_pos h1,zl]at hj;obtain⟨o,h2,rfl⟩:=hj;exact⟨j,o,h2,rfl,hlow j h1,by omega,.inl ⟨h1,rfl⟩⟩
  ·rw[if_neg h1]at hj;cases hk:ids[j-base]? with
   |none=>rw[hk]at hj;cases hj
   |some i=>
    rw[hk]at hj;simp only[Option.bind_some,zl]at hj;obtain⟨o,h2,rfl⟩:=hj;have hlt:=(zm.1 hk).1;have:=hhigh (j-base) i hk;rw[show base+(j-base)=j from by omega]at this;exact⟨i,o,h2,rfl,this,by omega,.inr ⟨by omega,by first|exact hk|rfl,(hal i (List.mem_of_getElem? hk)).1⟩⟩
 refine⟨ρ1,?_,by rw[hc];show base≤base+ids.length;omega,hlow⟩;rw[hc];refine⟨⟨hr.fp.n,fun t=>?_⟩,⟨fun j o' hj=>?_,fun i j oi oj c m m' hi hj h1 h2=>?_,hr.sr.frz,fun id b m hbm=>?_,fun j hj=>?_,hr.sr.old,hr.sr.lt,hr.sr.le,hr.sr.fo,hr.sr.gl,fun c hc=>?_⟩⟩
 ·generalize hvs:((L.map fun t=>(t,st.get t)).map fun x=>(x.1,Ek g x.2))=vs;show PR F ρ1 (base+ids.length) (((DW vs).get t).getD .any) (fr.get t);cases hp:(DW vs).get t with
  |none=>show PR F ρ1 (base+ids.length) PV.any (fr.get t);simp[PR]
  |some p=>
   show PR F ρ1 (base+ids.length) p (fr.get t);rcases Gw vs .leaf t p hp with h1|h1
   ·rw[←hvs]at h1;simp only[List.map_map,List.mem_map,Function.comp]at h1;obtain⟨s,_,h2⟩:=h1;cases h2;exact LO hg (hr.fp.slot _)
   ·simp at h1
 ·obtain⟨i,o,h1,rfl,h2,h3,_⟩:=src j o' hj;obtain⟨b,m,x,k1,k2,k3,k4⟩:=hr.sr.obj i o h1;exact⟨b,m,x,h2.trans k1,k2,Wq hg k3,by rw[PA];exact k4⟩
 ·obtain⟨a,o,g1,_,g2,_,g3⟩:=src i oi hi;obtain⟨a',o',g4,_,g5,_,g6⟩:=src j oj hj;rw[g2]at h1;rw[g5]at h2;have hab:=hr.sr.inj a a' o o' c m m' g1 g4 h1 h2;subst hab;rcases g3 with⟨e1,e2⟩|⟨e1,e2,e3⟩<;>rcases g6 with⟨f1,f2⟩|⟨f1,f2,f3⟩
  ·omega
  ·omega
  ·omega
  ·have i1:=zm.1 e2;have i2:=zm.1 f2;have:=(List.getElem?_inj i1.1 hnd).1 (e2.trans f2.symm);omega
 ·have hbm:(if id<base then ρ id else(ids[id-base]?).bind ρ)=some (b,m):=hbm;by_cases h1:id<base
  ·rw[if_pos h1]at hbm;exact⟨by show id<base+ids.length;omega,(hr.sr.own id b m hbm).2⟩
  ·rw[if_neg h1]at hbm;cases hk:ids[id-base]? with
   |none=>rw[hk]at hbm;cases hbm
   |some i=>
    rw[hk]at hbm;have:=(zm.1 hk).1;exact⟨by show id<base+ids.length;omega,(hr.sr.own i b m hbm).2⟩
 ·have hj':AF (kept st g ids base (low g base st.ob)) j=none:=hj;rw[hob]at hj';show(if j<base then ρ j else(ids[j-base]?).bind ρ)=none;by_cases h1:j<base
  ·rw[if_pos h1]at hj' ⊢;exact hr.sr.dead j (by simpa using hj')
  ·rw[if_neg h1]at hj' ⊢;cases hk:ids[j-base]? with
   |none=>rfl
   |some i=>
    rw[hk]at hj';simp only[Option.bind_some,Option.map_eq_none_iff]at hj' ⊢;exact hr.sr.dead i hj'
 ·obtain⟨g1,g2,g3⟩:=hr.sr.pn c hc;refine⟨g1,g2,fun id m e=>?_⟩;have e:(if id<base then ρ id else(ids[id-base]?).bind ρ)=some (c,m):=e;by_cases h1:id<base
  ·rw[if_pos h1]at e;exact g3 id m e
  ·rw[if_neg h1]at e;cases hk:ids[id-base]? with
   |none=>rw[hk]at e;cases e
   |some i=>rw[hk]at e;exact g3 i m e
end
section
variable {B:Nat}{h0:H0}{X:A2}{F F1 F':Fz}{ρ:C8}{N:Nat}{st st':AD}{fr:Fr}{h h':H}
end
end Go.Pe
end
