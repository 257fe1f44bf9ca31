import Derived.Test.YtknhdhchejmpgaaGreatDoorX07
/- A part of a proof (no law is stated here). Made by program out of texts by AI agents. -/
noncomputable section
open Bool renaming and_eq_true -> zc, and_self -> yx, or_true -> qe
open Nat renaming eq_of_beq_eq_true -> zd, beq -> zf, le_refl -> zg, mul_le_mul_right -> zh, ble_eq_true_of_le -> zi, ble -> zl, add_mul -> zr, succ_mul -> zu, zero_mul -> zw, blt -> ya, beq_refl -> ye, lt_succ_self -> yf, min_eq_left -> yk, add_assoc -> yo, sub_self -> yt, mul_one -> y9, blt_eq -> qc, add_comm -> qd
open Go.Pe.OK renaming pure -> ze
open Option.some renaming injEq -> zj
open Option renaming map_eq_some_iff -> zk, map_some -> zt, getD_some -> yn
open List renaming replicate -> zo, length_eq_zero_iff -> zq, replicate_succ -> z6, all_eq_true -> z8, mem_singleton -> yb, length_replicate -> yc, getElem?_append_right -> yd, drop_eq_getElem_cons -> yg, getElem?_append_left -> yh, length_nil -> yj, drop_zero -> ym, getElem?_range -> yr, flatten_cons -> yu, ext_getElem? -> yv, getElem?_map -> yw, getElem_cons_zero -> yz, take_of_length_le -> y7, length_map -> y8
open Int renaming ofNat -> z7, eq_ofNat_of_zero_le -> yy
open Prod.mk renaming injEq -> yi
open Go.Pe.Le renaming refl -> yp
open List.cons renaming injEq -> yq
namespace Go.Pe
open Go.Det
section
variable {B:Nat}{h0:H0}{F:Fz}{ρ:D9}{N:Nat}{C:Ctx}{st st':AI}{fr:Fr}{h:H}
theorem QW:∀ {ks:List FK} {ps qs:List PV} {xs ys:List V} {r:Bool},Ba F ρ N ps xs->Ba F ρ N qs ys->GP ks ps qs=some r->fit ks xs=true/\fit ks ys=true/\BM xs ys=some r
 |[],[],[],xs,ys,r,hx,hy,hd=>by
  simp at hx hy;subst hx hy;simp only[GP,zj]at hd;subst hd;exact⟨rfl,rfl,rfl⟩
 |[],_::_,_,xs,ys,r,hx,hy,hd=>by simp[GP]at hd
 |[],[],_::_,xs,ys,r,hx,hy,hd=>by simp[GP]at hd
 |k::ks,[],_,xs,ys,r,hx,hy,hd=>by cases k<;>simp[GP]at hd
 |k::ks,_::_,[],xs,ys,r,hx,hy,hd=>by cases k<;>simp[GP]at hd
 |k::ks,p::ps,q::qs,xs,ys,r,hx,hy,hd=>by
  simp only[Ba]at hx hy;obtain⟨x,xs,rfl,hx1,hx2⟩:=hx;obtain⟨y,ys,rfl,hy1,hy2⟩:=hy;have key:∀ {c:Bool},k.ok x=true->k.ok y=true->DJ x y=some c->(GP ks ps qs).map (fun r=>c&&r)=some r->fit (k::ks) (x::xs)=true/\fit (k::ks) (y::ys)=true/\BM (x::xs) (y::ys)=some r:=by
   intro c h1 h2 h3 h4;rw[zk]at h4;obtain⟨r',h5,rfl⟩:=h4;obtain⟨g1,g2,g3⟩:=QW hx2 hy2 h5;refine⟨by simp[fit,h1,g1],by simp[fit,h2,g2],?_⟩;have hl:xs.length=ys.length:=by rw[<-SM g1, <-SM g2]
   cases c with
   |true=>simp only[BM,h3,g3,Bool.true_and]
   |false=>simp only[BM,h3,Bool.false_and,hl,wk]
  unfold GP at hd;split at hd
  case h_1=>rename_i e _ _;cases e
  case h_2=>
   rename_i k' ks' k1 a xs' k2 b ys' e1 e2 e3;cases e1;cases e2;cases e3;cases hk:(k'==k1&&k'==k2)with
   |false=>rw[hk]at hd;cases hd
   |true=>
    rw[hk]at hd;simp only[zc,wj]at hk;obtain⟨rfl,rfl⟩:=hk;obtain rfl:=CG hx1;obtain rfl:=CG hy1;exact key (by simp[FK.ok]) (by simp[FK.ok]) (by simp[DJ]) hd
  case h_3=>
   rename_i e1 e2 e3;cases e1;cases e2;cases e3;obtain rfl:=EZ hx1;obtain rfl:=EZ hy1;exact key rfl rfl (by simp[DJ]) hd
  case h_4=>
   rename_i e1 e2 e3;cases e1;cases e2;cases e3;split at hd
   case h_2=>cases hd
   rename_i a b ha hb;obtain rfl:=Ha ha hx1;obtain rfl:=Ha hb hy1;exact key rfl rfl rfl hd
  case h_5=>cases hd
theorem Yz(hr:SR B h0 F ρ st.nx st.ob h){op:BinOp}{t e:TypeId}(hu:C.T.und t=some (.slice e)){p:PV}{x:V}(hx:PR F ρ st.nx p x){ng:Bool}{v:PV}(ht:(SG st ng p).To v st'):
  (∀(_:x=.nili),False)/\∃b,Bp C.T t x .nils=some b/\PR F ρ st.nx v (.bool (b !=ng))/\Md C.T op t x .nils=(match op with| .eql=>(Bp C.T t x .nils).map fun b=>.bool b| .neq=>(Bp C.T t x .nils).map fun b=>.bool !b|_=>none)/\st'=st:=by
 have dq:∀ {x:V},x=.nils\/x=.esl\/x=.es0\/(∃b off len cap o,x=.sl b off len cap o)->Md C.T op t x .nils=(match op with| .eql=>(Bp C.T t x .nils).map fun b=>.bool b| .neq=>(Bp C.T t x .nils).map fun b=>.bool !b|_=>none):=by
  rintro x (rfl|rfl|rfl|⟨b,off,len,cap,o,rfl⟩)<;>cases op<;>rfl
 have no:∀ {x:V},x=.esl\/x=.es0\/(∃b off len cap o,x=.sl b off len cap o)->Bp C.T t x .nils=some false:=by
  rintro x (rfl|rfl|⟨b,off,len,cap,o,rfl⟩)<;>simp[Bp,hu]
 have yes:Bp C.T t .nils .nils=some true:=by simp[Bp,hu]
 unfold SG at ht;split at ht
 case h_1=>
  simp only[AP]at ht;obtain⟨rfl,rfl⟩:=ht;simp only[PR]at hx;subst hx;exact⟨fun e=>(by cases e),true,yes,by simp[PR],dq (.inl rfl),rfl⟩
 case h_2=>
  rename_i id sz off len cap;cases hl:HU (st.obj id)with
  |false=>rw[hl]at ht;simp at ht
  |true=>
   rw[hl]at ht;simp only[we,AP]at ht;obtain⟨rfl,rfl⟩:=ht;obtain⟨o,ho⟩:=HX hl;obtain⟨b,n,_,h1,_⟩:=hr.at ho;simp only[PR]at hx;have:x=.esl\/x=.es0\/(∃b off len cap o,x=.sl b off len cap o):=by
    rcases hx.2 b n h1 with⟨_,_,o,_,rfl⟩|⟨rfl,_,_,rfl|⟨_,rfl,_⟩⟩
    ·exact .inr (.inr ⟨_,_,_,_,_,rfl⟩)
    ·exact .inl rfl
    ·exact .inr (.inr ⟨_,_,_,_,_,rfl⟩)
   exact⟨fun e=>(by subst e;rcases this with h|h|⟨_,_,_,_,_,h⟩<;>cases h),false,no this,by simp[PR],dq (.inr this),rfl⟩
 case h_3=>
  rename_i s l;simp only[PR,DC]at hx;obtain⟨u,hu1,hx⟩:=hx;obtain rfl:x=u:=by simpa using hu1
  have ht2:(decide (0<(l:List s.T).length)=true/\v=.bl ng/\st'=st)\/(v=.ub/\st'=st):=by
   generalize decide (0<(l:List s.T).length)=c at ht;cases ht with
   |tt ht=>simp only[AP]at ht;exact .inl ⟨rfl,ht.1.symm,ht.2.symm⟩
   |ff ht=>simp only[AP]at ht;exact .inr ⟨ht.1.symm,ht.2.symm⟩
  rcases ht2 with⟨hd,rfl,rfl⟩|⟨rfl,rfl⟩
  ·rcases hx with⟨rfl,_⟩|⟨b,off,cap,o,bs,rfl,_⟩
   ·simp at hd
   ·exact⟨fun e=>(by cases e),false,no (.inr (.inr ⟨_,_,_,_,_,rfl⟩)),by simp[PR],dq (.inr (.inr (.inr ⟨_,_,_,_,_,rfl⟩))),rfl⟩
  ·rcases hx with⟨rfl,rfl|rfl|rfl⟩|⟨b,off,cap,o,bs,rfl,_⟩
   ·exact⟨fun e=>(by cases e),true,yes,by simp[PR],dq (.inl rfl),rfl⟩
   ·exact⟨fun e=>(by cases e),false,no (.inl rfl),by simp[PR],dq (.inr (.inl rfl)),rfl⟩
   ·exact⟨fun e=>(by cases e),false,no (.inr (.inl rfl)),by simp[PR],dq (.inr (.inr (.inl rfl))),rfl⟩
   ·exact⟨fun e=>(by cases e),false,no (.inr (.inr ⟨_,_,_,_,_,rfl⟩)),by simp[PR],dq (.inr (.inr (.inr ⟨_,_,_,_,_,rfl⟩))),rfl⟩
 case h_4=>
  rename_i s l;simp only[AP]at ht;obtain⟨rfl,rfl⟩:=ht;simp only[PR,DC]at hx;obtain⟨u,hu1,hx⟩:=hx;obtain rfl:x=u:=by simpa using hu1
  rcases hx with⟨rfl,rfl⟩|⟨h0,b,off,cap,o,bs,rfl,_⟩
  ·exact⟨fun e=>(by cases e),true,yes,by cases ng<;>simp[PR,DC],dq (.inl rfl),rfl⟩
  ·have hpos:0<(l:List s.T).length:=List.length_pos_iff.2 h0;exact⟨fun e=>(by cases e),false,no (.inr (.inr ⟨_,_,_,_,_,rfl⟩)),by cases ng<;>simp[PR,DC,hpos],dq (.inr (.inr (.inr ⟨_,_,_,_,_,rfl⟩))),rfl⟩
 case h_5=>simp at ht
theorem Wv{o:Option Obj}(h:HU o=true):∃x,o=some x:=by
 cases o with
 |none=>cases h
 |some x=>exact⟨x,rfl⟩
theorem Qq(hr:SR B h0 F ρ st.nx st.ob h){t e:TypeId}{p q:PV}{x y:V}(hu:C.T.und t=some (.pointer e))(hx:PR F ρ st.nx p x)(hy:PR F ρ st.nx q y){r:Bool}(hd:ptrEq C.T e st p q=some r):
  Bp C.T t x y=some r/\x≠ .nili/\∀op,Md C.T op t x y=(match op with| .eql=>(Bp C.T t x y).map .bool| .neq=>(Bp C.T t x y).map fun b=>.bool !b|_=>none):=by
 have live:∀ {id off:Nat} {v:V},PR F ρ st.nx (.ptr id off) v->HU (st.obj id)=true->∃b n,ρ id=some (b,n)/\v=.ptr b off:=by
  intro id off v hv hs;obtain⟨o,ho⟩:=Wv hs;obtain⟨b,n,_,h1,_⟩:=hr.at ho;simp only[PR]at hv;exact⟨b,n,h1,hv.2 b n h1⟩
 unfold ptrEq at hd;split at hd
 case h_5=>cases hd
 case h_1=>
  cases hd;simp only[PR]at hx hy;subst hx hy;exact⟨by unfold Bp;rw[hu],(by intro e;cases e),fun op=>by cases op<;>rfl⟩
 case h_2=>
  rename_i id off;cases hs:HU (st.obj id)with
  |false=>rw[hs]at hd;cases hd
  |true=>
   rw[hs]at hd;cases hd;obtain⟨b,n,_,rfl⟩:=live hx hs;simp only[PR]at hy;subst hy;exact⟨by unfold Bp;rw[hu],(by intro e;cases e),fun op=>by cases op<;>rfl⟩
 case h_3=>
  rename_i id off;cases hs:HU (st.obj id)with
  |false=>rw[hs]at hd;cases hd
  |true=>
   rw[hs]at hd;cases hd;obtain⟨b,n,_,rfl⟩:=live hy hs;simp only[PR]at hx;subst hx;exact⟨by unfold Bp;rw[hu],(by intro e;cases e),fun op=>by cases op<;>rfl⟩
 case h_4=>
  rename_i a i b j;cases hs:(zf a b&&HU (st.obj a))with
  |false=>rw[hs]at hd;cases hd
  |true=>
   rw[hs]at hd;rw[zc]at hs;have hab:=zd hs.1;subst hab;simp only[we]at hd;split at hd
   case h_2=>cases hd
   rename_i ti hti;cases hz:ya 0 ti.size with
   |false=>rw[hz]at hd;cases hd
   |true=>
    rw[hz]at hd;cases hd;rw[qc]at hz;obtain⟨b,n,g1,rfl⟩:=live hx hs.2;obtain⟨b',n',g2,rfl⟩:=live hy hs.2;rw[g1]at g2;cases g2;refine⟨?_,(by intro e;cases e),fun op=>by cases op<;>rfl⟩;unfold Bp;rw[hu];simp only[wk,hti];rw[wd (by omega)];congr 1;rw[Bm,Bool.eq_iff_iff];simp
theorem xV(hr:SR B h0 F ρ st.nx st.ob h){op:BinOp}{t:TypeId}{ox oy:Operand}{p q:PV}{x y:V}(hx:PR F ρ st.nx p x)(hy:PR F ρ st.nx q y){v:PV}(ht:(sV C.T op t p q st).To v st'):
  OK B h0 F ρ st h [] (Bt h (Mu C.T op t ox oy x y)) v st':=by
 have nn:∀ {x y:V},(∀(e:x=.nili),False)->Mu C.T op t ox oy x y=Md C.T op t x y:=by
  intro x y hn;unfold Mu mZ;split
  ·rename_i h;split at h
   ·exact(hn rfl).elim
   ·exact(hn rfl).elim
   ·cases h
  ·rfl
 unfold sV at ht;split at ht
 case h_1=>
  rename_i k a k' b;obtain rfl:=CG hx;obtain rfl:=CG hy;rw[nn (fun e=>by cases e)];cases hs:mV op with
  |true=>
   rw[hs]at ht;simp only[we]at ht;have:=AaO hr ht;unfold Md;cases op<;>simp only[mV]at hs<;>first|(cases hs;done)|exact this
  |false=>
   rw[hs]at ht;simp only[wg]at ht;cases hk:(k==k')with
   |false=>rw[hk]at ht;simp at ht
   |true=>
    rw[hk]at ht;simp only[we]at ht;have:=yB hr ht;have hk:=wj.1 hk;subst hk;unfold Md;cases op<;>simp only[mV]at hs<;>first|(cases hs;done)|(simp only[wk];exact this)
 case h_2=>
  rename_i a b;obtain rfl:=EZ hx;obtain rfl:=EZ hy;rw[nn (fun e=>by cases e)];have:=xO hr ht;unfold Md;cases op<;>exact this
 case h_3=>
  rename_i ps qs;simp only[PR]at hx hy;obtain⟨xs,rfl,hx⟩:=hx;obtain⟨ys,rfl,hy⟩:=hy;rw[nn (fun e=>by cases e)];split at ht
  case h_2=>simp at ht
  rename_i ks hks;have eq:∀ {r:Bool},GP ks ps qs=some r->Bp C.T t (.agg xs) (.agg ys)=some r:=by
   intro r hr';obtain⟨g1,g2,g3⟩:=QW hx hy hr';have:MN (C.T.flat t) xs ys=some r:=by simp[MN,hks,g1,g2,g3]
   unfold Bp;split<;>first|exact this|(simp_all;done)
  split at ht
  case h_1=>
   rename_i r hr';simp only[AP]at ht;obtain⟨rfl,rfl⟩:=ht;exact ze hr (by show Bt h ((Bp C.T t (.agg xs) (.agg ys)).map _)=_;rw[eq hr'];rfl) (DN _)
  case h_2=>
   rename_i r hr';simp only[AP]at ht;obtain⟨rfl,rfl⟩:=ht;exact ze hr (by show Bt h ((Bp C.T t (.agg xs) (.agg ys)).map _)=_;rw[eq hr'];rfl) (DN _)
  case h_3=>simp at ht
 case h_4=>
  split at ht
  case h_4=>simp at ht
  case h_3=>
   rename_i e _ _ hu;split at ht
   case h_3=>simp at ht
   case h_1=>
    rename_i r he;simp only[AP]at ht;obtain⟨rfl,rfl⟩:=ht;obtain⟨k1,k2,k3⟩:=Qq hr hu hx hy he;rw[nn k2,k3];exact ze hr (by simp only[k1];rfl) (Iw _)
   case h_2=>
    rename_i r he;simp only[AP]at ht;obtain⟨rfl,rfl⟩:=ht;obtain⟨k1,k2,k3⟩:=Qq hr hu hx hy he;rw[nn k2,k3];exact ze hr (by simp only[k1];rfl) (Iw _)
  case h_2=>
   rename_i e _ _ hu;unfold iO at ht;split at ht
   case h_3=>simp at ht
   case h_1=>
    have hs:=Yz (op:=.eql) hr hu hx ht;obtain⟨hn,b,h1,h2,h3,e⟩:=hs;subst e;simp only[PR]at hy;subst hy;rw[nn hn,h3];exact ze hr (v':=.bool b) (by simp only[h1];rfl) (by simpa using h2)
   case h_2=>
    have hs:=Yz (op:=.neq) hr hu hx ht;obtain⟨hn,b,h1,h2,h3,e⟩:=hs;subst e;simp only[PR]at hy;subst hy;rw[nn hn,h3];exact ze hr (v':=.bool (!b)) (by simp only[h1];rfl) (by simpa using h2)
  rename_i a b ha hb hu;obtain rfl:=Ha ha hx;obtain rfl:=Ha hb hy;rw[nn (fun e=>by cases e)];have eq:Bp C.T t (.bool a) (.bool b)=some (a==b):=by unfold Bp;rw[hu]
  split at ht
  case h_1=>
   simp only[AP]at ht;obtain⟨rfl,rfl⟩:=ht;exact ze hr (by show Bt h ((Bp C.T t (.bool a) (.bool b)).map _)=_;rw[eq];rfl) (DN _)
  case h_2=>
   simp only[AP]at ht;obtain⟨rfl,rfl⟩:=ht;exact ze hr (by show Bt h ((Bp C.T t (.bool a) (.bool b)).map _)=_;rw[eq];rfl) (DN _)
  case h_3=>simp at ht
theorem AaA(hr:SR B h0 F ρ st.nx st.ob h){op:UnOp}{p:PV}{x:V}(hx:PR F ρ st.nx p x){v:PV}(ht:(pun op p st).To v st'):OK B h0 F ρ st h [] (Bt h (yO op x)) v st':=by
 unfold pun at ht;split at ht<;>simp only[Ly,AP]at ht
 ·obtain⟨rfl,rfl⟩:=ht;obtain rfl:=CG hx;exact ze hr rfl (C8 _ _)
 ·obtain⟨rfl,rfl⟩:=ht;obtain rfl:=NI hx;exact ze hr rfl (Iw _)
 ·obtain⟨rfl,rfl⟩:=ht;simp only[PR]at hx;obtain⟨b,rfl⟩:=hx;exact ze hr (v':=.bool (!b)) rfl (by simp[PR])
 ·obtain⟨rfl,rfl⟩:=ht;obtain rfl:=HC hx;exact ze hr rfl (DN _)
theorem sU(hr:SR B h0 F ρ st.nx st.ob h){s d:TypeId}{p:PV}{x:V}(hx:PR F ρ st.nx p x){v:PV}(ht:(jL C.T s d p st).To v st'):OK B h0 F ρ st h [] (Bt h (FU C.T h s d x)) v st':=by
 unfold jL at ht;split at ht<;>simp only[Ly,AP]at ht
 ·rename_i h1 h2;obtain⟨rfl,rfl⟩:=ht;obtain rfl:=CG hx;exact ze hr (by simp[FU,h1,h2,Bt]) (C8 _ _)
 ·rename_i h1 h2;obtain⟨rfl,rfl⟩:=ht;obtain rfl:=EZ hx;exact ze hr (by simp[FU,h1,h2,Bt]) (JV _)
theorem sZ(hr:SR B h0 F ρ st.nx st.ob h){c a b:PV}{x y z:V}(hc:PR F ρ st.nx c x)(ha:PR F ρ st.nx a y)(hb:PR F ρ st.nx b z){v:PV}(ht:(iW c a b st).To v st'):
  ∃t,x=.bool t/\OK B h0 F ρ st h [] (Bt h (some (if t then y else z))) v st':=by
 unfold iW at ht;split at ht
 case h_3=>simp at ht
 case h_1=>
  rename_i t;simp only[AP]at ht;obtain⟨rfl,rfl⟩:=ht;refine⟨t,NI hc,ze hr rfl ?_⟩;cases t<;>assumption
 case h_2=>
  rename_i t;refine⟨t,HC hc,?_⟩;split at ht
  case h_1=>
   simp only[AP]at ht;obtain⟨rfl,rfl⟩:=ht;obtain rfl:=HC ha;obtain rfl:=NI hb;refine ze hr rfl ?_;cases t<;>exact DN _
  case h_2=>
   simp only[AP]at ht;obtain⟨rfl,rfl⟩:=ht;obtain rfl:=NI ha;obtain rfl:=HC hb;refine ze hr rfl ?_;cases t<;>exact DN _
  case h_3=>
   cases ht with
   |tt h=>simp only[AP]at h;obtain⟨rfl,rfl⟩:=h;exact ze hr rfl ha
   |ff h=>simp only[AP]at h;obtain⟨rfl,rfl⟩:=h;exact ze hr rfl hb
theorem nV(hr:SR B h0 F ρ st.nx st.ob h){t:TypeId}{p:PV}{x:V}(hx:PR F ρ st.nx p x){f:Nat}{v:PV}(ht:(V2 C.T t p f st).To v st'):OK B h0 F ρ st h [] (Bt h (J0 C.T t x f)) v st':=by
 unfold V2 at ht;split at ht
 case h_2=>simp at ht
 rename_i fs ps hu;split at ht
 case h_2=>simp at ht
 rename_i fd hfd;split at ht
 case h_2=>simp at ht
 rename_i d i hd hi;simp only[Ki]at ht;obtain⟨hpk,rfl⟩:=ht;simp only[PR]at hx;obtain⟨cs,rfl,hps⟩:=hx;rw[LM]at hpk;have hp:=hps.drop fd.offset;rcases Kg hp hpk with⟨ha,_,hn,hv⟩|⟨ha,u,us,e,hv⟩
 ·exact ze hr (by simp only[J0,hu,hfd,KQ,hd,hi,ha,we,Bt]) hv
 ·have:cs[fd.offset]?=some u:=by
   have:=wi (·[0]?) e;simpa using this
  exact ze hr (by simp only[J0,hu,hfd,KQ,hd,hi,ha,wg,this,Bt]) hv
theorem oR(hr:SR B h0 F ρ st.nx st.ob h){t:TypeId}{p:PV}{x:V}(hx:PR F ρ st.nx p x){f:Nat}{v:PV}(ht:(VN C.T t p f st).To v st'):
  OK B h0 F ρ st h [] (Bt h (J1 C.T t x f)) v st':=by
 have live:∀ {id},HU (st.obj id)=true->∃b n,ρ id=some (b,n):=by
  intro id hi;obtain⟨o,ho⟩:=HX hi;obtain⟨b,n,_,h1,_⟩:=hr.at ho;exact⟨b,n,h1⟩
 unfold VN at ht;split at ht
 case h_2=>simp at ht
 rename_i fs hu;split at ht
 case h_2=>simp at ht
 rename_i fd hfd;split at ht
 case h_2=>simp at ht
 rename_i i hi;cases hz:zf i.size 0 with
 |true=>rw[hz]at ht;simp at ht
 |false=>
  have hz':i.size≠0:=by intro e;rw[e]at hz;cases hz
  rw[hz]at ht;simp only[wg]at ht;have core:∀b off,J1 C.T t (.ptr b off) f=some (.ptr b (off+fd.offset)):=by
   intro b off;simp only[J1,hu,hfd,hi,hz',ve]
  split at ht
  ·rename_i id off;cases hl:HU (st.obj id)with
   |false=>rw[hl]at ht;simp at ht
   |true=>
   rw[hl]at ht;simp only[we,AP]at ht;obtain⟨rfl,rfl⟩:=ht;have hx':=hx;simp only[PR]at hx';obtain⟨b,n,h1⟩:=live hl;obtain rfl:=hx'.2 b n h1;refine ze hr (by rw[core];rfl) ?_;simp only[PR];exact⟨hx'.1,fun b' n' hb=>by rw[h1]at hb;cases hb;rfl⟩
  ·rename_i id sz j off;cases hl:HU (st.obj id)with
   |false=>rw[hl]at ht;simp at ht
   |true=>
   rw[hl]at ht;simp only[we,AP]at ht;obtain⟨rfl,rfl⟩:=ht;have hx':=hx;simp only[PR]at hx';obtain⟨b,n,h1⟩:=live hl;obtain rfl:=hx'.2 b n h1;refine ze hr (by rw[core];rfl) ?_;simp only[PR];exact⟨hx'.1,fun b' n' hb=>by rw[h1]at hb;cases hb;simp[yo]⟩
  ·rename_i s y off;simp only[AP]at ht;obtain⟨rfl,rfl⟩:=ht;simp only[PR]at hx;obtain⟨b,o,cs,rfl,h1,h2⟩:=hx;refine ze hr (by rw[core];rfl) ?_;simp only[PR];exact⟨b,o,cs,by simp[yo],h1,h2⟩
  ·simp at ht
theorem SR.live(hr:SR B h0 F ρ st.nx st.ob h){id:Nat}(hi:HU (st.obj id)=true):∃b n,ρ id=some (b,n):=by
 obtain⟨o,ho⟩:=HX hi;obtain⟨b,n,_,h1,_⟩:=hr.at ho;exact⟨b,n,h1⟩
theorem DG{i:Int}(h:0<=i):∃n:Nat,i=z7 n/\i.toNat=n:=⟨i.toNat,(Int.toNat_of_nonneg h).symm,rfl⟩
theorem DD{a b:Nat}(h:a<b):ya a b=true:=zi h
theorem cA(hr:SR B h0 F ρ st.nx st.ob h){t:TypeId}{p q:PV}{x y:V}(hx:PR F ρ st.nx p x)(hy:PR F ρ st.nx q y){v:PV}(ht:(R5 C.T t p q st).To v st'):
  OK B h0 F ρ st h [] (Bt h (C0 C.T t x y)) v st':=by
 unfold R5 at ht;split at ht
 case h_3=>simp at ht
 case h_2=>
  rename_i alen e k i hu;obtain rfl:=CG hy;split at ht
  case h_2=>simp at ht
  rename_i ti hti;split at ht
  case h_4=>simp at ht
  case h_1=>
   rename_i id off;simp only[PR]at hx;split at ht
   case h_3=>exact wh ht (by simp)
   case h_1=>
    rename_i fzb te s l ho;cases hcc:(zf off 0&&zf ti.size s.sz)with
    |false=>rw[hcc]at ht;simp at ht
    |true=>
     rw[hcc]at ht;rw[zc]at hcc;have hoff:=zd hcc.1;have hs1:=zd hcc.2;subst hoff;simp only[we,BI,zc,w5]at ht;obtain⟨⟨hi0,hi1⟩,rfl,rfl⟩:=ht;obtain⟨n,rfl,hn⟩:=DG hi0;have hlt:n<alen:=by simp at hi1;exact hi1
     obtain⟨b,m,_,h1,_⟩:=hr.at ho;obtain rfl:=hx.2 b m h1;refine ze hr (v':=.ptr b (0+n*ti.size)) ?_ ?_
     ·show Bt h (C0 C.T t (.ptr b 0) (.int k (z7 n)))=_;simp only[C0,hu,hti,DD hlt,we,Bt]
     ·simp only[PR];refine⟨hx.1,fun b' n' hb=>?_⟩;rw[h1]at hb;cases hb;rw[hn,hs1,Nat.zero_add];rfl
   case h_2=>
    rename_i o _ ho;simp only[BI,zc,w5]at ht;obtain⟨⟨hi0,hi1⟩,rfl,rfl⟩:=ht;obtain⟨n,rfl,hn⟩:=DG hi0;have hlt:n<alen:=by simp at hi1;exact hi1
    obtain⟨b,m,_,h1,_⟩:=hr.at ho;obtain rfl:=hx.2 b m h1;refine ze hr (v':=.ptr b (off+n*ti.size)) ?_ ?_
    ·show Bt h (C0 C.T t (.ptr b off) (.int k (z7 n)))=_;simp only[C0,hu,hti,DD hlt,we,Bt]
    ·simp only[PR];refine⟨hx.1,fun b' n' hb=>?_⟩;rw[h1]at hb;cases hb;rw[hn];rfl
  case h_2=>
   rename_i id sz j off;cases hl:HU (st.obj id)with
   |false=>rw[hl]at ht;simp at ht
   |true=>
    rw[hl]at ht;simp only[we,BI,zc,w5]at ht;obtain⟨⟨hi0,hi1⟩,rfl,rfl⟩:=ht;obtain⟨n,rfl,hn⟩:=DG hi0;have hlt:n<alen:=by simp at hi1;exact hi1
    obtain⟨b,m,h1⟩:=hr.live hl;simp only[PR]at hx;obtain rfl:=hx.2 b m h1;refine ze hr (v':=.ptr b (j*sz+off+n*ti.size)) ?_ ?_
    ·show Bt h (C0 C.T t (.ptr b (j*sz+off)) (.int k (z7 n)))=_;simp only[C0,hu,hti,DD hlt,we,Bt]
    ·simp only[PR];refine⟨hx.1,fun b' n' hb=>?_⟩;rw[h1]at hb;cases hb;rw[hn,yo];rfl
  case h_3=>
   rename_i s y off;simp only[BI,zc,w5]at ht;obtain⟨⟨hi0,hi1⟩,rfl,rfl⟩:=ht;obtain⟨n,rfl,hn⟩:=DG hi0;have hlt:n<alen:=by simp at hi1;exact hi1
   simp only[PR]at hx;obtain⟨b,o,cs,rfl,h1,h2,h3⟩:=hx;refine ze hr (v':=.ptr b (o+off+n*ti.size)) ?_ ?_
   ·show Bt h (C0 C.T t (.ptr b (o+off)) (.int k (z7 n)))=_;simp only[C0,hu,hti,DD hlt,we,Bt]
   ·simp only[PR];refine⟨b,o,cs,?_,h1,h2,h3⟩;rw[hn,yo];rfl
 case h_1=>
 rename_i e k i hu;obtain rfl:=CG hy;split at ht
 case h_2=>simp at ht
 rename_i ti hti;split at ht
 case h_3=>simp at ht
 case h_1=>
  rename_i s l;cases hz:zf ti.size s.sz with
  |false=>rw[hz]at ht;simp at ht
  |true=>
   rw[hz]at ht;have hz:=zd hz;simp only[we,BI,zc,w5]at ht;obtain⟨⟨hi0,hi1⟩,rfl,rfl⟩:=ht;obtain⟨n,rfl,hn⟩:=DG hi0;have hlt:n<l.length:=by simp at hi1;exact hi1
   simp only[PR,DC]at hx;obtain⟨u,hu1,hx⟩:=hx;obtain rfl:x=u:=by simpa using hu1
   rcases hx with⟨rfl,_⟩|⟨b,off,cap,o,bs,rfl,h1,h2,h3,_,h4⟩
   ·simp at hlt
   ·refine ze hr (v':=.ptr b (off+n*ti.size)) ?_ ?_
    ·show Bt h (C0 C.T t (.sl b off l.length cap o) (.int k (z7 n)))=_;simp only[C0,hu,hti,DD hlt,we,Bt]
    ·simp only[PR];refine⟨b,off+n*s.sz,bs,by rw[hz];rfl,h2,?_,?_⟩
     ·have:(n+1)*s.sz<=l.length*s.sz:=zh _ hlt;rw[zu]at this;omega
     ·have:=h4 n hlt;rw[hn,show l.getD n s.Hd=l[n]from by simp[hlt]];exact this
 case h_2=>
  rename_i id sz off len cap;cases hz:(zf ti.size sz&&HU (st.obj id))with
  |false=>rw[hz]at ht;simp at ht
  |true=>
   rw[hz]at ht;simp only[zc]at hz;obtain⟨hz,hl⟩:=hz;have hz:=zd hz;simp only[we,BI,zc,w5]at ht;obtain⟨⟨hi0,hi1⟩,rfl,rfl⟩:=ht;obtain⟨n,rfl,hn⟩:=DG hi0;have hlt:n<len:=by simp at hi1;exact hi1
   obtain⟨b,m,h1⟩:=hr.live hl;simp only[PR]at hx;rcases hx.2 b m h1 with⟨_,_,o,_,rfl⟩|⟨e0,_⟩
   ·refine ze hr (v':=.ptr b (off*sz+n*ti.size)) ?_ ?_
    ·show Bt h (C0 C.T t (.sl b (off*sz) len _ o) (.int k (z7 n)))=_;simp only[C0,hu,hti,DD hlt,we,Bt]
    ·simp only[PR];refine⟨hx.1,fun b' n' hb=>?_⟩;rw[h1]at hb;cases hb;rw[hz,hn];show V.ptr b (off*sz+n*sz)=.ptr b ((n+off)*sz+0);rw[zr,qd (n*sz)];rfl
   ·omega
theorem qS(hr:SR B h0 F ρ st.nx st.ob h){t:TypeId}{p q:PV}{x y:V}(hx:PR F ρ st.nx p x)(hy:PR F ρ st.nx q y){v:PV}(ht:(Wm C.T t p q st).To v st'):
  OK B h0 F ρ st h [] (Bt h (Hv C.T t x y)) v st':=by
 unfold Wm at ht;split at ht
 case h_3=>simp at ht
 case h_2=>
  rename_i alen e ps k i hu;obtain rfl:=CG hy;split at ht
  case h_2=>simp at ht
  rename_i d ti hd hti;simp only[N4,zc,w5]at ht;obtain⟨⟨hi0,hi1⟩,hpk,rfl⟩:=ht;obtain⟨n,rfl,hn⟩:=DG hi0;have hlt:n<alen:=by simp at hi1;exact hi1
  simp only[PR]at hx;obtain⟨cs,rfl,hps⟩:=hx;rw[LM,hn]at hpk;have hp:=hps.drop (n*ti.size);have hdx:Hv C.T t (.agg cs) (.int k (z7 n))=KQ C.T e cs (n*ti.size):=by simp only[Hv,hu,hti,DD hlt,we]
  rcases Kg hp hpk with⟨ha,_,_,hv⟩|⟨ha,u,us,e',hv⟩
  ·exact ze hr (by rw[hdx];simp only[KQ,hd,hti,ha,we,Bt]) hv
  ·have:cs[n*ti.size]?=some u:=by
    have:=wi (·[0]?) e';simpa using this
   exact ze hr (by rw[hdx];simp only[KQ,hd,hti,ha,wg,this,Bt]) hv
 case h_1=>
 rename_i s k i hu;obtain rfl:=EZ hx;obtain rfl:=CG hy;simp only[BI,zc,w5]at ht;obtain⟨⟨hi0,hi1⟩,rfl,rfl⟩:=ht;obtain⟨n,rfl,hn⟩:=DG hi0;have hlt:n<List.length s:=by simp at hi1;exact hi1
 have hg:(s:List UInt8)[n]?=some (s:List UInt8)[n]:=List.getElem?_eq_getElem hlt;refine ze hr (v':=.int .u8 ((s:List UInt8)[n].toNat:Int)) ?_ ?_
 ·show Bt h (Hv C.T t (.str s) (.int k (z7 n)))=_;simp only[Hv,hu,hg,Bt]
 ·rw[hn,show List.getD (s:List UInt8) n 0=(s:List UInt8)[n]from by simp[hlt]];exact C8 _ _
theorem aG(hr:SR B h0 F ρ st.nx st.ob h){p:PV}{x:V}(hx:PR F ρ st.nx p x){i:Nat}{v:PV}(ht:(NK p i st).To v st'):OK B h0 F ρ st h [] (Bt h (GS x i)) v st':=by
 unfold NK at ht;split at ht
 case h_2=>simp at ht
 rename_i ps;split at ht
 case h_2=>simp at ht
 rename_i q hq;simp only[AP]at ht;obtain⟨rfl,rfl⟩:=ht;simp only[PR]at hx;obtain⟨cs,rfl,hps⟩:=hx;obtain⟨u,h1,h2⟩:=hps.get hq;exact ze hr (by simp only[GS,h1,Bt]) h2
def S9(F:Fz)(ρ:D9)(N:Nat):Option PV->Option V->Prop
 |none,x=>x=none
 |some p,x=>∃v,x=some v/\PR F ρ N p v
theorem DS{o:Option PV}{x:Option V}{d:Nat}{c:Bool}{n:Nat}(hx:S9 F ρ N o x)(hp:pb o d=some (c,n))(hc:c=true){y:Nat}(hy:n<=y):G5 x y d=some n:=by
 unfold pb at hp;split at hp
 ·cases hp;simp only[S9]at hx;subst hx;rfl
 ·cases hp;simp only[S9]at hx;obtain⟨v,rfl,hv⟩:=hx;obtain rfl:=CG hv;simp only[w5]at hc;obtain⟨m,rfl,hm⟩:=DG hc;rw[hm]at hy;show(bif zl m y then some m else none)=_;rw[zi hy,hm];rfl
 ·cases hp
theorem S9.isNone{o:Option PV}{x:Option V}(hx:S9 F ρ N o x):(o=none↔x=none):=by
 cases o with
 |none=>simp only[S9]at hx;simp[hx]
 |some p=>simp only[S9]at hx;obtain⟨v,rfl,_⟩:=hx;simp
theorem Mb{T:BW}{t e:TypeId}{ti:TI}{b off len cap o m hh l:Nat}{lo hi mx:Option V}(hu:T.und t=some (.slice e))(hti:T.inf e=some ti)(hm:G5 mx cap cap=some m)(hb:G5 hi m len=some hh)
  (hl:G5 lo hh 0=some l) (hno:hi=none->mx=none):
  Dt T t (.sl b off len cap o) lo hi mx=bif zf m l then(bif zf (JD mx o) 0 then some (.sl b off (hh-l) (m-l) 0)else some .esl)
   else bif zf (JD mx o) 0||zf (JD mx o) ti.size then some (.sl b (off+l*ti.size) (hh-l) (m-l) (JD mx o))else none:=by
 cases hi with
 |some x=>cases mx<;>simp only[Dt,hu,hti,hm,hb,hl]
 |none=>
  cases hno rfl;simp only[Dt,hu,hti,hm,hb,hl]
theorem dN(hr:SR B h0 F ρ st.nx st.ob h){t:TypeId}{p:PV}{x:V}{lo hi mx:Option PV}{a b c:Option V}(hx:PR F ρ st.nx p x)(hlo:S9 F ρ st.nx lo a)(hhi:S9 F ρ st.nx hi b)(hmx:S9 F ρ st.nx mx c)
  {v:PV} (ht:(Sq C.T t p lo hi mx st).To v st'):OK B h0 F ρ st h [] (Bt h (Dt C.T t x a b c)) v st':=by
 unfold Sq at ht;split at ht
 case h_3=>simp at ht
 case h_1=>
  rename_i hu;split at ht
  case h_2=>simp at ht
  rename_i s;obtain rfl:=EZ hx;split at ht
  case h_2=>simp at ht
  rename_i c1 l c2 hh hb1 hb2;simp only[BI,zc,w5]at ht;obtain⟨⟨⟨⟨k1,k2⟩,k3⟩,k4⟩,rfl,rfl⟩:=ht;simp only[S9]at hmx;subst hmx;have e1:=DS hlo hb1 k1 k3;have e2:=DS hhi hb2 k2 k4;exact ze hr (by simp only[Dt,hu,e1,e2,Bt];rfl) (JV _)
 case h_2=>
  rename_i e hu;split at ht
  case h_2=>simp at ht
  rename_i ti hti;split at ht
  case h_4=>simp at ht
  case h_1=>
   rename_i s xs;cases hz:zf ti.size s.sz with
   |false=>rw[hz]at ht;simp at ht
   |true=>
    rw[hz]at ht;have hz:=zd hz;simp only[we]at ht;split at ht
    case h_2=>simp at ht
    rename_i c1 l c2 hh hb1 hb2;simp only[BI,zc,w5]at ht;obtain⟨⟨⟨⟨k1,k2⟩,k3⟩,k4⟩,rfl,rfl⟩:=ht;simp only[S9]at hmx;subst hmx;have e1:=DS hlo hb1 k1 k3;simp only[PR,DC]at hx;obtain⟨u,hu1,hx⟩:=hx;obtain rfl:x=u:=by simpa using hu1
    rcases hx with⟨rfl,rfl|rfl|rfl⟩|⟨bb,off,cap,o,bs,rfl,h1,h2,h3,h5,h4⟩
    ·have e2:=DS hhi hb2 k2 k4;simp only[yj]at e2 k4;refine ze hr (v':=.nils) (by simp only[Dt,hu,show G5 none 0 0=some 0 from rfl,show bS b none=G5 b 0 0 from by cases b<;>rfl,e1,e2,hti,Bt]) ?_;simp[PR,DC]
    ·have e2:=DS hhi hb2 k2 k4;simp only[yj]at e2 k4;refine ze hr (v':=.esl) (by simp only[Dt,hu,show G5 none 0 0=some 0 from rfl,show bS b none=G5 b 0 0 from by cases b<;>rfl,e1,e2,hti,Bt,PX,wg]) ?_;simp[PR,DC]
    ·have e2:=DS hhi hb2 k2 k4;simp only[yj]at e2 k4;refine ze hr (v':=.es0) (by simp only[Dt,hu,show G5 none 0 0=some 0 from rfl,show bS b none=G5 b 0 0 from by cases b<;>rfl,e1,e2,hti,Bt]) ?_;simp[PR,DC]
    ·have e2:G5 b cap xs.length=some hh:=DS hhi hb2 k2 (Nat.le_trans k4 h1);have hds:=Mb (b:=bb) (off:=off) (len:=xs.length) (cap:=cap) (o:=o) (mx:=none) hu hti rfl e2 e1 (fun _=>rfl);have hlen:((xs.drop l).take (Nat.sub hh l)).length=hh-l:=by
      have:Nat.sub hh l=hh-l:=rfl;rw[this];simp;omega
     by_cases hcl:cap=l
     ·have hhl:hh=l:=by omega
      have hemp:(xs.drop l).take (Nat.sub hh l)=[]:=by
       apply List.eq_nil_of_length_eq_zero;rw[hlen];omega
      rw[hemp];by_cases ho:o=0
      ·refine ze hr (v':=.sl bb off (hh-l) (cap-l) 0) ?_ ?_
       ·have:JD none o=0:=ho;rw[hds,this,hcl,ye];rfl
       ·simp only[PR,DC];exact⟨_,rfl,.inr ⟨bb,off,cap-l,0,bs,by simp[hhl],by simp,h2,by simp;omega,.inl rfl,fun i hi=>by simp at hi⟩⟩
      ·refine ze hr (v':=.esl) ?_ ?_
       ·have h1:zf (JD none o) 0=false:=by rw[Bm];simp[JD,ho]
        rw[hds,h1,hcl,ye];rfl
       ·simp[PR,DC]
     ·refine ze hr (v':=.sl bb (off+l*ti.size) (hh-l) (cap-l) o) ?_ ?_
      ·have hb1:zf cap l=false:=by rw[Bm];simp[hcl]
       have ho:(zf (JD none o) 0||zf (JD none o) ti.size)=true:=by
        rcases h5 with rfl|rfl
        ·rfl
        ·rw[hz];show(zf s.sz 0||zf s.sz s.sz)=true;rw[ye,qe]
       rw[hds,hb1,ho];rfl
      ·simp only[PR,DC];refine⟨_,rfl,.inr ⟨bb,off+l*ti.size,cap-l,o,bs,by rw[hlen],by rw[hlen];omega,h2,?_,h5,fun i hi=>?_⟩⟩
       ·rw[hlen,hz];have:(l+(hh-l))*s.sz<=xs.length*s.sz:=zh _ (by omega);rw[zr]at this;omega
       ·rw[hlen]at hi;have hi2:l+i<xs.length:=by omega
        have:=h4 (l+i) hi2;rw[List.getElem_take,List.getElem_drop,hz];rw[zr, <-yo]at this;exact this
  case h_2=>
   rename_i id sz off len cap;cases hz:(zf ti.size sz&&HU (st.obj id))with
   |false=>rw[hz]at ht;simp at ht
   |true=>
    rw[hz]at ht;simp only[zc]at hz;obtain⟨hz,hl⟩:=hz;have hz:=zd hz;simp only[we]at ht;have hno:¬(hi=none/\mx≠none):=by
     rintro⟨rfl,hm⟩;cases mx with
     |none=>exact hm rfl
     |some _=>simp at ht
    split at ht
    case h_1=>simp at ht
    split at ht
    case h_2=>simp at ht
    rename_i c1 l c2 hh c3 m hb1 hb2 hb3;simp only[BI,zc,w5]at ht;obtain⟨⟨⟨⟨⟨⟨⟨k1,k2⟩,k3⟩,k4⟩,k5⟩,k6⟩,k7⟩,rfl,rfl⟩:=ht;have e1:=DS hlo hb1 k1 k4;have e3:=DS hmx hb3 k3 k6;have e2:=DS hhi hb2 k2 k5;have hno':b=none->c=none:=by
     intro hbn;cases hcc:c with
     |none=>rfl
     |some z=>
      exfalso;apply hno;exact⟨hhi.isNone.2 hbn,fun e=>by have:=hmx.isNone.1 e;rw[this]at hcc;cases hcc⟩
    obtain⟨b0,n0,h1⟩:=hr.live hl;simp only[PR]at hx;rcases hx.2 b0 n0 h1 with⟨g1,g2,o,g3,rfl⟩|⟨rfl,rfl,g2,g3⟩
    ·have hds:=Mb (b:=b0) (off:=off*sz) (len:=len) (cap:=cap.getD len) (o:=o) hu hti e3 e2 e1 hno';have hoz:JD c o=0\/JD c o=sz:=by
      unfold JD;cases c with
      |none=>exact g3
      |some _=>exact .inl rfl
     by_cases hml:m=l
     ·have hhl:hh-l=0:=by omega
      by_cases ho:JD c o=0
      ·refine ze hr (v':=.sl b0 (off*sz) (hh-l) (m-l) 0) ?_ ?_
       ·rw[hds,ho,hml,ye];rfl
       ·unfold PR;refine⟨hx.1,fun b' n' hb=>.inr ?_⟩;rw[h1]at hb;cases hb;refine⟨hhl,?_,?_,.inr ⟨off*sz,by rw[hhl,hml,yt],zh _ (Nat.le_add_right _ _)⟩⟩
        ·show some (m-l)=some 0;rw[hml,yt]
        ·show off+l<=n0;omega
      ·refine ze hr (v':=.esl) ?_ ?_
       ·have hb0:zf (JD c o) 0=false:=by rw[Bm];simp[ho]
        rw[hds,hb0,hml,ye];rfl
       ·unfold PR;refine⟨hx.1,fun b' n' hb=>.inr ?_⟩;rw[h1]at hb;cases hb;refine⟨hhl,?_,?_,.inl rfl⟩
        ·show some (m-l)=some 0;rw[hml,yt]
        ·show off+l<=n0;omega
     ·refine ze hr (v':=.sl b0 (off*sz+l*ti.size) (hh-l) (m-l) (JD c o)) ?_ ?_
      ·have hb1:zf m l=false:=by rw[Bm];simp[hml]
       have ho:(zf (JD c o) 0||zf (JD c o) ti.size)=true:=by
        rcases hoz with e|e
        ·rw[e];rfl
        ·rw[e,hz,ye,qe]
       rw[hds,hb1,ho];rfl
      ·unfold PR;refine⟨hx.1,fun b' n' hb=>.inl ?_⟩;rw[h1]at hb;cases hb;refine⟨?_,?_,JD c o,hoz,?_⟩
       ·show hh-l<=m-l;omega
       ·show off+l+(m-l)<=n0;omega
       ·show V.sl b0 (off*sz+l*ti.size) (hh-l) (m-l) (JD c o)=.sl b0 ((off+l)*sz) (hh-l) (m-l) (JD c o);rw[hz,zr]
    ·simp only[yn]at k6 k7 e3;obtain rfl:m=0:=by omega
     obtain rfl:hh=0:=by omega
     obtain rfl:l=0:=by omega
     have hc:c=none:=by
      cases mx with
      |none=>exact hmx
      |some _=>simp[has]at k7
     subst hc;rcases g3 with rfl|⟨off',rfl,g4⟩
     ·refine ze hr (v':=.esl) (by simp only[Dt,hu,hti,show G5 none 0 0=some 0 from rfl,show bS b none=G5 b 0 0 from by cases b<;>rfl,e2,e1,Bt,PX,wg]) ?_;unfold PR;exact⟨hx.1,fun b' n' hb=>.inr ⟨by rfl,by rfl,by rw[h1]at hb;cases hb;exact g2,.inl rfl⟩⟩
     ·refine ze hr (v':=.sl b0 off' 0 0 0) ?_ ?_
      ·rw[Mb (mx:=none) hu hti rfl e2 e1 (fun _=>rfl)];rfl
      ·unfold PR;refine⟨hx.1,fun b' n' hb=>.inr ⟨rfl,rfl,?_,.inr ⟨off',?_,?_⟩⟩⟩
       ·rw[h1]at hb;cases hb;exact g2
       ·rw[h1]at hb;cases hb;rfl
       ·show off'<=(off+0)*sz;exact g4
  case h_3=>
   split at ht
   case h_3=>simp at ht
   case h_2=>
    rename_i c1 l c2 hh q hb1 hb2;split at ht
    case h_2=>simp at ht
    rename_i p' c3 m hb3;simp only[BI,zc,w5]at ht;obtain⟨⟨⟨⟨⟨⟨k1,k2⟩,k5⟩,k3⟩,k4⟩,k6⟩,rfl,rfl⟩:=ht;have e1:=DS hlo hb1 k1 k3;have e2:=DS hhi hb2 k2 (show hh<=0 by omega);have e3:=DS hmx hb3 k5 k6;simp only[PR]at hx;subst hx;cases b with
    |none=>simp[S9]at hhi
    |some b=>exact ze hr (v':=.nils) (by simp only[Dt,hu,e3,show bS (some b) c=G5 (some b) 0 0 from by cases c<;>rfl,e2,e1,hti,Bt]) (by simp[PR])
   rename_i c1 l c2 hh hb1 hb2;simp only[BI,zc,w5]at ht;obtain⟨⟨⟨⟨k1,k2⟩,k3⟩,k4⟩,rfl,rfl⟩:=ht;simp only[S9]at hmx;subst hmx;have e1:=DS hlo hb1 k1 k3;have e2:=DS hhi hb2 k2 k4;simp only[PR]at hx;subst hx;exact ze hr (v':=.nils) (by simp only[Dt,hu,show G5 none 0 0=some 0 from rfl,show bS b none=G5 b 0 0 from by cases b<;>rfl,e1,e2,hti,Bt]) (by simp[PR])
theorem oT(hr:SR B h0 F ρ st.nx st.ob h){t:TypeId}{p q:PV}{x y:V}(hx:PR F ρ st.nx p x)(hy:PR F ρ st.nx q y){v:PV}(ht:(iU C.T t p q st).To v st'):
  OK B h0 F ρ st h [] (Bt h (C0 C.T t x y)) v st':=cA hr hx.lz hy ht
theorem pO(hr:SR B h0 F ρ st.nx st.ob h){t:TypeId}{p:PV}{x:V}{lo hi mx:Option PV}{a b c:Option V}(hx:PR F ρ st.nx p x)(hlo:S9 F ρ st.nx lo a)(hhi:S9 F ρ st.nx hi b)(hmx:S9 F ρ st.nx mx c)
  {v:PV} (ht:(gG C.T t p lo hi mx st).To v st'):OK B h0 F ρ st h [] (Bt h (Dt C.T t x a b c)) v st':=dN hr hx.lz hlo hhi hmx ht
theorem MR.len{ks vs:Sh}{l:List (ks.T×vs.T)}{es:List (V×V×Nat)}(h:MR F ks vs l es):l.length=es.length:=by
 induction h with
 |nil=>rfl
 |cons _ _ _ ih=>simp[ih]
theorem wS(hr:SR B h0 F ρ st.nx st.ob h){ts:Array TypeId}{ps:List PV}{xs:List V}(hx:Ba F ρ st.nx ps xs){v:PV}(ht:(Ub C.T ts ps st).To v st'):OK B h0 F ρ st h [] (Bt h (FA C.T h ts xs)) v st':=by
 unfold Ub at ht;split at ht
 case h_2=>simp at ht
 rename_i t p hts;simp only[Ba]at hx;obtain⟨x,xs',rfl,hx,rfl⟩:=hx;split at ht
 case h_6=>simp at ht
 case h_1=>
  rename_i s hu;simp only[AP]at ht;obtain⟨rfl,rfl⟩:=ht;obtain rfl:=EZ hx;exact ze hr (by simp only[FA,hts,hu,Bt];rfl) (C8 _ _)
 case h_2=>
  rename_i s l hu;simp only[AP]at ht;obtain⟨rfl,rfl⟩:=ht;simp only[PR,DC]at hx;obtain⟨u,hu1,hx⟩:=hx;obtain rfl:x=u:=by simpa using hu1
  rcases hx with⟨rfl,rfl|rfl|rfl⟩|⟨b,off,cap,o,bs,rfl,_⟩
  ·exact ze hr (by simp only[FA,hts,hu,Bt];rfl) (C8 _ _)
  ·exact ze hr (by simp only[FA,hts,hu,Bt];rfl) (C8 _ _)
  ·exact ze hr (by simp only[FA,hts,hu,Bt];rfl) (C8 _ _)
  ·exact ze hr (by simp only[FA,hts,hu,Bt];rfl) (C8 _ _)
 case h_3=>
  rename_i id sz off len cap hu;cases hl:HU (st.obj id)with
  |false=>rw[hl]at ht;simp at ht
  |true=>
   rw[hl]at ht;simp only[we,AP]at ht;obtain⟨rfl,rfl⟩:=ht;obtain⟨b,n,h1⟩:=hr.live hl;simp only[PR]at hx;rcases hx.2 b n h1 with⟨_,_,o,_,rfl⟩|⟨rfl,_,_,rfl|⟨_,rfl,_⟩⟩
   ·exact ze hr (by simp only[FA,hts,hu,Bt];rfl) (C8 _ _)
   ·exact ze hr (by simp only[FA,hts,hu,Bt];rfl) (C8 _ _)
   ·exact ze hr (by simp only[FA,hts,hu,Bt];rfl) (C8 _ _)
 case h_4=>
  rename_i hu;simp only[AP]at ht;obtain⟨rfl,rfl⟩:=ht;simp only[PR]at hx;subst hx;exact ze hr (by simp only[FA,hts,hu,Bt];rfl) (C8 _ _)
 case h_5=>
  rename_i id hu;split at ht
  case h_2=>simp at ht
  rename_i ks vs l ho;simp only[AP]at ht;obtain⟨rfl,rfl⟩:=ht;obtain⟨b,n,y,h1,h2,⟨es,clk,rfl,h3⟩,_⟩:=hr.at ho;simp only[PR]at hx;obtain rfl:=hx.2 b n h1;have hl:l.length=es.length:=h3.len;refine ze hr (v':=i64 es.length) (by simp only[FA,hts,hu,h2,Bt]) ?_;rw[<-hl];exact C8 _ _
theorem zM(hr:SR B h0 F ρ st.nx st.ob h){ts:Array TypeId}{ps:List PV}{xs:List V}(hx:Ba F ρ st.nx ps xs){v:PV}(ht:(mO C.T ts ps st).To v st'):OK B h0 F ρ st h [] (Bt h (FA C.T h ts xs)) v st':=wS hr hx.lz ht
theorem yF(hr:SR B h0 F ρ st.nx st.ob h){f:Int->Int->Int}{g:V->V->Option V}(hg:∀k x y,g (.int k x) (.int k y)=some (.int k (f x y))){ps:List PV}{xs:List V}(hx:Ba F ρ st.nx ps xs){v:PV}
  (ht:(Nq f ps st).To v st'):OK B h0 F ρ st h [] (Bt h (Gf g xs)) v st':=by
 have key:∀(ps:List PV) (xs:List V) (k:IntKind) (x z:Int),Ba F ρ st.nx ps xs->zT f k x ps=some z->dfold g (.int k x) xs=some (.int k z):=by
  intro ps;induction ps with
  |nil=>intro xs k x z hx hz;simp at hx;subst hx;simp only[zT,zj]at hz;subst hz;rfl
  |cons p ps ih=>
   intro xs k x z hx hz;simp only[Ba]at hx;obtain⟨u,us,rfl,h1,h2⟩:=hx;unfold zT at hz;split at hz
   case h_1=>rename_i e;cases e
   case h_2=>
    rename_i e;cases e;rename_i k' y;cases hk:(k==k')with
    |false=>rw[hk]at hz;cases hz
    |true=>
     rw[hk]at hz;have hk:=wj.1 hk;subst hk;obtain rfl:=CG h1;simp only[dfold,hg];exact ih us k _ z h2 hz
   case h_3=>cases hz
 unfold Nq at ht;split at ht
 case h_2=>simp at ht
 rename_i k x ys;split at ht
 case h_2=>simp at ht
 rename_i z hz;simp only[AP]at ht;obtain⟨rfl,rfl⟩:=ht;simp only[Ba]at hx;obtain⟨u,us,rfl,h1,h2⟩:=hx;obtain rfl:=CG h1;exact ze hr (v':=.int k z) (by simp only[Gf,key ys us k x z h2 hz,Bt]) (C8 _ _)
theorem OK.new(hr:SR B h0 F ρ st.nx st.ob h){o:Obj}{x:O}{n:Nat}(hf:o.frozen=false)(hx:Xp F (BK ρ st.nx (some (h.nx,n))) (st.nx+1) n o x){v:PV}{v':V}
  (hv:PR F (BK ρ st.nx (some (h.nx,n))) (st.nx+1) v v'):OK B h0 F ρ st h [] (E0 (some (v',h.push x))) v (st.push o):=by
 refine⟨v',h.push x,F,_,.inl rfl,hv,hr.push hf hx,Le.new _,rfl,rfl,Nat.le_succ _,fun b hb=>.inl ?_⟩;rw[H.BH,wc (by omega)]
theorem Ky{n:Nat}:PR F (BK ρ N (some (h.nx,n))) (N+1) (.ptr N 0) (.ptr h.nx 0):=by
 unfold PR;exact⟨yf _,fun b m hb=>by simp[BK]at hb;rw[hb.1]⟩
theorem wO{F:Fz}:∀ {s:Sh} {v:V},xA s v=true->DC F s s.Hd [v]
 | .bool,.bool b,h=>by
  have:b=false:=by simpa [xA]using h
  subst this;simp[DC,Sh.Hd]
 | .int k,.int k' n,h=>by
  unfold xA at h;rw[zc,w5,w5]at h;obtain⟨rfl,rfl⟩:=h;simp[DC,Sh.Hd]
theorem lT{T:BW}{t:TypeId}{s:Sh}{n:Nat}(h:wG T t=some (s,n)):∃i,T.inf t=some i/\n=i.zero.length/\(∀v∈i.zero,xA s v=true)/\s.sz=1:=by
 unfold wG at h;split at h
 case h_2=>cases h
 rename_i i hu hi;split at h
 case h_2=>cases h
 rename_i s' hs;cases hc:(zl 32 (Det.Dj i.zero)&&Det.Lj (xA s') i.zero)with
 |false=>rw[hc]at h;cases h
 |true=>
  rw[hc]at h;cases h;rw[zc,Fg]at hc;refine⟨i,hi,Cj ..,z8.1 hc.2,?_⟩;unfold zsh at hs;split at hs<;>first|(cases hs;rfl)|cases hs
theorem lP(hr:SR B h0 F ρ st.nx st.ob h){t:TypeId}{v:PV}(ht:(SD t C.T st).To v st'):OK B h0 F ρ st h [] (E0 (Gz C.T h t)) v st':=by
 unfold SD iB at ht;split at ht
 case h_1=>
  rename_i s n hz;simp only[AP]at ht;obtain⟨rfl,rfl⟩:=ht;obtain⟨i,hi,rfl,hall,hs⟩:=lT hz;have:Gz C.T h t=some (.ptr h.nx 0,h.push (.cells i.zero t (0,0))):=by simp[Gz,hi,HV]
  rw[this];refine OK.new hr (o:=.arr false t s (zo i.zero.length s.Hd)) (n:=i.zero.length) rfl ⟨_,_,rfl,⟨by rw[yc,hs,y9],fun j hj=>?_⟩,zg _,yc ..⟩ Ky;have hj':j<i.zero.length:=by simpa using hj
  have:=hall i.zero[j] (List.getElem_mem hj');rw[List.getElem_replicate,hs,y9,yg hj'];exact wO this
 split at ht
 case h_2=>exact wh ht (by simp)
 rename_i cs hcs;rw[Option.bind_eq_some_iff]at hcs;obtain⟨i,hi,hcs⟩:=hcs;cases hok:Lj V.ok i.zero with
 |false=>rw[hok]at hcs;cases hcs
 |true=>
 rw[hok]at hcs;cases hcs;rw[Fg]at hok;simp only[AP]at ht;obtain⟨rfl,rfl⟩:=ht;have:Gz C.T h t=some (.ptr h.nx 0,h.push (.cells i.zero t (0,0))):=by simp[Gz,hi,HV]
 rw[this];cases sN C.T t with
 |true=>exact OK.new hr (o:=.tbox t (i.zero.map V7)) (n:=0) rfl ⟨_,_,rfl,Ea _,zg _,fun u hu=>z8.1 hok u hu⟩ Ky
 |false=>exact OK.new hr (o:=.box (i.zero.map V7)) (n:=0) rfl ⟨_,_,_,rfl,Ea _,zg _,fun u hu=>z8.1 hok u hu⟩ Ky
theorem zC(hr:SR B h0 F ρ st.nx st.ob h){t:TypeId}{p:PV}{x:V}(hx:PR F ρ st.nx p x){cs:List PV}(hcs:xG st p=some cs)(hs:cs.all (JE st)=true):OK B h0 F ρ st h [] (E0 (some (ZZ h t x))) (.ptr st.nx 0) (st.push (.box cs)):=
 OK.new hr (o:=.box cs) (n:=0) rfl ⟨_,_,_,rfl,(Np hr hx hcs).mono (Le.new _),zg _,fun u hu=>V.Ml (z8.1 (J2 hr hs (Np hr hx hcs)) u hu)⟩ Ky
theorem IT(hr:SR B h0 F ρ st.nx st.ob h){place:Nat->Option (Nat×Nat)}:∀ {l:List (Nat×PV)} {l':List (Nat×V)},wB F ρ st.nx l l'->∀ {cs:List PV} {xs:List V},Ba F ρ st.nx cs xs->∀ {out:List PV},Ra st place cs l=some out->
  ∃ys,IC place xs l'=some ys/\Ba F ρ st.nx out ys:=by
 intro l l' hl;induction hl with
 |nil=>intro cs xs hx out ho;cases ho;exact⟨xs,rfl,hx⟩
 |@cons i p v l l' hp _ ih=>
  intro cs xs hx out ho;unfold Ra at ho;unfold IC;split at ho
  case h_1=>cases ho
  rename_i off size hpl;split at ho
  case h_2=>cases ho
  rename_i vs hvs;cases hc:(zf (Det.Dj vs) size&&zl (Nat.add off size) (Det.Dj cs))with
  |false=>rw[hc]at ho;cases ho
  |true=>
   rw[hc]at ho;have hv:=Np hr hp hvs;rw[Cj,Cj,hv.len,hx.len]at hc;have hc':(zf v.cells.length size&&zl (off+size) xs.length)=true:=hc;rw[hpl];simp only[hc',we];have:=hv.Ct off hx;rw[IN v.cells]at this;exact ih this ho
theorem oS(hr:SR B h0 F ρ st.nx st.ob h){t:TypeId}{l:List (Nat×PV)}{l':List (Nat×V)}(hl:wB F ρ st.nx l l'){v:PV}(ht:(ov st (VX C.T st t l)).To v st'):OK B h0 F ρ st h [] (Bt h (JP C.T t l')) v st':=by
 simp only[Ki]at ht;obtain⟨hb,rfl⟩:=ht;unfold VX at hb;split at hb
 case h_3=>cases hb
 case h_1=>
  rename_i i fs hi hu;split at hb
  case h_2=>cases hb
  rename_i pl hpl;rw[zk]at hb;obtain⟨out,ho,rfl⟩:=hb;obtain⟨ys,g1,g2⟩:=IT hr hl (Ea i.zero) ho;exact ze hr (v':=.agg ys) (by simp only[JP,hi,hu,hpl,g1,zt,Bt]) (by unfold PR;exact⟨_,rfl,g2⟩)
 case h_2=>
  rename_i i nn e hi hu;split at hb
  case h_2=>cases hb
  rename_i j hj;rw[zk]at hb;obtain⟨out,ho,rfl⟩:=hb;obtain⟨ys,g1,g2⟩:=IT hr hl (Ea i.zero) ho;exact ze hr (v':=.agg ys) (by simp only[JP,hi,hu,hj,g1,zt,Bt]) (by unfold PR;exact⟨_,rfl,g2⟩)
theorem JN(z:List V):∀n,Ba F ρ N (JR (z.map V7) n) ((zo n z).flatten)
 |0=>by simp[JR]
 |n+1=>by
  simp only[JR,z6,yu];exact(Ea z).append (JN z n)
theorem Hp(z:List V):∀n,EM z (n*z.length)=(zo n z).flatten:=by
 intro n;apply yv;intro i;unfold EM;by_cases hz:z.length=0
 ·have:z=[]:=zq.1 hz;subst this;have:(zo n ([]:List V)).flatten=[]:=by induction n with|zero=>rfl|succ n ih=>simp[z6]
  rw[this];simp
 ·have hpos:0<z.length:=Nat.pos_of_ne_zero hz;induction n generalizing i with
  |zero=>simp
  |succ n ih=>
   rw[z6,yu];by_cases hi:i<z.length
   ·rw[yh hi,yw,yr (by rw[zu];omega)];simp only[zt,Nat.mod_eq_of_lt hi];simp[List.getD_eq_getElem?_getD,hi]
   ·rw[yd (by omega), <-ih (i-z.length)];rw[yw,yw];by_cases h2:i<(n+1)*z.length
    ·rw[yr h2,yr (by rw[zu]at h2;omega)];simp only[zt];rw[Nat.mod_eq_sub_mod (by omega)]
    ·rw[List.getElem?_eq_none (by simp;omega),List.getElem?_eq_none (by simp;rw[zu]at h2;omega)]
theorem N3{sz n:Nat}{o:Nat}(ho:o=0\/o=sz):PR F (BK ρ N (some (h.nx,n))) (N+1) (.sl N sz 0 n none) (.sl h.nx 0 n n o):=by
 unfold PR;refine⟨yf _,fun b m hb=>.inl ?_⟩;simp[BK]at hb;obtain⟨rfl,rfl⟩:=hb;exact⟨zg _,by show 0+n<=n;omega,o,ho,by rw[zw];rfl⟩
theorem Lx{place:Nat->Option (Nat×Nat)}:∀ {l:List (Nat×V)} {xs ys:List V},IC place xs l=some ys->ys.length=xs.length
 |[],xs,ys,h=>by cases h;rfl
 |(i,v)::l,xs,ys,h=>by
  unfold IC at h;split at h
  ·cases h
  ·rename_i off size _;cases hc:(zf v.cells.length size&&zl (off+size) xs.length)with
   |false=>rw[hc]at h;cases h
   |true=>
    rw[hc]at h;rw[Lx h,Gc]
end
section
variable {B:Nat}{h0:H0}{F:Fz}{ρ:D9}{N:Nat}{C:Ctx}{st st':AI}{fr:Fr}{h h':H}
theorem D6.nil{s:Sh}:D6 F s [] []:=⟨by simp,fun i hi=>by simp at hi⟩
theorem D6.cons{s:Sh}{x:s.T}{l:List s.T}{a b:List V}(ha:DC F s x a)(hb:D6 F s l b):D6 F s (x::l) (a++b):=by
 refine⟨by rw[List.length_append,ha.len,hb.1,List.length_cons,zu];omega,fun i hi=>?_⟩;cases i with
 |zero=>
  simp only[zw,ym,yz];rw[<-ha.len,List.take_left];exact ha
 |succ i=>
  have e:(a++b).drop ((i+1)*s.sz)=b.drop (i*s.sz):=by
   rw[zu,qd,FB, <-ha.len,List.drop_left]
  rw[e];exact hb.2 i (by simpa using hi)
theorem D6.iD{s:Sh}{x:s.T}{l:List s.T}{cs:List V}(h:D6 F s (x::l) cs):∃a b,cs=a++b/\DC F s x a/\D6 F s l b:=by
 have h0:=h.2 0 (by simp);simp only[zw,ym,yz]at h0;refine⟨cs.take s.sz,cs.drop s.sz,(List.take_append_drop _ _).symm,h0,?_,fun i hi=>?_⟩
 ·rw[List.length_drop,h.1,List.length_cons,zu];omega
 ·have:=h.2 (i+1) (by simpa using hi);rw[<-FB,qd, <-zu];exact this
theorem D6.append{s:Sh}:∀ {l m:List s.T} {a b:List V},D6 F s l a->D6 F s m b->D6 F s (l++m) (a++b)
 |[],m,a,b,h,h'=>by
  have:a=[]:=zq.1 (by rw[h.1];simp);subst this;simpa using h'
 |x::l,m,a,b,h,h'=>by
  obtain⟨c,d,rfl,h1,h2⟩:=h.iD;rw[List.append_assoc,List.cons_append];exact D6.cons h1 (h2.append h')
theorem D6.replicate{s:Sh}{z:s.T}{c:List V}(hz:DC F s z c):∀n,D6 F s (zo n z) ((zo n c).flatten)
 |0=>D6.nil
 |n+1=>by
  rw[z6,z6,yu];exact D6.cons hz (D6.replicate hz n)
theorem D6.SA{s:Sh}:∀ {l:List s.T} {a:List V},D6 F s l a->a.all V.one=true
 |[],a,h=>by
  have:a=[]:=zq.1 (by rw[h.1];simp);subst this;rfl
 |x::l,a,h=>by
  obtain⟨c,d,rfl,h1,h2⟩:=h.iD;rw[List.all_append,h2.SA,Bool.and_true];exact z8.2 h1.SA
theorem D6.part{s:Sh}{l:List s.T}{cs:List V}(h:D6 F s l cs){off len:Nat}(hl:off+len<=l.length):D6 F s ((l.drop off).take len) ((cs.drop (off*s.sz)).take (len*s.sz)):=by
 have hle:(off+len)*s.sz<=l.length*s.sz:=zh _ hl;rw[zr]at hle;have h1:=h.1;refine⟨by simp;rw[yk (by omega),yk (by omega)],fun i hi=>?_⟩;have hi':i<len:=by simp at hi;omega
 have hi2:(i+1)*s.sz<=len*s.sz:=zh _ hi';rw[zu]at hi2;rw[List.getElem_take,List.getElem_drop];have:=h.2 (off+i) (by omega);have e:(((cs.drop (off*s.sz)).take (len*s.sz)).drop (i*s.sz)).take s.sz=(cs.drop ((off+i)*s.sz)).take s.sz:=by
  rw[List.drop_take,List.take_take,List.drop_drop,zr,yk (by omega)]
 rw[e];exact this
theorem vP(hr:SR B h0 F ρ st.nx st.ob h){t:TypeId}{p q:PV}{x y:V}(hx:PR F ρ st.nx p x)(hy:PR F ρ st.nx q y){v:PV}(ht:(cZ C.T t p q st).To v st'):OK B h0 F ρ st h [] (E0 (O7 C.T h t x y)) v st':=by
 unfold cZ at ht;split at ht
 case h_2=>simp at ht
 rename_i e k l k' c hu;obtain rfl:=CG hx;obtain rfl:=CG hy;split at ht
 case h_2=>simp at ht
 rename_i i s hi hs;cases hc:(ya 0 i.zero.length&&zf i.zero.length i.size&&zf i.size s.sz)with
 |false=>rw[hc]at ht;simp at ht
 |true=>
  rw[hc]at ht;simp only[zc]at hc;obtain⟨⟨c2,c3⟩,c4⟩:=hc;simp only[we]at ht;split at ht
  case h_2=>simp at ht
  rename_i z hz;simp only[BI,zc,w5]at ht;obtain⟨⟨⟨⟨k1,k2⟩,k3⟩,k4⟩,rfl,rfl⟩:=ht;have k2':l=c:=k2;subst k2';obtain⟨n,rfl,hn⟩:=DG k1;rw[hn]at k3 ⊢;have e3:=zd c3;have e4:=zd c4;have hd:O7 C.T h t (.int k (z7 n)) (.int k' (z7 n))=some (.sl h.nx 0 n n 0,h.push (.cells (EM i.zero (n*i.size)) e (0,0))):=by
   have a1:zl n n=true:=zi (zg _);have a2:ya n 9223372036854775808=true:=DD (by have:(z7 n:Int)<9223372036854775808:=k4;simp at this;omega);have a3:zl (i.bytes*n) 281474976710656=true:=zi k3;simp only[O7,hu,hi,a1,a2,a3,c2,c3,yx,we,HV]
  rw[hd];have hzc:=CQ (Ea (F:=F) (ρ:=ρ) (N:=st.nx) i.zero) hz;have hcells:D6 F s (zo n z) (EM i.zero (n*i.size)):=by
   rw[<-e3,Hp];exact D6.replicate hzc n
  exact OK.new hr (o:=.arr false e s (zo n z)) (n:=n) rfl ⟨_,_,rfl,hcells,zg _,by simp⟩ (N3 (.inl rfl))
theorem Wa(hr:SR B h0 F ρ st.nx st.ob h){s:Sh}{p:PV}{x:V}(hx:PR F ρ st.nx p x){c:Bool}{l:List s.T}(hd:Nz st s p=some (c,l))(hc:c=true):
  Pw x=some l.length/\(s.sz=1\/Oq x=true)/\∃cs,src h s.sz x l.length=some cs/\D6 F s l cs:=by
 unfold Nz at hd;split at hd
 case h_1=>
  cases hd;simp only[PR]at hx;subst hx;exact⟨rfl,.inr rfl,[],rfl,D6.nil⟩
 case h_2=>
  rename_i s' l';rw[zk]at hd;obtain⟨r,h1,h2⟩:=hd;obtain⟨e,he⟩:=CF h1;have e':s'=s:=by cases e;rfl
  subst e';have:r=l':=by have:=he;cases this;rfl
  subst this;cases h2;simp only[PR,DC]at hx;obtain⟨u,hu1,hx⟩:=hx;obtain rfl:x=u:=by simpa using hu1
  rcases hx with⟨rfl,rfl|rfl|rfl⟩|⟨b,off,cap,o,bs,rfl,g1,g2,g3,g5,g4⟩
  ·exact⟨rfl,.inr rfl,[],rfl,D6.nil⟩
  ·exact⟨rfl,.inr rfl,[],rfl,D6.nil⟩
  ·exact⟨rfl,.inr rfl,[],rfl,D6.nil⟩
  ·obtain⟨te,fz,hg⟩:=hr.frz b bs g2;suffices hD:D6 F s' l ((bs.drop off).take (l.length*s'.sz))from⟨rfl,.inr rfl,_,rd_some hg g3 hD.ok,hD⟩
   refine⟨?_,fun i hi=>?_⟩
   ·simp;rw[yk (by omega)]
   ·have hi2:(i+1)*s'.sz<=l.length*s'.sz:=zh _ hi;rw[zu]at hi2;have e:(((bs.drop off).take (l.length*s'.sz)).drop (i*s'.sz)).take s'.sz=(bs.drop (off+i*s'.sz)).take s'.sz:=by
     rw[List.drop_take,List.take_take,List.drop_drop,yk (by omega)]
    rw[e];exact g4 i hi
 case h_3=>
  rename_i id sz off len cap;split at hd
  case h_2=>cases hd
  rename_i fzb te s' l' ho;cases hz:zf sz s'.sz with
  |false=>rw[hz]at hd;cases hd
  |true=>
   rw[hz]at hd;have hz:=zd hz;simp only[we,zk]at hd;obtain⟨r,h1,h2⟩:=hd;obtain⟨e,he⟩:=CF h1;have e':s'=s:=by cases e;rfl
   subst e';have:r=l':=by have:=he;cases this;rfl
   subst this;cases h2;simp only[w5]at hc;obtain⟨b,n,y,g1,g2,⟨cs,fz,rfl,g3,g4,g5⟩,_⟩:=hr.at ho;simp only[PR]at hx;have hlen:((r.drop off).take len).length=len:=by simp;omega
   have hle:(off+len)*s'.sz<=r.length*s'.sz:=zh _ hc;rw[zr]at hle;rw[hlen];rcases hx.2 b n g1 with⟨_,_,o,_,rfl⟩|⟨rfl,_,hof,rfl|⟨off',rfl,hoff⟩⟩
   ·refine⟨rfl,.inr rfl,_,rd_some g2 ?_ ?_,?_⟩
    ·rw[hz,g3.1];exact hle
    ·rw[hz];exact(g3.part hc).ok
    ·rw[hz];exact g3.part hc
   ·refine⟨rfl,.inr rfl,[],rfl,?_⟩;simpa using D6.nil
   ·refine⟨rfl,.inr rfl,_,rd_some g2 ?_ ?_,?_⟩
    ·rw[hz]at hoff;rw[g3.1];simp at hle ⊢;omega
    ·simp
    ·simp;exact D6.nil
 case h_5=>cases hd
 case h_4=>
  rename_i t;rw[zk]at hd;obtain⟨r,h1,h2⟩:=hd;obtain⟨e,he⟩:=CF h1;have e':s=.int .u8:=by cases e;rfl
  subst e';have:r=List.map (fun b:UInt8=>(b.toNat:Int)) t:=by have:=he;cases this;rfl
  subst this;cases h2;obtain rfl:=EZ hx;refine⟨by simp[Pw],.inl rfl,_,rfl,?_⟩;rw[y8,List.take_length];refine⟨by simp[Sh.sz],fun j hj=>?_⟩;have hj':j<t.length:=by simpa using hj
  have e1:((t.map fun b=>V.int .u8 (b.toNat:Int)).drop (j*1)).take 1=[V.int .u8 ((t[j]).toNat:Int)]:=by
   rw[y9,yg (by simpa using hj')];simp
  show DC _ (.int .u8) _ (((t.map fun b=>V.int .u8 (b.toNat:Int)).drop (j*1)).take 1);rw[e1];simp[DC]
theorem Z3(hr:SR B h0 F ρ st.nx st.ob h){s:Sh}{p:PV}{x:V}(hx:PR F ρ st.nx p x){c:Bool}{l:List s.T}(hd:Pc st s p=some (c,l))(hc:c=true):
  Pw x=some l.length/\(s.sz=1\/Oq x=true)/\∃cs,src h s.sz x l.length=some cs/\D6 F s l cs:=Wa hr hx.lz hd hc
theorem SR.congr(hr:SR B h0 F ρ N st.ob h)(hg:∀c,h'.get c=h.get c)(hn:h'.nx=h.nx):SR B h0 F ρ N st.ob h':=
 ⟨fun id o ho=>by obtain⟨b,n,x,h1,h2,h3⟩:=hr.obj id o ho;exact⟨b,n,x,h1,(hg b).trans h2,h3⟩,hr.inj,fun b cs hb=>by obtain⟨t,fz,h1⟩:=hr.frz b cs hb;exact⟨t,fz,(hg b).trans h1⟩,hr.own,hr.dead,
  fun b hb he=>(hg b).trans (hr.old b hb he),fun b o hb=>by rw[hn];exact hr.lt b o ((hg b).symm.trans hb),by rw[hn];exact hr.le,hr.fo,hr.gl,fun c hc=>by obtain⟨g1,g2,g3⟩:=hr.pn c hc;exact⟨(hg c).trans g1,g2,g3⟩⟩
theorem SR.dG{ob:Ob}(hr:SR B h0 F ρ N ob h){o:Obj}{x:O}{b n:Nat}(hg:h.get b=some x)(hfree:∀id o m,AL ob id=some o->ρ id≠some (b,m))(hF:F b=none)(hB:h0.Zq B b)(hP:b∉h0.pin)(hf:o.frozen=false)
  (hx:Xp F (BK ρ N (some (b,n))) (N+1) n o x):SR B h0 F (BK ρ N (some (b,n))) (N+1) ((N,o)::ob) h:=by
 have hl:Le F ρ N F (BK ρ N (some (b,n))) (N+1):=Le.new _;have hget:∀j,AL ((N,o)::ob) j=if j=N then some o else AL ob j:=by
  intro j;simp only[AL,Bm];by_cases e:N=j
  ·subst e;simp
  ·rw[wc (fun h=>e h.symm)];simp[e]
 refine⟨fun j oj hj=>?_,fun i j oi oj c m m' hi hj h1 h2=>?_,hr.frz,fun id c m hb=>?_,fun j hj=>?_,hr.old,hr.lt,hr.le,hr.fo,hr.gl,fun c hc=>?_⟩
 ·rw[hget]at hj;by_cases e:j=N
  ·subst e;simp only[wk,zj]at hj;subst hj;exact⟨b,n,x,by simp[BK],hg,hx,fun _=>hF,fun e=>by rw[hf]at e;cases e⟩
  ·rw[wc e]at hj;obtain⟨c,m,y,h1,h2,h3,h4⟩:=hr.obj j oj hj;exact⟨c,m,y,by simp[BK,e,h1],h2,h3.mono hl,h4⟩
 ·rw[hget]at hi hj;have key:∀k ok m,(if k=N then some o else AL ob k)=some ok->BK ρ N (some (b,n)) k=some (c,m)->(k=N/\c=b)\/(k≠N/\AL ob k=some ok/\ρ k=some (c,m)/\c≠b):=by
   intro k ok m hk hr';by_cases e:k=N
   ·subst e;simp[BK]at hr';exact .inl ⟨rfl,hr'.1.symm⟩
   ·rw[wc e]at hk;simp only[BK,e,ve]at hr';exact .inr ⟨e,hk,hr',fun ec=>hfree k ok m hk (ec▸hr')⟩
  rcases key i oi m hi h1 with⟨e1,e2⟩|⟨e1,e2,e3,e4⟩<;>rcases key j oj m' hj h2 with⟨f1,f2⟩|⟨f1,f2,f3,f4⟩
  ·rw[e1,f1]
  ·exact wh e2 f4
  ·exact wh f2 e4
  ·exact hr.inj i j oi oj c m m' e2 f2 e3 f3
 ·unfold BK at hb;split at hb
  ·rename_i e;cases hb;subst e;exact⟨yf _,hB⟩
  ·have:=hr.own id c m hb;exact⟨by omega,this.2⟩
 ·rw[hget]at hj;by_cases e:j=N
  ·rw[wd e]at hj;cases hj
  ·rw[wc e]at hj;simp[BK,e,hr.dead j hj]
 ·obtain⟨g1,g2,g3⟩:=hr.pn c hc;refine⟨g1,g2,fun id m e=>?_⟩;unfold BK at e;split at e
  ·cases e;exact hP hc
  ·exact g3 id m e
theorem O3{off:Nat}{cs:List V}(h:off<=cs.length):Ct off [] cs=cs:=by
 apply yv;intro j;rw[GI (by simpa using h)];rw[wc (by simp)]
theorem Tp{off:Nat}{vs cs:List V}(h:off+vs.length<=cs.length):Ct off vs cs=cs.take off++(vs++cs.drop (off+vs.length)):=by
 apply yv;intro j;rw[GI h];by_cases h1:j<off
 ·rw[wc (by omega),yh (by simp;omega),List.getElem?_take_of_lt h1]
 ·rw[yd (by simp;omega)];have hm:(cs.take off).length=off:=by simp;omega
  rw[hm];by_cases h2:j<off+vs.length
  ·rw[wd ⟨by omega,h2⟩,yh (by omega)]
  ·rw[wc (by omega),yd (by omega),List.getElem?_drop];congr 1;omega
theorem D6.bD{s:Sh}{l new:List s.T}{cs ns:List V}{a:Nat}(h:D6 F s l cs)(hn:D6 F s new ns)(ha:a+new.length<=l.length):
  D6 F s (l.take a++(new++l.drop (a+new.length))) (Ct (a*s.sz) ns cs):=by
 have h1:=h.1;have h2:=hn.1;have hle:(a+new.length)*s.sz<=l.length*s.sz:=zh _ ha;rw[Tp (by rw[h2, <-zr,h1];exact hle)];have p1:=h.part (off:=0) (len:=a) (by omega);have p2:=h.part (off:=a+new.length) (len:=l.length-(a+new.length)) (by omega);rw[zw,ym,ym]at p1;rw[y7 (by simp),y7 (by rw[List.length_drop,h1, <-Nat.sub_mul];exact zg _)]at p2;rw[h2, <-zr];exact p1.append (hn.append p2)
def Fc:List PV->List Nat
 | .sl id _ _ _ _::_=>[id]
 |_=>[]
theorem ZJ{s s':Sh}{x:s'.T}{c:Bool}{l:List s.T}(hd:Pc st s (.dat s' x)=some (c,l)):c=true:=by
 unfold Pc at hd;cases s' with
 |list a=>
  have hd:(DZ (.list a) (.list s) x).map (fun r=>(true,r))=some (c,l):=hd;rw[zk]at hd;obtain⟨r,_,e⟩:=hd;cases e;rfl
 |nlist a=>
  have hd:(DZ (.list a) (.list s) x).map (fun r=>(true,r))=some (c,l):=hd;rw[zk]at hd;obtain⟨r,_,e⟩:=hd;cases e;rfl
 |str=>
  have hd:(DZ (.list (.int .u8)) (.list s) (List.map (fun b:UInt8=>(b.toNat:Int)) x)).map (fun r=>(true,r))=some (c,l):=hd;rw[zk]at hd;obtain⟨r,_,e⟩:=hd;cases e;rfl
 |_=>cases hd
theorem iC(hr:SR B h0 F ρ st.nx st.ob h){ts:Array TypeId}{ps:List PV}{xs:List V}(hx:Ba F ρ st.nx ps xs){v:PV}(ht:(Sm C.T ts ps st).To v st'):OK B h0 F ρ st h (Fc ps) (E0 (Ge C.T h ts xs)) v st':=by
 unfold Sm at ht;split at ht
 case h_2=>simp at ht
 rename_i t tx p q hts htx;simp only[Ba]at hx;obtain⟨x,_,rfl,hx,y,_,rfl,hy,rfl⟩:=hx;split at ht
 case h_2=>simp at ht
 rename_i e ex hu hux;have hss:Rm ex=true:=by
  cases hq:Rm ex with
  |true=>rfl
  |false=>rw[hq]at ht;simp at ht
 rw[hss]at ht;simp only[we]at ht;split at ht
 case h_2=>simp at ht
 rename_i i s hi hs;cases hc:(ya 0 i.bytes&&ya 0 i.size&&zf i.zero.length i.size&&zf i.size s.sz)with
 |false=>rw[hc]at ht;simp at ht
 |true=>
  rw[hc]at ht;simp only[zc]at hc;obtain⟨⟨⟨c1,c2⟩,c3⟩,c4⟩:=hc;have e4:=zd c4;simp only[we]at ht;split at ht
  case h_2=>simp at ht
  rename_i c new hel;have head:c=true->∃cs,src h i.size y new.length=some cs/\D6 F s new cs/\Ge C.T h ts [x,y]=(match x with
      | .nils=>bif zf new.length 0 then some (.nils,h)
       else bif zl ((2*new.length+1000)*i.bytes) 281474976710656 then some (.sl h.nx 0 new.length new.length i.size,HV h e cs)else none
      | .es0=>bif zf new.length 0 then some (.es0,h)
       else bif zl ((2*new.length+1000)*i.bytes) 281474976710656 then some (.sl h.nx 0 new.length new.length i.size,HV h e cs)else none
      | .esl=>bif zf new.length 0 then some (.esl,h)else none
      | .sl b off len cap o=>
       bif zl (len+new.length) cap then(wr h b (off+len*i.size) cs).map fun h'=>(.sl b off (len+new.length) cap o,h')
       else bif zl ((2*(len+new.length)+1000)*i.bytes) 281474976710656 then
        match src h i.size x len with
        |some old=>
         bif zf o 0 then some (.sl h.nx 0 (len+new.length) (len+new.length) i.size,HV h e (old++cs))
         else
          match h.get b with
          |some (.cells _ te fz)=>
           bif zf off 0&&zf o i.size&&zf te e&&zl fz.2 fz.1&&cs.all V.one then some (.sl h.nx 0 (len+new.length) (len+new.length) i.size,(h.kill b).push (.cells (old++cs) e (0,0)))
           else none
          |_=>none
        |none=>none
       else none
      |_=>none):=by
   intro hc;obtain⟨g1,g2,cs,g3,g4⟩:=Z3 hr hy hel hc;rw[<-e4]at g3;refine⟨cs,g3,g4,?_⟩;have hcond:(ya 0 i.bytes&&ya 0 i.size&&zf i.zero.length i.size&&(zf i.size 1||Oq y))=true:=by
    rw[c1,c2,c3];rcases g2 with g2|g2
    ·rw[e4,g2];rfl
    ·rw[g2,qe];rfl
   have hint:isInt ex=false:=by cases ex<;>first|rfl|cases hss
   simp only[Ge,hts,htx,hu,hux,g1,hi,hint,hcond,we,g3];cases x<;>rfl
  split at ht
  case h_3=>simp at ht
  case h_1=>
   simp only[PR]at hx;subst hx;have grow:c=true->0<new.length->(2*new.length+1000)*i.bytes<=xB->OK B h0 F ρ st h (Fc [PV.nil,q]) (E0 (Ge C.T h ts [.nils,y])) (.sl st.nx s.sz 0 new.length none) (st.push (.arr false e s new)):=by
    intro k1 k2 k3;obtain⟨cs,g1,g2,g3⟩:=head k1;have b1:zf new.length 0=false:=by rw[Bm];simp;intro e;rw[e]at k2;simp at k2
    have b2:zl ((2*new.length+1000)*i.bytes) 281474976710656=true:=zi k3;rw[g3];simp only[b1,b2,wg,we];exact OK.new hr (o:=.arr false e s new) (n:=new.length) rfl ⟨_,_,rfl,g2,zg _,rfl⟩ (N3 (.inr e4))
   have same:c=true->new.length=0->OK B h0 F ρ st h (Fc [PV.nil,q]) (E0 (Ge C.T h ts [.nils,y])) .nil st:=by
    intro k1 k2;obtain⟨cs,g1,g2,g3⟩:=head k1;have b1:zf new.length 0=true:=by rw[k2];rfl
    rw[g3];simp only[b1,we];exact⟨.nils,h,F,ρ,.inl rfl,by simp[PR],hr,yp,rfl,rfl,zg _,fun _ _=>.inl rfl⟩
   split at ht
   case h_1=>
    simp only[AP]at ht;obtain⟨rfl,rfl⟩:=ht;simp only[Pc,Nz,lz,zj,yi]at hel;obtain⟨rfl,rfl⟩:=hel;exact same rfl rfl
   case h_2=>
    have hc':c=true:=by
     exact ZJ hel
    by_cases hn:0<new.length
    ·rw[w4 hn]at ht;cases ht with
     |tt ht=>
      simp only[BI,zc,w5]at ht;obtain⟨⟨k1,k3⟩,rfl,rfl⟩:=ht;exact grow k1 hn k3
    ·rw[w8 hn]at ht;cases ht with
     |ff ht=>
      simp only[AP]at ht;obtain⟨rfl,rfl⟩:=ht;exact same hc' (by omega)
   case h_3=>
    by_cases hn:0<new.length
    ·rw[w4 hn]at ht;cases ht with
     |tt ht=>
      simp only[BI,zc,w5]at ht;obtain⟨⟨k1,k3⟩,rfl,rfl⟩:=ht;exact grow k1 hn k3
    ·rw[w8 hn]at ht;cases ht with
     |ff ht=>
      simp only[BI]at ht;obtain⟨k1,rfl,rfl⟩:=ht;exact same k1 (by omega)
   case h_4=>
    simp only[BI,zc,w5]at ht;obtain⟨⟨⟨k1,k2⟩,k3⟩,rfl,rfl⟩:=ht;exact grow k1 k2 k3
  case h_2=>
   rename_i id sz off len cap;split at ht
   case h_2=>simp at ht
   rename_i e' s' l ho;split at ht
   case h_2=>simp at ht
   rename_i l' hl';obtain⟨ecast,hcast⟩:=CF hl';have es:s'=s:=by cases ecast;rfl
   subst es;have:l'=l:=by have:=hcast;cases this;rfl
   subst this;cases hcc:(zf e e'&&zf sz s'.sz)with
   |false=>rw[hcc]at ht;simp at ht
   |true=>
    rw[hcc]at ht;simp only[zc]at hcc;have ee:=zd hcc.1;have esz:=zd hcc.2;subst ee;subst esz;simp only[we]at ht;split at ht
    case h_2=>
     rename_i k;simp only[BI,zc,w5]at ht;obtain⟨⟨⟨k1,k2⟩,k3⟩,rfl,rfl⟩:=ht;obtain⟨cs,g1,g2,g3⟩:=head k1;obtain⟨b,n,z,h1,h2,⟨bs,fz,rfl,h3,h4,h5⟩,h6,_⟩:=hr.at ho;simp only[PR]at hx;rw[g3];have hone:cs.all V.one=true:=g2.SA;have hcl:cs.length=new.length*s'.sz:=g2.1;have hbl:=h3.1;have hle:(off+len+new.length)*s'.sz<=l'.length*s'.sz:=zh _ (by omega);have hexp:(off+len+new.length)*s'.sz=off*s'.sz+len*s'.sz+new.length*s'.sz:=by rw[zr,zr]
     have hsp:=D6.bD h3 g2 (a:=off+len) (by omega);have hlen:(l'.take (off+len)++(new++l'.drop (off+len+new.length))).length=l'.length:=by simp;omega
     rcases hx.2 b n h1 with⟨_,g6,o,g5,rfl⟩|⟨e0,ek,g6,g7⟩
     ·simp only[yn]at g6;have hw:wr h b (off*s'.sz+len*i.size) cs=some (h.put b (.cells (Ct ((off+len)*s'.sz) cs bs) e fz)):=by
       rw[MB h2 (by rw[e4,hcl,hbl];omega) h4 hone,e4, <-zr]
      have b1:zl (len+new.length) k=true:=zi k2;refine⟨.sl b (off*s'.sz) (len+new.length) k o,h.put b (.cells (Ct ((off+len)*s'.sz) cs bs) e fz),F,ρ,.inl ?_,?_,hr.set ho h1 h2 rfl rfl (o':=.arr false e s' _) ⟨_,fz,rfl,hsp,h4,hlen.trans h5⟩,yp,rfl,rfl,zg _,fun c _=>?_⟩
      ·simp only[yn,b1,we,hw,zt,E0]
      ·simp only[PR];refine⟨hx.1,fun b' n' hb'=>.inl ?_⟩;rw[h1]at hb';cases hb';exact⟨by simpa using k2,by simpa using g6,o,g5,rfl⟩
      ·rw[H.A8];by_cases e:c=b
       ·exact .inr ⟨id,by simp[Fc],n,e▸h1⟩
       ·rw[wc e];exact .inl rfl
     ·cases ek;subst e0;have hn0:new.length=0:=by omega
      have hnil:new=[]:=zq.1 hn0;subst hnil;have hcs:cs=[]:=zq.1 (by rw[hcl];simp);subst hcs;have hlp:Ct ((off+0)*s'.sz) [] bs=bs:=O3 (by rw[hbl];have:=zh s'.sz (show off+0<=l'.length by omega);exact this);have hput:∀c,(h.put b (.cells (Ct ((off+0)*s'.sz) [] bs) e fz)).get c=h.get c:=by
       intro c;rw[hlp,H.A8];by_cases e:c=b
       ·rw[wd e,e,h2]
       ·rw[wc e]
      have hset:=hr.set ho h1 h2 rfl rfl (o':=.arr false e s' _) (x':=.cells (Ct ((off+0)*s'.sz) [] bs) e fz) ⟨_,fz,rfl,hsp,h4,hlen.trans h5⟩;have hset':SR B h0 F ρ st.nx (Dx st.ob id (.arr false e s' (l'.take (off+0)++([]++l'.drop (off+0+0))))) h:=
       SR.congr (st:=⟨st.n,st.fr,Dx st.ob id _,st.nx⟩) hset (fun c=>(hput c).symm) rfl
      have hpr:∀w,(w=.esl\/∃off',w=.sl b off' 0 0 0/\off'<=off*s'.sz)->PR F ρ st.nx (.sl id s'.sz off (Nat.add 0 0) (some 0)) w:=by
       intro w hw;simp only[PR];refine⟨hx.1,fun b' n' hb'=>.inr ?_⟩;rw[h1]at hb';cases hb';exact⟨by simp,by simp,g6,hw⟩
      rcases g7 with rfl|⟨off',rfl,hoff'⟩
      ·exact⟨.esl,h,F,ρ,.inl rfl,hpr _ (.inl rfl),hset',yp,rfl,rfl,zg _,fun _ _=>.inl rfl⟩
      ·have hob:off'<=bs.length:=by
        have h7:off*s'.sz<=l'.length*s'.sz:=zh _ (by omega);omega
       have hw:wr h b (off'+0*i.size) []=some (h.put b (.cells (Ct (off'+0*i.size) [] bs) e fz)):=MB h2 (by simpa using hob) h4 rfl;have hput2:∀c,(h.put b (.cells (Ct (off'+0*i.size) [] bs) e fz)).get c=h.get c:=by
        intro c;rw[O3 (by simpa using hob),H.A8];by_cases e:c=b
        ·rw[wd e,e,h2]
        ·rw[wc e]
       refine⟨.sl b off' 0 0 0,h.put b (.cells (Ct (off'+0*i.size) [] bs) e fz),F,ρ,.inl ?_,hpr _ (.inr ⟨off',rfl,hoff'⟩),SR.congr (st:=⟨st.n,st.fr,Dx st.ob id _,st.nx⟩) hset' hput2 rfl,yp,rfl,rfl,zg _,fun c _=>.inl (hput2 c)⟩;simp only[yj,Nat.add_zero,show zl 0 0=true from rfl,we,hw,zt,E0]
    simp only[BI,zc,w5]at ht;obtain⟨⟨⟨⟨k1,k2⟩,k3⟩,k4⟩,rfl,rfl⟩:=ht;subst k2;obtain⟨cs,g1,g2,g3⟩:=head k1;obtain⟨b,n,z,h1,h2,⟨bs,fz,rfl,h3,h4,h5⟩,h6,_⟩:=hr.at ho;have hFb:=h6 rfl;simp only[PR]at hx;have hB:=(hr.own id b n h1).2;have hPb:b∉h0.pin:=fun hp=>(hr.pn b hp).2.2 id n h1
    have hidN:=(hr.own id b n h1).1;obtain⟨_,_,o,g5,rfl⟩:len<=len/\0+len<=n/\∃o,(o=0\/o=s'.sz)/\x=.sl b (0*s'.sz) len len o:=by
     rcases hx.2 b n h1 with g|⟨_,e,_⟩
     ·exact g
     ·cases e
    have hbl:bs.length=len*i.size:=by rw[h3.1,k3,e4]
    have hfree:∀j oj m,AL (Gj st.ob id) j=some oj->BK ρ id none j≠some (b,m):=by
     intro j oj m hj hjr;rw[D4]at hj;split at hj
     ·cases hj
     ·rename_i hne;simp only[BK,hne,ve]at hjr;exact hne (hr.inj j id oj _ b m n hj ho hjr h1)
    have hdel:=hr.del id;have hle1:Le F ρ st.nx F (BK ρ id none) st.nx:=Le.Ni id;have hnew:D6 F s' (l'++new) (bs++cs):=h3.append g2;have hlen:(l'++new).length=len+new.length:=by rw[List.length_append, <-k3]
    have hone:cs.all V.one=true:=g2.SA;rw[g3];simp only;by_cases hn:new.length=0
    ·
     have hnil:new=[]:=zq.1 hn;have hcs:cs=[]:=zq.1 (by rw[g2.1,hn,zw]);subst hcs;have b1:zl (len+new.length) len=true:=zi (by omega);have hw:wr h b (0*s'.sz+len*i.size) []=some (h.put b (.cells (Ct (0*s'.sz+len*i.size) [] bs) e fz)):=MB h2 (by rw[hbl];simp) h4 rfl;have hput:∀c,(h.put b (.cells (Ct (0*s'.sz+len*i.size) [] bs) e fz)).get c=h.get c:=by
      intro c;rw[O3 (by rw[hbl];simp),H.A8];by_cases e:c=b
      ·rw[wd e,e,h2]
      ·rw[wc e]
     refine⟨.sl b (0*s'.sz) (len+new.length) len o,h.put b (.cells (Ct (0*s'.sz+len*i.size) [] bs) e fz),F,BK (BK ρ id none) st.nx (some (b,n)),.inl ?_,?_,?_,hle1.trans (Le.new _),rfl,rfl,zg _,fun c _=>.inl (hput c)⟩
     ·simp only[b1,we,hw,zt,E0]
     ·unfold PR;refine⟨yf _,fun b' n' hb=>.inl ?_⟩;simp[BK]at hb;obtain⟨rfl,rfl⟩:=hb;refine⟨zg _,?_,o,g5,?_⟩
      ·show 0+(len+new.length)<=n;omega
      ·show V.sl b (0*s'.sz) (len+new.length) len o=.sl b (0*s'.sz) (len+new.length) (len+new.length) o;rw[hn];rfl
     ·refine SR.dG (ob:=Gj st.ob id) ?_ (x:=.cells bs e fz) ((hput b).trans h2) hfree hFb hB hPb rfl ⟨bs,fz,rfl,?_,h4,?_⟩
      ·exact SR.congr (st:=⟨st.n,st.fr,Gj st.ob id,st.nx⟩) hdel hput rfl
      ·rw[hnil,List.append_nil];exact h3
      ·rw[hnil,List.append_nil];exact h5
    ·
     have b1:zl (len+new.length) len=false:=by
      cases hb:zl (len+new.length) len with
      |false=>rfl
      |true=>have:=Nat.le_of_ble_eq_true hb;omega
     have b2:zl ((2*(len+new.length)+1000)*i.bytes) 281474976710656=true:=zi k4;have hsrc:src h i.size (.sl b (0*s'.sz) len len o) len=some bs:=by
      show rd h b (0*s'.sz) (len*i.size)=_;rw[rd_some h2 (by rw[hbl,zw];omega) (fun u hu=>h3.ok u (List.mem_of_mem_drop (List.mem_of_mem_take hu)))];rw[zw,ym, <-hbl,List.take_length]
     simp only[b1,b2,wg,we,hsrc];have fin:∀ {h1':H},SR B h0 F (BK ρ id none) st.nx (Gj st.ob id) h1'->h1'.nx=h.nx->(∀c,c≠b->h1'.get c=h.get c)->
       OK B h0 F ρ st h [id] (E0 (some (.sl h.nx 0 (len+new.length) (len+new.length) i.size,h1'.push (.cells (bs++cs) e (0,0))))) (.sl st.nx s'.sz 0 (Nat.add len new.length) none) ((st.Pz id).push (.arr false e s' (l'++new))):=by
      intro h1' hr1 hnx hg;have hp:=hr1.push (o:=.arr false e s' (l'++new)) (x:=.cells (bs++cs) e (0,0)) (n:=len+new.length) rfl ⟨_,_,rfl,hnew,zg _,hlen⟩;refine⟨_,_,F,_,.inl rfl,?_,hp,hle1.trans (Le.new _),rfl,rfl,by show h.nx<=h1'.nx+1;omega,fun c hc=>?_⟩
      ·rw[<-hnx];exact N3 (.inr e4)
      ·rw[H.BH,wc (by omega)];by_cases e:c=b
       ·exact .inr ⟨id,yb.2 rfl,n,e▸h1⟩
       ·exact .inl (hg c e)
     rcases g5 with rfl|rfl
     ·simp only[ye,we];exact fin hdel rfl (fun _ _=>rfl)
     ·have b3:zf s'.sz 0=false:=by
       rw[<-e4];cases hb:zf i.size 0 with
       |false=>rfl
       |true=>have:=zd hb;rw[this]at c2;cases c2
      have b4:(zf (0*s'.sz) 0&&zf s'.sz i.size&&zf e e&&zl fz.2 fz.1&&cs.all V.one)=true:=by
       rw[zw,e4,hone,zi h4];simp
      simp only[b3,wg,h2,b4,we];exact fin (hdel.kill hfree hFb hB hPb) rfl (fun c hc=>by rw[H.B2,wc hc])
theorem ES:∀ {s:Sh} {x:s.T} {v:V},DV F s x v->PR F ρ N (B8 s x) v
 | .pair a b,x,v,h=>by obtain⟨cs,rfl,h1⟩:=h.1 rfl;unfold B8 PR;exact⟨cs,rfl,CX h1⟩
 | .unit,x,v,h=>by obtain⟨cs,rfl,h1⟩:=h.1 rfl;simp only[DC]at h1;subst h1;unfold B8 PR;exact⟨[],rfl,by simp⟩
 | .int _,x,v,h=>by have:=h.2 rfl;unfold B8 PR;exact this
 | .bool,x,v,h=>by have:=h.2 rfl;unfold B8 PR;exact this
 | .str,x,v,h=>by have:=h.2 rfl;unfold B8 PR;exact this
 | .list _,x,v,h=>by have:=h.2 rfl;unfold B8 PR;exact this
 | .nlist _,x,v,h=>by have:=h.2 rfl;unfold B8 PR;exact this
 | .fnv,x,v,h=>by
  have:=h.2 rfl;simp only[DC,yq,wn]at this;subst this;unfold B8;cases (x:Option Fn)<;>simp[PR]
theorem qQ{s:Sh}{p:PV}{x:s.T}{v:V}(hp:PR F ρ N p v)(hd:asV s p=some x):DV F s x v:=by
 unfold asV at hd;cases hb:(J8 p==s.P5)with
 |false=>rw[hb]at hd;cases hd
 |true=>
  rw[hb]at hd;simp only[we]at hd;have hb:J8 p=s.P5:=by simpa using hb
  refine⟨fun e=>?_,fun e=>?_⟩
  ·rw[e]at hb;cases p<;>simp only[J8]at hb<;>try (cases hb;done)
   rename_i l;simp only[PR]at hp;obtain⟨cs,rfl,h1⟩:=hp;exact⟨cs,rfl,CQ h1 hd⟩
  ·rw[e]at hb;have:p.cells=[p]:=by cases p<;>first|rfl|(simp[J8]at hb)
   rw[this]at hd;exact CQ (by simpa using hp) hd
theorem kJ{T:BW}{t:TypeId}{s:Sh}(h:nG T t=some s):(∃k,s=.int k/\T.und t=some (.int k))\/(s=.str/\T.und t=some .string)\/(s=.bool/\T.und t=some .bool):=by
 unfold nG at h;split at h
 ·rename_i k hu;cases h;exact .inl ⟨k,rfl,hu⟩
 ·rename_i hu;cases h;exact .inr (.inl ⟨rfl,hu⟩)
 ·rename_i hu;cases h;exact .inr (.inr ⟨rfl,hu⟩)
 ·cases h
theorem WS{T:BW}{t:TypeId}{s:Sh}(hs:nG T t=some s){p:PV}{x:s.T}{v:V}(hp:PR F ρ N p v)(hd:qZ s p=some x):DV F s x v:=by
 have:=Hx hp hd;rcases kJ hs with⟨k,rfl,_⟩|⟨rfl,_⟩|⟨rfl,_⟩<;>exact⟨fun e=>(by cases e),fun _=>this⟩
theorem SI{T:BW}{t:TypeId}{s:Sh}(hs:nG T t=some s){x:s.T}{v:V}(hv:DV F s x v):∃d,T.und t=some d/\Ii T t d v=true/\(∀es,JX T t v es=KZ T t v es 0)/\∀y u,DV F s y u->fU T t v u=some (WB s x y):=by
 rcases kJ hs with⟨k,rfl,hu⟩|⟨rfl,hu⟩|⟨rfl,hu⟩<;>
 ·have h1:=hv.2 rfl;simp only[DC,yq,wn]at h1;subst h1;refine⟨_,hu,rfl,fun _=>rfl,fun y u hy=>?_⟩;have h2:=hy.2 rfl;simp only[DC,yq,wn]at h2;subst h2;simp[fU,hu,WB]
theorem N1{T:BW}{t:TypeId}{ks vs:Sh}(hs:nG T t=some ks){k:ks.T}{kv:V}(hk:DV F ks k kv):∀ {l:List (ks.T×vs.T)} {es:List (V×V×Nat)},MR F ks vs l es->∀i,∃r,KZ T t kv es i=some r/\
  (match r with
   |none=>DP ks vs k l=none/\Rp ks vs k l=l/\∀x xv c,DV F vs x xv->MR F ks vs (Kl ks vs k x l) (es++[(kv,xv,c)])
   |some (j,u)=>(∃v,DP ks vs k l=some v/\DV F vs v u)/\i<=j/\MR F ks vs (Rp ks vs k l) (es.eraseIdx (j-i))/\∀x xv,DV F vs x xv->MR F ks vs (Kl ks vs k x l) (WL es (j-i) kv xv)):=by
 intro l es hm;induction hm with
 |nil=>intro i;exact⟨none,rfl,rfl,rfl,fun x xv c hx=>.cons hk hx .nil⟩
 |@cons a b l av bv n es h1 h2 h3 ih=>
  intro i;obtain⟨d,_,_,_,hq⟩:=SI hs hk;have hq:=hq a av h1;unfold KZ;rw[hq];cases hb:WB ks k a with
  |true=>
   refine⟨some (i,bv),rfl,⟨b,by simp[DP,hb],h2⟩,zg _,?_,fun x xv hx=>?_⟩
   ·simp only[yt,List.eraseIdx_cons_zero,Rp,hb,we];exact h3
   ·simp only[yt,Kl,hb,we,WL,List.modify_zero_cons];exact .cons hk hx h3
  |false=>
   obtain⟨r,g1,g2⟩:=ih (i+1);refine⟨r,g1,?_⟩;cases r with
   |none=>
    obtain⟨k1,k2,k3⟩:=g2;refine⟨by simp only[DP,hb,wg];exact k1,by simp only[Rp,hb,wg,k2],fun x xv c hx=>?_⟩;simp only[Kl,hb,wg,List.cons_append];exact .cons h1 h2 (k3 x xv c hx)
   |some ju=>
    obtain⟨j,u⟩:=ju;obtain⟨⟨v,k1,k2⟩,k3,k4,k5⟩:=g2;have e:j-i=(j-(i+1))+1:=by omega
    refine⟨⟨v,by simp only[DP,hb,wg];exact k1,k2⟩,by omega,?_,fun x xv hx=>?_⟩
    ·rw[e];simp only[List.eraseIdx_cons_succ,Rp,hb,wg];exact .cons h1 h2 k4
    ·rw[e];simp only[Kl,hb,wg,WL,List.modify_succ_cons];exact .cons h1 h2 (k5 x xv hx)
theorem nY(hr:SR B h0 F ρ st.nx st.ob h){t:TypeId}{v:PV}(ht:(Wu C.T t st).To v st'):OK B h0 F ρ st h [] (E0 (Ij h none)) v st':=by
 unfold Wu at ht;split at ht
 case h_2=>simp at ht
 split at ht
 case h_2=>simp at ht
 rename_i ks vs hk hv;simp only[AP]at ht;obtain⟨rfl,rfl⟩:=ht;refine OK.new hr (o:=.map ks vs []) (x:=.map [] 0) (n:=0) rfl ⟨[],0,rfl,.nil⟩ ?_;unfold PR;exact⟨yf _,fun b m hb=>by simp[BK]at hb;rw[hb.1]⟩
theorem Zs(hr:SR B h0 F ρ st.nx st.ob h){ks vs:Sh}{m:PV}{l:List (ks.T×vs.T)}{x:V}(hm:PR F ρ st.nx m x)(hd:dH st ks vs m=some l):∃es,entries h x=some es/\MR F ks vs l es:=by
 unfold dH at hd;split at hd
 ·cases hd;simp only[PR]at hm;subst hm;exact⟨[],rfl,.nil⟩
 ·rename_i id;split at hd
  case h_2=>cases hd
  rename_i ks' vs' l' ho;obtain⟨e,he⟩:=CF hd;simp only[Sh.list.injEq,Sh.pair.injEq]at e;obtain⟨rfl,rfl⟩:=e;obtain rfl:l'=l:=he;obtain⟨b,n,o,h1,h2,⟨es,clk,rfl,h4⟩,_⟩:=hr.at ho;simp only[PR]at hm;obtain rfl:=hm.2 b n h1;exact⟨es,by simp[entries,h2],h4⟩
 ·cases hd
theorem gP{ks vs:Sh}{ok:Bool}{z:vs.T}{x:ks.T}:∀ {l:List (ks.T×vs.T)} {v:PV},(xW ks vs ok z x st l).To v st'->st=st'/\((DP ks vs x l=none/\v=bif ok then .tup [B8 vs z,.bl false]else B8 vs z)\/∃w,DP ks vs x l=some w/\v=bif ok then .tup [B8 vs w,.bl true]else B8 vs w)
 |[],v,ht=>by
  unfold xW at ht;simp only[AP]at ht;exact⟨ht.2,.inl ⟨rfl,ht.1.symm⟩⟩
 |(a,b)::l,v,ht=>by
  unfold xW at ht;generalize hc:WB ks x a=c at ht;cases ht with
  |tt ht=>
   simp only[AP]at ht;exact⟨ht.2,.inr ⟨b,by simp[DP,hc],ht.1.symm⟩⟩
  |ff ht=>
   obtain⟨h1,h2⟩:=gP ht;have e:DP ks vs x ((a,b)::l)=DP ks vs x l:=by simp[DP,hc]
   rw[e];exact⟨h1,h2⟩
theorem jW(hr:SR B h0 F ρ st.nx st.ob h){t:TypeId}{p q:PV}{x y:V}(hx:PR F ρ st.nx p x)(hy:PR F ρ st.nx q y){ok:Bool}{v:PV}(ht:(R8 C.T t p q ok st).To v st'):OK B h0 F ρ st h [] (Bt h (Ez C.T h t x y ok)) v st':=by
 unfold R8 at ht;split at ht
 case h_2=>simp at ht
 rename_i kt e hu;split at ht
 case h_2=>simp at ht
 rename_i ks vs i hks hvs hi;split at ht
 case h_2=>simp at ht
 rename_i k l z hk hl hz;cases hb:(zO i.zv==vs.P5)with
 |false=>rw[hb]at ht;simp at ht
 |true=>
  rw[hb]at ht;simp only[we]at ht;have hkd:=WS hks hy hk;obtain⟨es,he,hm⟩:=Zs hr hx hl;obtain⟨kd,g1,g2,g3,_⟩:=SI hks hkd;obtain⟨r,r1,r2⟩:=N1 hks hkd hm 0;have hzd:DV F vs z i.zv:=by
   have h1:DC F vs z i.zv.cells:=CQ (Ea (F:=F) (ρ:=ρ) (N:=st.nx) i.zero) hz;have hb:zO i.zv=vs.P5:=by simpa using hb
   refine⟨fun e=>?_,fun e=>?_⟩
   ·rw[e]at hb;cases hv:i.zv<;>rw[hv]at hb<;>simp only[zO]at hb<;>try (cases hb;done)
    rw[hv]at h1;exact⟨_,rfl,h1⟩
   ·rw[e]at hb;have:i.zv.cells=[i.zv]:=by cases hv:i.zv<;>rw[hv]at hb<;>first|rfl|(simp[zO]at hb)
    rw[<-this];exact h1
  unfold Ez;simp only[hu,g1,he,g2,we,g3,r1];cases hf:vs.lG with
  |true=>
   rw[hf]at ht;simp only[we]at ht;have hk2:=gP ht;obtain⟨e0,hk3⟩:=hk2;subst e0;rcases hk3 with⟨hn,hv⟩|⟨w,hw,hv⟩
   ·cases r with
    |none=>
     simp only[hi];cases ok with
     |true=>exact ze hr rfl (by rw[hv];simp only[we,PR];exact⟨_,rfl,_,_,rfl,ES hzd,_,_,rfl,by simp[PR],rfl⟩)
     |false=>exact ze hr rfl (by rw[hv];exact ES hzd)
    |some ju=>
     obtain⟨⟨v',k1,_⟩,_⟩:=r2;rw[hn]at k1;cases k1
   ·cases r with
    |none=>rw[r2.1]at hw;cases hw
    |some ju=>
     obtain⟨⟨v',k1,k2⟩,_⟩:=r2;rw[hw]at k1;cases k1;cases ok with
     |true=>exact ze hr rfl (by rw[hv];simp only[we,PR];exact⟨_,rfl,_,_,rfl,ES k2,_,_,rfl,by simp[PR],rfl⟩)
     |false=>exact ze hr rfl (by rw[hv];exact ES k2)
  |false=>
  rw[hf]at ht;simp only[wg,AP]at ht;obtain⟨rfl,rfl⟩:=ht;cases r with
  |none=>
   obtain⟨k1,_⟩:=r2;simp only[hi,k1,Option.getD_none,Option.isSome_none];cases ok with
   |true=>exact ze hr rfl (by simp only[we,PR];exact⟨_,rfl,_,_,rfl,ES hzd,_,_,rfl,DN _,rfl⟩)
   |false=>exact ze hr rfl (ES hzd)
  |some ju=>
   obtain⟨j,u⟩:=ju;obtain⟨⟨v,k1,k2⟩,_⟩:=r2;simp only[k1,yn,Option.isSome_some];cases ok with
   |true=>exact ze hr rfl (by simp only[we,PR];exact⟨_,rfl,_,_,rfl,ES k2,_,_,rfl,DN _,rfl⟩)
   |false=>exact ze hr rfl (ES k2)
theorem dR(hr:SR B h0 F ρ st.nx st.ob h){t:TypeId}{p q r:PV}{x y z:V}(hx:PR F ρ st.nx p x)(hy:PR F ρ st.nx q y)(hz:PR F ρ st.nx r z){v:PV}(ht:(RQ C.T t p q r st).To v st'):
  ∃id,p=.mp id/\OK B h0 F ρ st h [id] (fI (Hq C.T h t x y z)) v st':=by
 unfold RQ at ht;split at ht
 case h_2=>simp at ht
 rename_i kt e id hu;split at ht
 case h_2=>simp at ht
 rename_i ks ks' vs l hks ho;split at ht
 case h_2=>simp at ht
 rename_i k l2 w hk hl hw;obtain⟨e1,he⟩:=CF hl;simp only[Sh.list.injEq,Sh.pair.injEq,wn]at e1;subst e1;obtain rfl:l=l2:=he;simp only[AP]at ht;obtain⟨rfl,rfl⟩:=ht;have hkd:=WS hks hy hk;have hwd:=qQ hz hw;obtain⟨b,n,o,h1,h2,⟨es,clk,rfl,h4⟩,_⟩:=hr.at ho;have hx':=hx;simp only[PR]at hx';obtain rfl:=hx'.2 b n h1;obtain⟨kd,g1,g2,g3,_⟩:=SI hks hkd;obtain⟨r',r1,r2⟩:=N1 hks hkd h4 0;refine⟨id,rfl,?_⟩;have fin:∀es' clk',MR F ks' vs (Kl ks' vs k w l) es'->OK B h0 F ρ st h [id] (fI (some (h.put b (.map es' clk')))) (.tup []) (st.setObj id (.map ks' vs (Kl ks' vs k w l))):=by
  intro es' clk' hm;refine⟨.tup [],_,F,ρ,.inr ⟨rfl,rfl⟩,by simp[PR],hr.set ho h1 h2 rfl rfl ⟨es',clk',rfl,hm⟩,yp,rfl,rfl,zg _,fun c _=>?_⟩;by_cases ec:c=b
  ·exact .inr ⟨id,yb.2 rfl,n,ec▸h1⟩
  ·exact .inl (by rw[H.A8,wc ec])
 unfold Hq;simp only[hu,g1,h2,g2,we,g3,r1];cases r' with
 |none=>exact fin _ _ (r2.2.2 w z clk hwd)
 |some ju=>exact fin _ _ (r2.2.2.2 w z hwd)
theorem eU(hr:SR B h0 F ρ st.nx st.ob h){ts:Array TypeId}{ps:List PV}{xs:List V}(hx:Ba F ρ st.nx ps xs){v:PV}(ht:(RK C.T ts ps st).To v st'):
  ∃id qs,ps=.mp id::qs/\OK B h0 F ρ st h [id] (E0 (KP C.T h ts xs)) v st':=by
 unfold RK at ht;split at ht
 case h_2=>simp at ht
 rename_i t id q hts;split at ht
 case h_2=>simp at ht
 rename_i kt e hu;split at ht
 case h_2=>simp at ht
 rename_i ks ks' vs l hks ho;split at ht
 case h_2=>simp at ht
 rename_i k l2 hk hl;obtain⟨e1,he⟩:=CF hl;simp only[Sh.list.injEq,Sh.pair.injEq,wn]at e1;subst e1;obtain rfl:l=l2:=he;simp only[AP]at ht;obtain⟨rfl,rfl⟩:=ht;simp only[Ba]at hx;obtain⟨x,xs',rfl,hx1,y,xs'',rfl,hy,rfl⟩:=hx;have hkd:=WS hks hy hk;obtain⟨b,n,o,h1,h2,⟨es,clk,rfl,h4⟩,_⟩:=hr.at ho;obtain rfl:=hx1.2 b n h1;obtain⟨kd,g1,g2,g3,_⟩:=SI hks hkd;obtain⟨r',r1,r2⟩:=N1 hks hkd h4 0;refine⟨id,_,rfl,?_⟩;have fin:∀es',MR F ks' vs (Rp ks' vs k l) es'->OK B h0 F ρ st h [id] (E0 (some (.tup [],h.put b (.map es' clk)))) (.tup []) (st.setObj id (.map ks' vs (Rp ks' vs k l))):=by
  intro es' hm;refine⟨.tup [],_,F,ρ,.inl rfl,by simp[PR],hr.set ho h1 h2 rfl rfl ⟨es',clk,rfl,hm⟩,yp,rfl,rfl,zg _,fun c _=>?_⟩;by_cases ec:c=b
  ·exact .inr ⟨id,yb.2 rfl,n,ec▸h1⟩
  ·exact .inl (by rw[H.A8,wc ec])
 unfold KP;simp only[hts,hu,g1,h2,g2,we,g3,r1];cases r' with
 |none=>exact fin es (by rw[r2.2.1];exact h4)
 |some ju=>
  have:=r2.2.2.1;simp only[Nat.sub_zero]at this;exact fin _ this
theorem SR.same(hr:SR B h0 F ρ st.nx st.ob h){id b n:Nat}{o o':Obj}{x:O}(ho:st.obj id=some o)(hb:ρ id=some (b,n))(hg:h.get b=some x)(hf:o.frozen=false)(hf':o'.frozen=false)
  (hx:Xp F ρ st.nx n o' x):SR B h0 F ρ st.nx (Dx st.ob id o') h:=by
 have hput:∀c,h.get c=(h.put b x).get c:=by
  intro c;rw[H.A8];by_cases e:c=b
  ·rw[wd e,e,hg]
  ·rw[wc e]
 exact SR.congr (st:=⟨st.n,st.fr,Dx st.ob id o',st.nx⟩) (hr.set ho hb hg hf hf' hx) hput rfl
theorem mL(hr:SR B h0 F ρ st.nx st.ob h){ts:Array TypeId}{ps:List PV}{xs:List V}(hx:Ba F ρ st.nx ps xs){v:PV}(ht:(V0 C.T ts ps st).To v st'):OK B h0 F ρ st h (Fc ps) (E0 (FJ C.T h ts xs)) v st':=by
 unfold V0 at ht;split at ht
 case h_2=>simp at ht
 rename_i t p hts;simp only[Ba]at hx;obtain⟨x,_,rfl,hx,rfl⟩:=hx;split at ht
 case h_2=>simp at ht
 rename_i e hu;split at ht
 case h_3=>simp at ht
 case h_1=>
  simp only[AP]at ht;obtain⟨rfl,rfl⟩:=ht;simp only[PR]at hx;subst hx;exact⟨.tup [],h,F,ρ,.inl (by simp[FJ,hts,hu,E0]),by simp[PR],hr,yp,rfl,rfl,zg _,fun _ _=>.inl rfl⟩
 rename_i id sz off len cap;split at ht
 case h_2=>simp at ht
 rename_i i e' s l hi ho;cases hc:(zf sz s.sz&&ya 0 i.zero.length&&zf i.zero.length s.sz&&Det.Lj V.one i.zero)with
 |false=>rw[hc]at ht;simp at ht
 |true=>
  rw[hc]at ht;simp only[zc,Fg]at hc;obtain⟨⟨⟨c1,c2⟩,c3⟩,c4⟩:=hc;have c1:=zd c1;have c3:=zd c3;subst c1;simp only[we]at ht;split at ht
  case h_2=>simp at ht
  rename_i z hz;simp only[BI,w5]at ht;obtain⟨k1,rfl,rfl⟩:=ht;obtain⟨b,n,y,h1,h2,⟨bs,fz,rfl,h3,h4,h5⟩,h6,_⟩:=hr.at ho;have hz0:DC F s z i.zero:=CQ (Ea (F:=F) (ρ:=ρ) (N:=st.nx) i.zero) hz;have hrep:=D6.replicate hz0 len;have hsp:=D6.bD h3 hrep (a:=off) (by simpa using k1);rw[yc]at hsp;have hlen:(l.take off++(zo len z++l.drop (off+len))).length=l.length:=by simp;omega
  have skip:FJ C.T h ts [x]=some (.tup [],h)->len=0->OK B h0 F ρ st h (Fc [.sl id s.sz off len cap]) (E0 (FJ C.T h ts [x])) (.tup []) (st.setObj id (.arr false e' s (l.take off++(zo len z++l.drop (off+len))))):=by
   intro hd h0;subst h0;have el:l.take off++(zo 0 z++l.drop (off+0))=l:=by simp
   refine⟨.tup [],h,F,ρ,.inl (by rw[hd];rfl),by simp[PR],hr.same ho h1 h2 rfl rfl (o':=.arr false e' s _) ⟨bs,fz,rfl,?_,h4,?_⟩,yp,rfl,rfl,zg _,fun _ _=>.inl rfl⟩
   ·rw[el];exact h3
   ·rw[el];exact h5
  simp only[PR]at hx;rcases hx.2 b n h1 with⟨_,g6,o,g5,rfl⟩|⟨e0,ek,g6,rfl|⟨off',rfl,_⟩⟩
  ·by_cases h0:len=0
   ·exact skip (by simp[FJ,hts,hu,h0]) h0
   ·have hw:wr h b (off*s.sz) (EM i.zero (len*i.zero.length))=some (h.put b (.cells (Ct (off*s.sz) ((zo len i.zero).flatten) bs) e' fz)):=by
     rw[Hp];refine MB h2 ?_ h4 ?_
     ·rw[hrep.1,yc, <-zr,h3.1];exact zh _ k1
     ·exact hrep.SA
    have b0:zf len 0=false:=by rw[Bm];simp[h0]
    refine⟨.tup [],h.put b (.cells (Ct (off*s.sz) ((zo len i.zero).flatten) bs) e' fz),F,ρ,.inl ?_,by simp[PR],hr.set ho h1 h2 rfl rfl (o':=.arr false e' s _) ⟨_,fz,rfl,hsp,h4,hlen.trans h5⟩,yp,rfl,rfl,zg _,fun c _=>?_⟩
    ·simp only[FJ,hts,hu,b0,wg,hi,c2,we,hw,zt,E0]
    ·rw[H.A8];by_cases e:c=b
     ·exact .inr ⟨id,by simp[Fc],n,e▸h1⟩
     ·rw[wc e];exact .inl rfl
  ·exact skip (by simp[FJ,hts,hu]) e0
  ·exact skip (by simp[FJ,hts,hu]) e0
theorem oL(hr:SR B h0 F ρ st.nx st.ob h){t:TypeId}{p:PV}{x:V}(hx:PR F ρ st.nx p x){v:PV}(ht:(V4 C.T t p st).To v st'):OK B h0 F ρ st h [] (E0 (He C.T h t x)) v st':=by
 unfold V4 at ht;split at ht
 case h_2=>simp at ht
 rename_i s hu;simp only[AP]at ht;obtain⟨rfl,rfl⟩:=ht;obtain rfl:=EZ hx;have hd:He C.T h t (.str s)=some (.ptr h.nx 0,h.push (.siter s 0)):=by simp[He,RY,hu]
 rw[hd];exact OK.new hr (o:=.siter s 0) (n:=0) rfl rfl Ky
theorem wQ(hr:SR B h0 F ρ st.nx st.ob h){p:PV}{x:V}(hx:PR F ρ st.nx p x){i:Bool}{v:PV}(ht:(jQ p i st).To v st'):i=true/\∃id off,p=.ptr id off/\OK B h0 F ρ st h [id] (E0 (Mt h x i)) v st':=by
 unfold jQ at ht;split at ht
 case h_2=>simp at ht
 rename_i id;split at ht
 case h_2=>simp at ht
 rename_i s pos ho;obtain⟨b,n,y,h1,h2,h3,h6,_⟩:=hr.at ho;simp only[Xp]at h3;subst h3;simp only[PR]at hx;obtain rfl:=hx.2 b n h1;refine⟨rfl,id,0,rfl,?_⟩;by_cases hp:pos<s.length
 ·rw[w4 hp]at ht;cases ht with
  |tt ht=>
   simp only[AP]at ht;obtain⟨rfl,rfl⟩:=ht;have hd:Mt h (.ptr b 0) true=some (.tup [.bool true,i64 pos,.int .i32 (rune s pos)],h.put b (.siter s (pos+rQ s pos))):=by
    simp only[Mt,h2,GG,w4 hp,we];rfl
   refine⟨_,_,F,ρ,.inl (by rw[hd];rfl),?_,hr.set ho h1 h2 rfl rfl (o':=.siter s _) rfl,yp,rfl,rfl,zg _,fun c _=>?_⟩
   ·simp[PR,DC,i64]
   ·rw[H.A8];by_cases e:c=b
    ·exact .inr ⟨id,yb.2 rfl,n,e▸h1⟩
    ·rw[wc e];exact .inl rfl
 ·rw[w8 hp]at ht;cases ht with
  |ff ht=>
   simp only[AP]at ht;obtain⟨rfl,rfl⟩:=ht;refine⟨.tup [.bool false],h,F,ρ,.inl ?_,by simp[PR],hr,yp,rfl,rfl,zg _,fun _ _=>.inl rfl⟩;simp only[Mt,h2,GG,w8 hp,wg,E0]
end
section
variable {B:Nat}{h0:H0}{F:Fz}{ρ:D9}{N:Nat}{C:Ctx}{st st':AI}{h:H}
def tE:List PV->List Nat
 | .eptr id _ _ _::_=>[id]
 |_=>[]
theorem lI(hr:SR B h0 F ρ st.nx st.ob h){ps:List PV}{xs:List V}(hx:Ba F ρ st.nx ps xs){v:PV}(ht:(Wr ps st).To v st'):OK B h0 F ρ st h [] (Bt h (PB xs)) v st':=by
 unfold Wr at ht;split at ht
 case h_2=>simp at ht
 rename_i id sz off len;cases hs:HU (st.obj id)with
 |false=>rw[hs]at ht;simp at ht
 |true=>
  rw[hs]at ht;simp only[we,BI,w5]at ht;obtain⟨hl,rfl,rfl⟩:=ht;obtain⟨o,ho⟩:=Wv hs;obtain⟨b,n,z,g1,_⟩:=hr.at ho;simp only[Ba]at hx;obtain⟨x,_,rfl,hx,rfl⟩:=hx;simp only[PR]at hx;obtain⟨_,_,o',_,rfl⟩:len<=len/\off+len<=n/\∃o,(o=0\/o=sz)/\x=.sl b (off*sz) len len o:=by
   rcases hx.2 b n g1 with g|⟨_,e,_⟩
   ·exact g
   ·cases e
  refine ze hr (v':=.ptr b (off*sz)) ?_ ?_
  ·have:ya 0 len=true:=by rw[qc];exact hl
   simp only[PB,this,we];rfl
  ·simp only[PR];refine⟨hx.1,fun b' n' hb=>?_⟩;rw[g1]at hb;cases hb;rfl
theorem kI{k:IntKind}:∀ {l:List Int} {cs:List V},D6 F (.int k) l cs->cs=l.map (V.int k):=by
 intro l cs hd;have hl:cs.length=l.length:=by rw[hd.1];simp[Sh.sz]
 apply List.ext_getElem
 ·rw[y8];exact hl
 ·intro i h1 h2;have hi:i<l.length:=by omega
  have:=hd.2 i hi;have e:(cs.drop (i*Sh.sz (.int k))).take (Sh.sz (.int k))=[cs[i]]:=by
   rw[show Sh.sz (.int k)=1 from rfl,y9,yg h1];rfl
  rw[e]at this;simpa [DC]using this
theorem OO:∀ {l:List Int},Q0 l=true->Ga (l.map (V.int .u8))=some (VQ l)
 |[],_=>rfl
 |x::l,h=>by
  unfold Q0 at h;rw[List.all_cons,zc,zc,w5,w5]at h;have ih:=OO (l:=l) h.2;obtain⟨n,rfl⟩:=yy h.1.1;have hb:ya n 256=true:=by rw[qc];omega
  have hx:Sx (.int .u8 (n:Int))=some (UInt8.ofNat n):=by
   show(bif ya n 256 then some (UInt8.ofNat n)else none)=_;rw[hb];rfl
  rw[List.map_cons];unfold Ga;rw[hx,ih];rfl
theorem Wl{l:List Int}(h:Q0 l=true)(n:Nat):Q0 (l.take n)=true:=by
 unfold Q0 at*;rw[z8]at*;exact fun x hx=>h x (List.mem_of_mem_take hx)
theorem tG(hr:SR B h0 F ρ st.nx st.ob h){ts:Array TypeId}{ps:List PV}{xs:List V}(hx:Ba F ρ st.nx ps xs){v:PV}(ht:(dF C.T ts.toList ps st).To v st'):OK B h0 F ρ st h (tE ps) (E0 (Qn C.T h ts.toList xs)) v st':=by
 unfold dF at ht;split at ht
 case h_2=>simp at ht
 rename_i pt it id sz i n hts;split at ht
 case h_2=>simp at ht
 rename_i e e' s l hu ho;split at ht
 case h_2=>simp at ht
 rename_i ti bs hi hbs;cases hc:(zf ti.size 1&&zf e e')with
 |false=>rw[hc]at ht;simp at ht
 |true=>
  rw[hc]at ht;simp only[we,BI,zc,w5]at ht;obtain⟨⟨⟨⟨⟨k1,k2⟩,k3⟩,k4⟩,k5⟩,rfl,rfl⟩:=ht;subst k1;obtain⟨es,he⟩:=CF hbs;have e2:s=.int .u8:=by cases es;rfl
  subst e2;have:bs=l:=by have:=he;cases this;rfl
  subst this;obtain⟨m,rfl⟩:=yy (Int.le_of_lt k2);simp only[Int.toNat_natCast]at k3 k4;obtain⟨b,n',z,h1,h2,⟨cs,fz,rfl,h3,h4,h5⟩,h6,_⟩:=hr.at ho;have hFb:=h6 rfl;simp only[Ba]at hx;obtain⟨x,_,rfl,hx,y,_,rfl,hy,rfl⟩:=hx;obtain rfl:=CG hy;simp only[PR]at hx;obtain rfl:=hx.2 b n' h1;have hB:=(hr.own id b n' h1).2;have hPb:b∉h0.pin:=fun hp=>(hr.pn b hp).2.2 id n' h1
  have hfree:∀j oj m,AL (Gj st.ob id) j=some oj->BK ρ id none j≠some (b,m):=by
   intro j oj m hj hjr;rw[D4]at hj;split at hj
   ·cases hj
   ·rename_i hne;simp only[BK,hne,ve]at hjr;exact hne (hr.inj j id oj _ b m n' hj ho hjr h1)
  have hdel:=hr.del id;have hcs:=kI h3;have htk:cs.take m=(bs.take m).map (V.int .u8):=by rw[hcs,List.map_take]
  have hb:=OO (Wl k5 m);have hd:Qn C.T h ts.toList [.ptr b (0*sz+0),.int .i64 (m:Int)]=some (.str (VQ (bs.take m)),h.kill b):=by
   rw[zw];unfold Qn;rw[hts];show(match C.T.und pt,h.get b with
    |some (.pointer e),some (.cells cs e' fz)=>(match C.T.inf e,Ga (cs.take m)with
     |some i,some l=>bif zf i.size 1&&zf e e'&&ya 0 m&&zl m cs.length&&zl m 9223372036854775807&&zl fz.2 fz.1 then some (V.str l,h.kill b)else none
     |_,_=>none)
    |_,_=>none)=_
   rw[hu,h2];show(match C.T.inf e,Ga (cs.take m)with
    |some i,some l=>bif zf i.size 1&&zf e e'&&ya 0 m&&zl m cs.length&&zl m 9223372036854775807&&zl fz.2 fz.1 then some (V.str l,h.kill b)else none
    |_,_=>none)=_
   rw[hi,htk,hb];have k2:(0:Int)<(m:Int):=k2;have c1:ya 0 m=true:=by rw[qc];omega
   have c2:zl m cs.length=true:=zi (by rw[hcs,y8];exact k3);have c3:zl m 9223372036854775807=true:=zi k4;have c4:zl fz.2 fz.1=true:=zi h4;simp only[hc,c1,c2,c3,c4,yx,we]
  rw[hd];refine⟨_,_,F,BK ρ id none,.inl rfl,JV _,hdel.kill hfree hFb hB hPb,Le.Ni id,rfl,rfl,zg _,fun c _=>?_⟩;rw[H.B2];by_cases ec:c=b
  ·exact .inr ⟨id,yb.2 rfl,n',ec▸h1⟩
  ·rw[wc ec];exact .inl rfl
end
section
variable {B:Nat}{h0:H0}{C:Ctx}{F F1 F':Fz}{ρ:D9}{N:Nat}{st st':AI}{fr:Fr}{h h':H}
def PC(F:Fz)(p:PV)(v:V):Prop:=∀ρ N,PR F ρ N p v
def LU(F:Fz)(ps:List PV)(vs:List V):Prop:=∀ρ N,Ba F ρ N ps vs
theorem Le.Z5(hF:∀b cs,F b=some cs->F1 b=some cs):Le F ρ N F1 ρ N:=⟨hF,fun _ _=>.inl rfl,zg _⟩
theorem PC.mono(hF:∀b cs,F b=some cs->F1 b=some cs){p:PV}{v:V}(hp:PC F p v):PC F1 p v:=fun ρ N=>(hp ρ N).mono (Le.Z5 hF)
theorem LU.cons{p:PV}{ps:List PV}{v:V}{vs:List V}(h1:PC F p v)(h2:LU F ps vs):LU F (p::ps) (v::vs):=fun ρ N=>(A1 ..).2 ⟨h1 ρ N,h2 ρ N⟩
theorem LU.dc{s:Sh}{ps:List PV}{vs:List V}{x:s.T}(hp:LU F ps vs)(hd:C3 s ps=some x):DC F s x vs:=CQ (hp (fun _=>none) 0) hd
theorem PC.B8:∀ {s:Sh} {x:s.T} {cs:List V},DC F s x cs->(s.P5=true->PC F (B8 s x) (.agg cs))/\(s.P5=false->∀v,cs=[v]->PC F (B8 s x) v)
 | .pair a b,x,cs,h=>⟨fun _ ρ N=>by unfold Pe.B8 PR;exact⟨cs,rfl,CX h⟩,fun e=>by cases e⟩
 | .unit,x,cs,h=>⟨fun _ ρ N=>by simp only[DC]at h;subst h;unfold Pe.B8 PR;exact⟨[],rfl,by simp⟩,fun e=>by cases e⟩
 | .int _,x,cs,h=>⟨fun e=>(by cases e),fun _ v hv ρ N=>by subst hv;unfold Pe.B8 PR;exact h⟩
 | .bool,x,cs,h=>⟨fun e=>(by cases e),fun _ v hv ρ N=>by subst hv;unfold Pe.B8 PR;exact h⟩
 | .str,x,cs,h=>⟨fun e=>(by cases e),fun _ v hv ρ N=>by subst hv;unfold Pe.B8 PR;exact h⟩
 | .list _,x,cs,h=>⟨fun e=>(by cases e),fun _ v hv ρ N=>by subst hv;unfold Pe.B8 PR;exact h⟩
 | .nlist _,x,cs,h=>⟨fun e=>(by cases e),fun _ v hv ρ N=>by subst hv;unfold Pe.B8 PR;exact h⟩
 | .fnv,x,cs,h=>⟨fun e=>(by cases e),fun _ v hv ρ N=>by
   subst hv;simp only[DC,yq,wn]at h;subst h;unfold Pe.B8;cases (x:Option Fn)<;>simp[PR]⟩
theorem SR.xZ{ob ob':Ob}(hr:SR B h0 F ρ N ob h)(he:∀j,AL ob' j=AL ob j):SR B h0 F ρ N ob' h:=
 ⟨fun id o ho=>hr.obj id o (he id▸ho),fun id id' o o' b n n' h1 h2=>hr.inj id id' o o' b n n' (he id▸h1) (he id'▸h2),hr.frz,hr.own,fun id hid=>hr.dead id (he id▸hid),hr.old,hr.lt,hr.le,hr.fo,hr.gl,hr.pn⟩
theorem wA{s:Sh}{l:List s.T}{cs:List V}{b:Nat}(hF:F b=some cs)(hd:D6 F s l cs){off len:Nat}(hle:off+len<=l.length){cap o:Nat}(hcap:len<=cap)(ho:o=0\/o=s.sz):
  DC F (.list s) ((l.drop off).take len) [.sl b (off*s.sz) len cap o]:=by
 have hlen:((l.drop off).take len).length=len:=by simp;omega
 simp only[DC];refine⟨_,rfl,.inr ⟨b,off*s.sz,cap,o,cs,by rw[hlen],by rw[hlen];exact hcap,hF,?_,ho,fun i hi=>?_⟩⟩
 ·rw[hlen,hd.1, <-zr];exact zh _ hle
 ·rw[hlen]at hi;have h1:=hd.2 (off+i) (by omega);have e1:((l.drop off).take len)[i]=l[off+i]'(by omega):=by simp
  rw[e1, <-zr];exact h1
theorem Li(st:AI)(p:PV):(Bw st p).nx=st.nx/\(Bw st p).fr=st.fr/\(Bw st p).n=st.n:=by
 unfold Bw;split
 ·split<;>exact⟨rfl,rfl,rfl⟩
 ·exact⟨rfl,rfl,rfl⟩
theorem Dn:∀(ps:List PV) (st:AI),(Bn ps st).nx=st.nx/\(Bn ps st).fr=st.fr/\(Bn ps st).n=st.n
 |[],_=>⟨rfl,rfl,rfl⟩
 |p::ps,st=>by
  obtain⟨h1,h2,h3⟩:=Dn ps (Bw st p);obtain⟨g1,g2,g3⟩:=Li st p;exact⟨h1.trans g1,h2.trans g2,h3.trans g3⟩
theorem Ir:∀(ps qs:List PV) (st:AI),Bn (ps++qs) st=Bn qs (Bn ps st)
 |[],_,_=>rfl
 |p::ps,qs,st=>Ir ps qs (Bw st p)
def D0:Option Obj->Option Obj->Prop
 |some (.arr _ e s l),o=>∃fz,o=some (.arr fz e s l)
 |a,b=>b=a
theorem D0.refl(o:Option Obj):D0 o o:=by
 cases o with
 |none=>rfl
 |some o=>cases o<;>first|rfl|exact⟨_,rfl⟩
theorem MO(st:AI)(p:PV)(j:Nat):D0 (st.obj j) ((Bw st p).obj j):=by
 unfold Bw;split
 case h_2=>exact D0.refl _
 split
 case h_2=>exact D0.refl _
 rename_i id _ _ _ _ _ fz e s l ho;show D0 (AL st.ob j) (AL (Dx st.ob id (.arr true e s l)) j);rw[GL _ _ _ _ (by show(st.obj id).isSome=true;rw[ho];rfl)];split
 ·rename_i e1;subst e1;show D0 (st.obj j) _;rw[ho];exact⟨_,rfl⟩
 ·exact D0.refl _
theorem iL{st st':AI}(h:∀id,D0 (st.obj id) (st'.obj id))(p:PV):CI st' p=CI st p:=by
 unfold CI;cases p<;>try rfl
 rename_i id sz off len cap;have:=h id;cases ho:st.obj id with
 |none=>rw[ho]at this;simp only[ho,show st'.obj id=none from this]
 |some o=>
  rw[ho]at this;cases o with
  |arr fz e s l=>
   obtain⟨fz',h1⟩:=this;simp only[ho,h1]
  |box _=>simp only[ho,show st'.obj id=_ from this]
  |tbox _ _=>simp only[ho,show st'.obj id=_ from this]
  |map _ _ _=>simp only[ho,show st'.obj id=_ from this]
  |siter _ _=>simp only[ho,show st'.obj id=_ from this]
  |lp _ _ _ _ _ _ _ _=>simp only[ho,show st'.obj id=_ from this]
theorem Lz{st st':AI}(h:∀id,D0 (st.obj id) (st'.obj id)):∀ps:List PV,Es st' ps=Es st ps
 |[]=>rfl
 |p::ps=>by unfold Es;rw[iL h p,Lz h ps]
theorem D0.trans{a b c:Option Obj}(h1:D0 a b)(h2:D0 b c):D0 a c:=by
 cases a with
 |none=>have:b=none:=h1;subst this;exact h2
 |some o=>
  cases o with
  |arr fz e s l=>obtain⟨fz',rfl⟩:=h1;exact h2
  |box _=>have:b=_:=h1;subst this;exact h2
  |tbox _ _=>have:b=_:=h1;subst this;exact h2
  |map _ _ _=>have:b=_:=h1;subst this;exact h2
  |siter _ _=>have:b=_:=h1;subst this;exact h2
  |lp _ _ _ _ _ _ _ _=>have:b=_:=h1;subst this;exact h2
theorem Mz:∀(ps:List PV) (st:AI) (id:Nat),D0 (st.obj id) ((Bn ps st).obj id)
 |[],_,_=>D0.refl _
 |p::ps,st,id=>(MO st p id).trans (Mz ps (Bw st p) id)
theorem Tn{st st':AI}(h:∀id,D0 (st.obj id) (st'.obj id))(s:Sh)(p:PV):H5 st' s p=H5 st s p:=by
 unfold H5;rw[Lz h]
theorem Mf{st st':AI}(h:∀id,D0 (st.obj id) (st'.obj id)):∀(l:List Sh) (ps:List PV),Ec st' l ps=Ec st l ps
 |[],[]=>rfl
 |[],_::_=>rfl
 |[a],[p]=>Tn h a p
 |[a],[]=>rfl
 |[a],_::_::_=>rfl
 |a::b::l,[]=>rfl
 |a::b::l,p::ps=>by unfold Ec;rw[Tn h a p,Mf h (b::l) ps]
theorem MC(hr:SR B h0 F ρ st.nx st.ob h){p:PV}{v:V}(hp:PR F ρ st.nx p v):
  ∃F1,SR B h0 F1 ρ (Bw st p).nx (Bw st p).ob h/\(∀b cs,F b=some cs->F1 b=some cs)/\∀x,CI st p=some (true,x)->PC F1 x v:=by
 have same:∀ {q:PV},(∀x,CI st q=some (true,x)->PC F x v)->Bw st q=st->∃F1,SR B h0 F1 ρ (Bw st q).nx (Bw st q).ob h/\(∀b cs,F b=some cs->F1 b=some cs)/\∀x,CI st q=some (true,x)->PC F1 x v:=
  fun h1 h2=>⟨F,by rw[h2];exact hr,fun _ _ h=>h,h1⟩
 cases p with
 |sl id sz off len cap=>
  cases ho:st.obj id with
  |none=>exact same (fun x hx=>by simp[CI,ho]at hx) (by simp[Bw,ho])
  |some o=>
   cases o with
   |box _=>exact same (fun x hx=>by simp[CI,ho]at hx) (by simp[Bw,ho])
   |tbox _ _=>exact same (fun x hx=>by simp[CI,ho]at hx) (by simp[Bw,ho])
   |map _ _ _=>exact same (fun x hx=>by simp[CI,ho]at hx) (by simp[Bw,ho])
   |siter _ _=>exact same (fun x hx=>by simp[CI,ho]at hx) (by simp[Bw,ho])
   |lp _ _ _ _ _ _ _ _=>exact same (fun x hx=>by simp[CI,ho]at hx) (by simp[Bw,ho])
   |arr fz e s l=>
    obtain⟨b,n,x,h1,h2,⟨cs,fz',rfl,h4,h5,h6⟩,h7,h8⟩:=hr.at ho;have hst:Bw st (.sl id sz off len cap)=st.setObj id (.arr true e s l):=by simp[Bw,ho]
    have hset:∀j,AL (Dx st.ob id (.arr true e s l)) j=if j=id then some (.arr true e s l)else AL st.ob j:=fun j=>GL _ _ _ _ (by show(st.obj id).isSome=true;rw[ho];rfl)
    have fin:∀ {G:Fz},G b=some cs->(∀b cs,F b=some cs->G b=some cs)->∀x,CI st (.sl id sz off len cap)=some (true,x)->PC G x v:=by
     intro G hG hFG x hx ρ' N';simp only[CI,ho]at hx;cases hsz:zf sz s.sz with
     |false=>rw[hsz]at hx;simp at hx
     |true=>
      rw[hsz]at hx;simp only[we,zj,yi,w5]at hx;obtain⟨hle,rfl⟩:=hx;have hsz:=zd hsz;subst hsz;unfold PR;simp only[PR]at hp;rcases hp.2 b n h1 with⟨k1,k2,o,k3,rfl⟩|⟨rfl,rfl,k3,rfl|⟨off',rfl,k4⟩⟩
      ·exact wA hG (h4.mono hFG) hle k1 k3
      ·simp[DC]
      ·simp only[List.take_zero,DC];refine⟨_,rfl,.inr ⟨b,off',0,0,cs,rfl,zg _,hG,?_,.inl rfl,fun i hi=>by simp at hi⟩⟩;simp only[yj,zw,Nat.add_zero];rw[h4.1];exact Nat.le_trans k4 (zh _ (by rw[h6];exact k3))
    cases hfz:fz with
    |true=>
     subst hfz;obtain⟨cs',t',fz2,k1,k2⟩:=h8 rfl;cases k1;refine⟨F,?_,fun _ _ h=>h,fin k2 (fun _ _ h=>h)⟩;rw[hst];refine SR.xZ hr fun j=>?_
     show AL (Dx st.ob id _) j=_;rw[hset];split
     ·rename_i ej;subst ej;exact ho.symm
     ·rfl
    |false=>
     subst hfz;have hFb:F b=none:=h7 rfl;have hmono:∀c cs',F c=some cs'->(fun c=>if c=b then some cs else F c) c=some cs':=by
      intro c cs' hc;have:c≠b:=fun e=>by rw[e,hFb]at hc;cases hc
      simp[this,hc]
     refine⟨fun c=>if c=b then some cs else F c,?_,hmono,fin (by simp) hmono⟩;rw[hst];have hle:Le F ρ st.nx (fun c=>if c=b then some cs else F c) ρ st.nx:=Le.Z5 hmono;have get':∀k ok,AL (Dx st.ob id (.arr true e s l)) k=some ok->∃o2,AL st.ob k=some o2:=by
      intro k ok hk;rw[hset]at hk;by_cases ek:k=id
      ·exact⟨_,ek▸ho⟩
      ·rw[wc ek]at hk;exact⟨ok,hk⟩
     refine⟨fun j oj hj=>?_,fun i j oi oj c m m' hi hj g1 g2=>?_,fun c cs' hc=>?_,hr.own,fun j hj=>?_,hr.old,hr.lt,hr.le,fun c cs' hc=>?_,hr.gl,hr.pn⟩
     ·have hj:AL (Dx st.ob id (.arr true e s l)) j=some oj:=hj;rw[hset]at hj;by_cases ej:j=id
      ·subst ej;simp only[wk,zj]at hj;subst hj;refine⟨b,n,_,h1,h2,⟨cs,fz',rfl,h4.mono hmono,h5,h6⟩,fun e=>(by cases e),fun _=>⟨cs,_,_,rfl,by simp⟩⟩
      ·rw[wc ej]at hj;obtain⟨c,m,y,g1,g2,g3,g4,g5⟩:=hr.obj j oj hj;have hne:c≠b:=fun ec=>ej (hr.inj j id oj _ c m n hj ho g1 (ec▸h1))
       exact⟨c,m,y,g1,g2,g3.mono hle,fun e=>by simp[hne,g4 e],fun e=>by obtain⟨a1,a2,a3,a4,a5⟩:=g5 e;exact⟨a1,a2,a3,a4,by simp[hne,a5]⟩⟩
     ·obtain⟨_,k1⟩:=get' i oi hi;obtain⟨_,k2⟩:=get' j oj hj;exact hr.inj i j _ _ c m m' k1 k2 g1 g2
     ·split at hc
      ·rename_i ec;cases hc;subst ec;exact⟨_,_,h2⟩
      ·exact hr.frz c cs' hc
     ·have hj:AL (Dx st.ob id (.arr true e s l)) j=none:=hj;rw[hset]at hj;split at hj
      ·cases hj
      ·exact hr.dead j hj
     ·split at hc
      ·rename_i ec;subst ec;exact .inr (hr.own id c n h1).2
      ·exact hr.fo c cs' hc
 |dat s x=>exact same (fun y hy ρ' N'=>by simp only[CI,zj,yi,true_and]at hy;subst hy;unfold PR at hp ⊢;exact hp) rfl
 |bl b=>exact same (fun y hy ρ' N'=>by simp only[CI,zj,yi,true_and]at hy;subst hy;unfold PR at hp ⊢;exact hp) rfl
 |nil=>exact same (fun y hy ρ' N'=>by simp only[CI,zj,yi,true_and]at hy;subst hy;unfold PR at hp ⊢;exact hp) rfl
 |any|ub|yl _|nilp|nilm|nilf|nili|agg _|tup _|ptr _ _|eptr _ _ _ _|FE _ _ _|mp _|fn _ _ _=>exact same (fun x hx=>by simp[CI]at hx) rfl
theorem IL:∀ {ps:List PV} {vs:List V} {st:AI} {F:Fz},SR B h0 F ρ st.nx st.ob h->Ba F ρ st.nx ps vs->
  ∃F1,SR B h0 F1 ρ (Bn ps st).nx (Bn ps st).ob h/\(∀b cs,F b=some cs->F1 b=some cs)/\∀xs,Es st ps=some (true,xs)->LU F1 xs vs
 |[],vs,st,F,hr,hp=>⟨F,hr,fun _ _ h=>h,fun xs hx=>by
  cases hx;have hv:vs=[]:=by simpa using hp
  subst hv;intro ρ' N';simp⟩
 |p::ps,vs,st,F,hr,hp=>by
  simp only[Ba]at hp;obtain⟨v,vs,rfl,h1,h2⟩:=hp;obtain⟨F1,g1,g2,g3⟩:=MC hr h1;have h2':Ba F1 ρ (Bw st p).nx ps vs:=by rw[(Li st p).1];exact h2.mono (Le.Z5 g2)
  obtain⟨F2,k1,k2,k3⟩:=IL g1 h2';refine⟨F2,k1,fun b cs hb=>k2 b cs (g2 b cs hb),fun xs hx=>?_⟩;unfold Es at hx;split at hx
  case h_2=>cases hx
  rename_i c x d xs' e1 e2;simp only[zj,yi,zc]at hx;obtain⟨⟨rfl,rfl⟩,rfl⟩:=hx;exact LU.cons ((g3 x e1).mono k2) (k3 xs' (by rw[Lz (MO st p)];exact e2))
theorem iK(hr:SR B h0 F ρ st.nx st.ob h){t:TypeId}{n:Nat}{l:List (Nat×PV)}{l':List (Nat×V)}(hl:wB F ρ st.nx l l'){v:PV}(ht:(Sy C.T t n l st).To v st'):OK B h0 F ρ st h [] (E0 (ED C.T h t n l')) v st':=by
 unfold Sy at ht;split at ht
 case h_2=>simp at ht
 rename_i e hu;split at ht
 case h_2=>simp at ht
 rename_i i s hi hs;cases hc:(zl (Nat.mul n i.size) 16777216&&ya 0 i.zero.length&&zf i.zero.length i.size&&zf i.size s.sz)with
 |false=>rw[hc]at ht;simp at ht
 |true=>
  rw[hc]at ht;simp only[zc]at hc;obtain⟨⟨⟨c1,c2⟩,c3⟩,c4⟩:=hc;simp only[we]at ht;split at ht
  case h_2=>simp at ht
  rename_i cs hcs;split at ht
  case h_2=>
   split at ht
   case h_2=>simp at ht
   rename_i c cs' hb;split at ht
   case h_2=>simp at ht
   rename_i el hel;simp only[BI]at ht;obtain⟨rfl,rfl,rfl⟩:=ht;have e3:=zd c3;have e4:=zd c4;have hz:Ba F ρ st.nx (JR (i.zero.map V7) n) (EM i.zero (n*i.size)):=by
    rw[<-e3,Hp];exact JN _ _
   obtain⟨ys,g1,g2⟩:=IT hr hl hz hcs;have hlen:ys.length=n*s.sz:=by
    rw[<-e4];rw[Lx g1];simp[EM]
   obtain⟨F1,j1,j2,j3⟩:=IL hr g2;obtain⟨k1,k2⟩:=Jk (j3 cs' hb ρ st.nx) hel hlen;have hd:ED C.T h t n l'=some (.sl h.nx 0 n n 0,h.push (.cells ys e (0,0))):=by
    have c1':zl (n*i.size) 16777216=true:=c1;simp only[ED,hu,hi,c1',c2,c3,yx,we,g1,HV]
   rw[hd];obtain⟨f1,f2,f3⟩:=Dn cs st;have res:=OK.new (F:=F1) (ρ:=ρ) (st:=Bn cs st) j1 (o:=.arr false e s el) (x:=.cells ys e (0,0)) (n:=n) (v:=.sl (Bn cs st).nx s.sz 0 n none) (v':=.sl h.nx 0 n n 0) rfl ⟨_,_,rfl,k2.mono (fun _ _ h=>h),zg _,k1⟩ (N3 (.inl rfl));obtain⟨v',h',F',ρ',q1,q2,q3,q4,q5,q6,q7,q8⟩:=res;rw[f1]at q2;exact⟨v',h',F',ρ',q1,q2,q3,(by rw[f1]at q4;exact(Le.Z5 j2).trans q4),q5.trans f2,q6.trans f3,q7,q8⟩
  rename_i el hel;simp only[AP]at ht;obtain⟨rfl,rfl⟩:=ht;have e3:=zd c3;have e4:=zd c4;have hz:Ba F ρ st.nx (JR (i.zero.map V7) n) (EM i.zero (n*i.size)):=by
   rw[<-e3,Hp];exact JN _ _
  obtain⟨ys,g1,g2⟩:=IT hr hl hz hcs;have hlen:ys.length=n*s.sz:=by
   rw[<-e4];rw[Lx g1];simp[EM]
  obtain⟨k1,k2⟩:=Jk g2 hel hlen;have hd:ED C.T h t n l'=some (.sl h.nx 0 n n 0,h.push (.cells ys e (0,0))):=by
   have c1':zl (n*i.size) 16777216=true:=c1;simp only[ED,hu,hi,c1',c2,c3,yx,we,g1,HV]
  rw[hd];exact OK.new hr (o:=.arr false e s el) (n:=n) rfl ⟨_,_,rfl,k2.mono (fun _ _ h=>h),zg _,k1⟩ (N3 (.inl rfl))
end
section
variable {B:Nat}{h0:H0}{F:Fz}{ρ:D9}{N:Nat}{C:Ctx}{st st':AI}{fr:Fr}{h h':H}
theorem D5{x:Operand}{k:PV->PO}{v:PV}:(v1 st x k).To v st'↔∃p,Qe st x=some p/\(k p).To v st':=by
 unfold v1;cases Qe st x with
 |none=>simp
 |some p=>simp
theorem bC(hf:FP F ρ N st fr){x:Option Operand}{k:Option PV->PO}{v:PV}(ht:(o1 st x k).To v st'):∃p y,Vg C fr x=some y/\S9 F ρ N p y/\(k p).To v st':=by
 unfold o1 at ht;cases x with
 |none=>exact⟨none,none,rfl,rfl,ht⟩
 |some x=>
  obtain⟨p,h1,h2⟩:=D5.1 ht;obtain⟨y,g1,g2⟩:=B4 (C:=C) hf h1;exact⟨some p,some y,by simp[Vg,g1],⟨y,rfl,g2⟩,h2⟩
theorem aB(hr:SR B h0 F ρ st.nx st.ob h){b:Builtin}{ts:Array TypeId}{ps:List PV}{xs:List V}(hx:Ba F ρ st.nx ps xs){v:PV}(ht:(ID C.T b ts ps st).To v st'):
  OK B h0 F ρ st h (match b with| .append| .clear=>Fc ps| .unsafeString=>tE ps|_=>[]) (Em C h b ts xs) v st':=by
 unfold ID at ht;split at ht
 case h_8=>simp at ht
 case h_7=>exact tG hr hx ht
 case h_6=>exact lI hr hx ht
 case h_5=>exact mL hr hx ht
 case h_1=>exact zM hr hx ht
 case h_2=>exact iC hr hx ht
 case h_3=>exact yF (g:=gM) hr (fun k x y=>by simp[gM,imax]) hx ht
 case h_4=>exact yF (g:=jN) hr (fun k x y=>by simp[jN,Ew]) hx ht
theorem mH(hr:Rel B h0 F ρ st fr h){o:Oper}{v:PV}(ht:(pop o.op C.T st).To v st'):
  ∃tch,OK B h0 F ρ st h tch (F5 C fr h o) v st'/\∀sp ids,G4 sp st o.op=some ids->∀i∈tch,i∈ids:=by
 have nil:∀ {d:Option OR} {op:Op},OK B h0 F ρ st h [] d v st'->∃tch,OK B h0 F ρ st h tch d v st'/\∀sp ids,G4 sp st op=some ids->∀i∈tch,i∈ids:=fun h=>⟨[],h,fun _ _ _ i hi=>by cases hi⟩
 have ev1:∀ {x p},Qe st x=some p->∃y,ev C fr x=some y/\PR F ρ st.nx p y:=fun hp=>B4 hr.fp hp
 unfold pop at ht;rw[CV];unfold GB;cases hop:o.op<;>rw[hop]at ht<;>simp only[Ju,Ly]at ht<;>simp only
 case move x|assign x=>
  simp only[Wy,Ki]at ht;obtain⟨h1,rfl⟩:=ht;obtain⟨y,g1,g2⟩:=ev1 h1;refine nil ?_;rw[g1];exact ze hr.sr rfl g2
 case pick c a b=>
  simp only[eA,D5]at ht;obtain⟨p,h1,q,h2,r,h3,ht⟩:=ht;obtain⟨x,g1,g2⟩:=ev1 h1;obtain⟨y,g3,g4⟩:=ev1 h2;obtain⟨z,g5,g6⟩:=ev1 h3;obtain⟨t,rfl,hk⟩:=sZ hr.sr g2 g4 g6 ht;refine nil ?_;rw[g1];simp only;cases t
  ·simpa [g5]using hk
  ·simpa [g3]using hk
 case alloc t=>exact nil (lP hr.sr ht)
 case box t x=>
  simp only[rO,D5]at ht;obtain⟨p,h1,ht⟩:=ht;obtain⟨y,g1,g2⟩:=ev1 h1;split at ht
  case h_2=>simp at ht
  rename_i cs hcs;cases hs:Det.Lj (JE st) cs with
  |false=>rw[hs]at ht;simp at ht
  |true=>
  rw[hs]at ht;simp only[we,AP]at ht;obtain⟨rfl,rfl⟩:=ht;refine nil ?_;rw[g1];exact zC hr.sr g2 hcs (by rw[<-Fg];exact hs)
 case build t ps=>
  simp only[YA]at ht;split at ht
  case h_2=>simp at ht
  rename_i l hl;obtain⟨l',g1,g2⟩:=OW (C:=C) hr.fp hl;refine nil ?_;rw[g1];exact oS hr.sr g2 ht
 case buildSlice t n ps=>
  simp only[U9]at ht;split at ht
  case h_2=>simp at ht
  rename_i l hl;obtain⟨l',g1,g2⟩:=OW (C:=C) hr.fp hl;refine nil ?_;rw[g1];exact iK hr.sr g2 ht
 case load t x=>
  simp only[gL,D5]at ht;obtain⟨p,h1,ht⟩:=ht;obtain⟨y,g1,g2⟩:=ev1 h1;refine nil ?_;rw[g1];exact gX hr.sr g2 ht
 case store t x y=>
  simp only[Xx,D5]at ht;obtain⟨p,h1,q,h2,ht⟩:=ht;obtain⟨a,g1,g2⟩:=ev1 h1;obtain⟨b,g3,g4⟩:=ev1 h2;obtain⟨id,hid,hk⟩:=kZ hr.sr g2 g4 ht;refine⟨[id],by rw[g1,g3];exact hk,fun sp ids hids=>?_⟩;simp only[G4,h1]at hids;rcases hid with⟨off,rfl⟩|⟨sz,j,off,rfl⟩<;>(simp only[zj]at hids;subst hids;intro i hi;exact hi)
 case nilCheck x=>
  simp only[P1,D5]at ht;obtain⟨p,h1,ht⟩:=ht;obtain⟨y,g1,g2⟩:=ev1 h1;rw[g1];split at ht
  case h_4=>simp at ht
  case h_1=>
   rename_i id off;cases hl:HU (st.obj id)with
   |false=>rw[hl]at ht;simp at ht
   |true=>
    rw[hl]at ht;simp only[we,AP]at ht;obtain⟨rfl,rfl⟩:=ht;obtain⟨b,n,k1⟩:=hr.sr.live hl;have g2':=g2;simp only[PR]at g2';obtain rfl:=g2'.2 b n k1;exact nil (ze hr.sr rfl g2)
  case h_2=>
   rename_i id sz j off;cases hl:HU (st.obj id)with
   |false=>rw[hl]at ht;simp at ht
   |true=>
    rw[hl]at ht;simp only[we,AP]at ht;obtain⟨rfl,rfl⟩:=ht;obtain⟨b,n,k1⟩:=hr.sr.live hl;have g2':=g2;simp only[PR]at g2';obtain rfl:=g2'.2 b n k1;exact nil (ze hr.sr rfl g2)
  case h_3=>
   simp only[AP]at ht;obtain⟨rfl,rfl⟩:=ht;have g2':=g2;simp only[PR]at g2';obtain⟨b,o',cs,rfl,_⟩:=g2';exact nil (ze hr.sr rfl g2)
 case binOp op t x y t2=>
  simp only[rR,D5]at ht;obtain⟨p,h1,q,h2,ht⟩:=ht;obtain⟨a,g1,g2⟩:=ev1 h1;obtain⟨b,g3,g4⟩:=ev1 h2;refine nil ?_;rw[g1,g3];split at ht
  case h_2=>exact xV hr.sr g2 g4 ht
  rename_i r hn;simp only[AP]at ht;obtain⟨rfl,rfl⟩:=ht;unfold rF at hn;split at hn
  case h_3=>cases hn
  all_goals
   rename_i m hu;cases hc:(YP x||YP y)with
   |false=>rw[hc]at hn;cases hn
   |true=>
    rw[hc]at hn;cases hn;simp only[PR]at g2 g4;subst g2 g4;exact ze hr.sr (by simp only[Mu,mZ,hu,hc,we,Bt]) (Iw _)
 case unOp op t x=>
  simp only[yX,D5]at ht;obtain⟨p,h1,ht⟩:=ht;obtain⟨y,g1,g2⟩:=ev1 h1;refine nil ?_;rw[g1];exact AaA hr.sr g2 ht
 case convert s d x=>
  simp only[cK,D5]at ht;obtain⟨p,h1,ht⟩:=ht;obtain⟨y,g1,g2⟩:=ev1 h1;refine nil ?_;rw[g1];exact sU hr.sr g2 ht
 case makeFunc f a b=>
  simp only[iS]at ht;split at ht
  case h_2=>simp at ht
  rename_i x y hx hy;simp only[AP]at ht;obtain⟨rfl,rfl⟩:=ht;obtain⟨u,g1,g2⟩:=EU (C:=C) hr.fp hx;obtain⟨w,g3,g4⟩:=EU (C:=C) hr.fp hy;refine nil ?_;rw[g1,g3];exact ze hr.sr rfl (by unfold PR;exact⟨_,_,rfl,g2,g4⟩)
 case makeMap t r=>
  simp only[Yc]at ht;split at ht
  case h_2=>simp at ht
  refine nil ?_;exact nY hr.sr ht
 case lookup t x i ok=>
  simp only[TN,D5]at ht;obtain⟨p,h1,q,h2,ht⟩:=ht;obtain⟨a,g1,g2⟩:=ev1 h1;obtain⟨b,g3,g4⟩:=ev1 h2;refine nil ?_;rw[g1,g3];exact jW hr.sr g2 g4 ht
 case mapUpdate t m k x|insert t m k x=>
  simp only[O8,D5]at ht;obtain⟨p,h1,q,h2,r,h3,ht⟩:=ht;obtain⟨a,g1,g2⟩:=ev1 h1;obtain⟨b,g3,g4⟩:=ev1 h2;obtain⟨c,g5,g6⟩:=ev1 h3;obtain⟨id,rfl,hk⟩:=dR hr.sr g2 g4 g6 ht;refine⟨[id],by rw[g1,g3,g5];exact hk,fun sp ids hids=>?_⟩;simp only[G4,h1,zj]at hids;subst hids;intro i hi;exact hi
 case makeSlice t l c=>
  simp only[dT,D5]at ht;obtain⟨p,h1,q,h2,ht⟩:=ht;obtain⟨a,g1,g2⟩:=ev1 h1;obtain⟨b,g3,g4⟩:=ev1 h2;refine nil ?_;rw[g1,g3];exact vP hr.sr g2 g4 ht
 case slice t x lo hi mx=>
  simp only[YM,D5]at ht;obtain⟨p,h1,ht⟩:=ht;obtain⟨a,g1,g2⟩:=ev1 h1;obtain⟨l,l',k1,k2,ht⟩:=bC (C:=C) hr.fp ht;obtain⟨m,m',k3,k4,ht⟩:=bC (C:=C) hr.fp ht;obtain⟨n,n',k5,k6,ht⟩:=bC (C:=C) hr.fp ht;refine nil ?_;rw[g1,k1,k3,k5];exact pO hr.sr g2 k2 k4 k6 ht
 case fieldAddr t x f=>
  simp only[Yq,D5]at ht;obtain⟨p,h1,ht⟩:=ht;obtain⟨y,g1,g2⟩:=ev1 h1;refine nil ?_;rw[g1];exact oR hr.sr g2 ht
 case field t x f=>
  simp only[YE,D5]at ht;obtain⟨p,h1,ht⟩:=ht;obtain⟨y,g1,g2⟩:=ev1 h1;refine nil ?_;rw[g1];exact nV hr.sr g2 ht
 case indexAddr t x i=>
  simp only[Xl,D5]at ht;obtain⟨p,h1,q,h2,ht⟩:=ht;obtain⟨a,g1,g2⟩:=ev1 h1;obtain⟨b,g3,g4⟩:=ev1 h2;refine nil ?_;rw[g1,g3];exact oT hr.sr g2 g4 ht
 case index t x i=>
  simp only[Yh,D5]at ht;obtain⟨p,h1,q,h2,ht⟩:=ht;obtain⟨a,g1,g2⟩:=ev1 h1;obtain⟨b,g3,g4⟩:=ev1 h2;refine nil ?_;rw[g1,g3];exact qS hr.sr g2 g4 ht
 case extract x i=>
  simp only[QB,D5]at ht;obtain⟨p,h1,ht⟩:=ht;obtain⟨y,g1,g2⟩:=ev1 h1;refine nil ?_;rw[g1];exact aG hr.sr g2 ht
 case range t x=>
  simp only[Xh,D5]at ht;obtain⟨p,h1,ht⟩:=ht;obtain⟨y,g1,g2⟩:=ev1 h1;refine nil ?_;rw[g1];exact oL hr.sr g2 ht
 case next x i=>
  simp only[hZ,D5]at ht;obtain⟨p,h1,ht⟩:=ht;obtain⟨y,g1,g2⟩:=ev1 h1;obtain⟨rfl,id,off,rfl,hk⟩:=wQ hr.sr g2 ht;refine⟨[id],by rw[g1];exact hk,fun sp ids hids=>?_⟩;simp only[G4]at hids;cases hids
 case call c=>
  simp only[R6]at ht;split at ht
  case h_1=>simp at ht
  rename_i args hargs;obtain⟨args',g1,g2⟩:=EU (C:=C) hr.fp hargs;split at ht
  case h_2=>simp at ht
  case h_1=>
   rename_i b hb;split at ht
   case h_1=>
    obtain⟨id,qs,rfl,hk⟩:=eU hr.sr g2 ht;refine⟨[id],by rw[hb,g1];exact hk,fun sp ids hids=>?_⟩;simp only[G4,hb,hargs,zj]at hids;subst hids;intro i hi;exact hi
   case h_2=>
   have:=aB hr.sr g2 ht;refine⟨_,by rw[hb,g1];exact this,fun sp ids hids=>?_⟩;simp only[G4,hb,hargs]at hids;cases b<;>simp only at hids ⊢<;>try (first|(intro i hi;cases hi;done)|(cases hids;done))
   case append=>
    cases args with
    |nil=>simp[Fc]
    |cons p ps=>cases p<;>simp only[zj]at hids<;>subst hids<;>(intro i hi;exact hi)
   case unsafeString=>
    cases args with
    |nil=>simp[tE]
    |cons p ps=>cases p<;>first|(cases hids;done)|(cases hids;intro i hi;exact hi)
end
end Go.Pe
