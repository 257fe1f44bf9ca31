import Derived.Test.YtknhdhchejmpgaaGreatDoorX15
import Derived.Test.YtknhdhchejmpgaaGreatDoorX14
import Derived.Test.YtknhdhchejmpgaaGreatDoorX03
import Derived.ChangeSame
import Derived.Below
import Derived.Test.YtknhdhchejmpgaaGreatDoorX09
import Derived.Test.YtknhdhchejmpgaaGreatDoorX10
import Derived.ChangeShapes
import Derived.OpenShut
import Derived.Test.YtknhdhchejmpgaaGreatDoorRows
import Derived.LaidByTextLater
import Derived.SevenTiedAt
import Derived.LaidSub
import Derived.LaidOnce
/- A part of a proof (no law is stated here). Made by program out of texts by AI agents. -/
noncomputable section
set_option maxRecDepth 10000
open List renaming mem_cons_self -> zc, mem_cons_of_mem -> ze, length_cons -> zg, mem_cons -> zk, pairwise_cons -> zo, length_map -> zt, map_cons -> yb, getElem?_eq_getElem -> yc, all_eq_true -> yo, mem_singleton -> yq, mem_flatMap -> y7, mem_append_right -> qf, cons_ne_nil -> qg, mem_of_mem_drop -> qi, map_drop -> qo, getElem?_take_of_lt -> qq, length_eq_zero_iff -> qt, map_take -> je, range -> jf
open Go.Pe.Ends renaming tt -> zd, leaf -> zl, ite -> z7, An -> yj, ff -> yv, eq -> q9
open Go.Pe.Sh renaming pair -> zf, nlist -> zq, str -> zr, list -> zu, int -> z8
open Go.IntKind renaming wrap -> zh, u64 -> zj, i64 -> qm
open Bool renaming and_eq_true -> zi, or_eq_true -> yh, false_and -> yx, true_and -> y8, and_eq_false_iff -> qe, true_or -> qk, and_false -> qw, or_true -> jh
open Rat renaming one_mul -> zw, add_assoc -> yd, add_zero -> ye, zero_add -> yg, mul_assoc -> ym, le_of_lt -> yn, intCast_mul -> yu, le_refl -> yz, zero_mul -> y9, add_le_add_left -> qj, mul_comm -> ql, add_mul -> qn, lt_irrefl -> qp, le_trans -> qv, mul_add -> qy, add_comm -> ji, mul_zero -> jj
open Array renaming getElem?_eq_some_iff -> z6, getElem?_eq_none -> yr
open Go.DataW renaming trod -> ya, TrodAll -> qh, Trod -> jg
open Int renaming toNat_natCast -> yf
open Nat renaming eq_of_beq_eq_true -> yi, zero_le -> yw, le_refl -> yy, beq -> qd
open Prod renaming fst -> yk
open Option renaming bind_some -> yp, bind_eq_some_iff -> qu, getD -> qx
open Go.Sp renaming isNum -> yt
open Go.Value renaming okWide -> qc
open Go.World renaming cell? -> qz
open Go.Pe.Ad renaming of -> jc
open Go.Det renaming sorted -> jd
open Go.Addr renaming add -> jk
namespace Go.Sp
def VJ(l:List BB):Prop:=∀c∈l,isNum c.1=true/\AF c.2=0
theorem ND{l:List BB}(h:AJ l=0):VJ l:=fun c hc=>by
 have:=O9 (G2 h).2.2 c hc;exact⟨this.1,this.2.1⟩
theorem VJ.tail{c:BB}{l:List BB}(h:VJ (c::l)):VJ l:=fun x hx=>h x (ze _ hx)
theorem Pa{c:BB}{l:List BB}(h:AF c.2=0):Fe (c::l)=KJ c.2+1+Fe l:=by rw[Fe,wd h]
theorem eP{n:Int}(h:isNum n=true):Dq 9 (n:Rat):=by
 have:=EL h;unfold Dq;rw[Rat.num_intCast,Rat.den_intCast];exact⟨by show _<1000000000;omega,by decide⟩
theorem XF{l:List BB}(h:Io l=true)(k:AJ l=0):l.length<=64/\Fe l<=1300:=by
 have:=(WW h).2.2;have:=(G2 k).2.1;omega
end Go.Sp
namespace Go.Pe
open Sp
open Go.Det
theorem nA{n:Int}(h:yt n=true):CD n=true:=by
 have:=EL h;exact C4 (by omega) (by omega)
theorem YC:D3 wK:=Aa T63.ok (Aa T111.ok (Aa T87.ok (Aa T82.ok (Aa T80.ok (Aa T103.ok AO)))))
namespace T59
variable {Q:PV->Ob->Prop}
theorem loop(l:List BB)(h64:l.length<=64)(hq:∀f ob,E3 f (Dc l)->Sp.DB f=true->Q (.tup [.dat .str (MX f),.dat i64 (MZ f)]) ob):∀(r:List BB) (i K:Nat) (s:Rat) (f:AS),l.drop i=r->i<=l.length->VJ r->E3 f s->Dq K s->K+(Fe r+9*r.length)<=1990->s+Dc r=Dc l->Ends wK (L1 l (l.length:Int) (i:Int) f.1.1 f.1.2 f.2.1 f.2.2) Q
 |[],i,K,s,f,h,hi,hv,hf,hz,hk,he=>by
  have:=drop_nil h hi;have ok:=hf.DB (Cd hz (by omega));rw[Dc,ye]at he;rw[he]at hf;exact yj (Ap ..) (yv (w8 (by omega)) (zd ok (zl (hq f _ hf ok))))
 |c::r,i,K,s,f,h,hi,hv,hf,hz,hk,he=>by
  obtain⟨g1,g2,g3⟩:=drop_cons (d:=(((0:Int),[]):BB)) h;have e1:zh .i64 ((i:Int)+1)=((i+1:Nat):Int):=by rw[wr _ (by omega) (by omega)];omega
  obtain⟨hn,hc⟩:=hv c (zc ..);obtain⟨rr,zz,_,_,rb⟩:=D7 hc;have rn:=fJ c.1 (nA hn);have zn:=eP hn;rw[Pa hc,zg]at hk;have s1:=Cd hz (by omega);have s2:=Cd zz (by omega);have s3:=Cd zn (by decide);have rm:=E3.mul rn rr s3 s2;have zm:=zn.mul zz;have s4:=Cd zm (by omega);refine yj (Ap ..) ?_;conv=>zeta
  rw[e1,yf,g2];refine zd (w4 (by omega)) (zd (Ac (w4 (by omega)) (w4 (by omega))) (zd rfl (zd rb (zd (Ac (rn.FO s3) (rr.FO s2)) (zd (Ac (hf.FO s1) (rm.FO s4)) ?_)))));refine loop l h64 hq r (i+1) _ (s+(c.1:Rat)*AQ c.2) (Hu f (OX ((c.1,BA c.1),(1,BA 1)) (JJ c.2))) g3 g1 hv.tail (E3.add hf rm s1 s4) (hz.add zm) (by omega) ?_;rw[<-he,Dc,yd]
end T59
theorem T59.ok:Ag Bh 59 rU:=by
 refine Cn YC (fun(l:List BB) hl=>?_);have hl:Io l=true:=hl;refine q9 (T59.Am l) (zd hl (z7 (fun c=>zl ?_) (fun c=>?_)))
 ·have c:AJ l≠0:=by simpa using c
  refine jc rfl rfl ?_;show(([]:List UInt8),AJ l)=(gT (AJ l) _,gN (AJ l) _);unfold gT gN;rw[wd c,wd c]
 ·have c:AJ l=0:=by simpa using c
  obtain⟨k1,k2⟩:=XF hl c;exact zd rfl (T59.loop l k1 (fun f ob hf ok=>jc rfl rfl (cP hf c)) l 0 1 0 ((0,BA 0),(1,BA 1)) rfl (yw _) (ND c) Fm I8 (by omega) (yg _))
namespace T61
variable {Q:PV->Ob->Prop}
theorem loop(n:Int)(l:List BB)(h64:l.length<=64)(hq:∀f ob,E3 f (FL n l)->Sp.DB f=true->Q (.tup [.dat .str (MX f),.dat i64 (MZ f)]) ob):∀(r:List BB) (i K:Nat) (s:Rat) (f:AS),l.drop i=r->i<=l.length->VJ r->E3 f s->Dq K s->K+Fe r<=1990->s+FL n r=FL n l->Ends wK (L1 n l (l.length:Int) (i:Int) f.1.1 f.1.2 f.2.1 f.2.2) Q
 |[],i,K,s,f,h,hi,hv,hf,hz,hk,he=>by
  have:=drop_nil h hi;have ok:=hf.DB (Cd hz (by omega));rw[FL,ye]at he;rw[he]at hf;exact yj (Ap ..) (yv (w8 (by omega)) (zd ok (zl (hq f _ hf ok))))
 |c::r,i,K,s,f,h,hi,hv,hf,hz,hk,he=>by
  obtain⟨g1,g2,g3⟩:=drop_cons (d:=(((0:Int),[]):BB)) h;have e1:zh .i64 ((i:Int)+1)=((i+1:Nat):Int):=by rw[wr _ (by omega) (by omega)];omega
  obtain⟨hn,hc⟩:=hv c (zc ..);obtain⟨rr,zz,_,_,rb⟩:=D7 hc;rw[Pa hc]at hk;have s1:=Cd hz (by omega);have s2:=Cd zz (by omega);rw[FL]at he;refine yj (Ap ..) ?_;conv=>zeta
  rw[e1,yf,g2];refine zd (w4 (by omega)) (zd (Ac (w4 (by omega)) (w4 (by omega))) (z7 (fun k=>?_) (fun k=>?_)))
  ·have k:=w6 k;rw[wd k]at he;exact zd rb (zd (Ac (hf.FO s1) (rr.FO s2)) (loop n l h64 hq r (i+1) _ (s+AQ c.2) (Hu f (JJ c.2)) g3 g1 hv.tail (E3.add hf rr s1 s2) (hz.add zz) (by omega) (by rw[<-he,yd])))
  ·have k:=w7 k;rw[wc k,yg]at he;exact loop n l h64 hq r (i+1) K s f g3 g1 hv.tail hf hz (by omega) he
end T61
theorem T61.ok:Ag Bh 61 rJ:=by
 refine Cn YC (fun(i:List BB×Int) hl=>?_);obtain⟨l,n⟩:=i;have hl:Io l=true:=hl;refine q9 (T61.Am l n) (zd hl (z7 (fun c=>zl ?_) (fun c=>?_)))
 ·have c:AJ l≠0:=by simpa using c
  refine jc rfl rfl ?_;show(([]:List UInt8),AJ l)=(gT (AJ l) _,gN (AJ l) _);unfold gT gN;rw[wd c,wd c]
 ·have c:AJ l=0:=by simpa using c
  obtain⟨k1,k2⟩:=XF hl c;exact zd rfl (T61.loop n l k1 (fun f ob hf ok=>jc rfl rfl (cP hf c)) l 0 1 0 ((0,BA 0),(1,BA 1)) rfl (yw _) (ND c) Fm I8 (by omega) (yg _))
section
open List Int Prod
namespace T67
def T(a:List (Int×List UInt8))(b:List (Int×List UInt8)):Tr:=tree kM false 9 67 (Af ([zu (zf i64 zr),zu (zf i64 zr)]) (a,b))
def L1(v0:List (Int×List UInt8))(v1:List (Int×List UInt8))(v5:Int):Tr:=re ((T [] []).R) (AD 26 [(0,.dat (zu (zf i64 zr)) v0),(1,.dat (zu (zf i64 zr)) v1),(5,.dat i64 v5)] [] 0)
theorem Am(a:List (Int×List UInt8))(b:List (Int×List UInt8)):T a b=.ite ((length a:Int) !=(length b:Int)) (.leaf (.bl false) []) (L1 a b 0):=by kernel_rfl
theorem Ap(v0:List (Int×List UInt8))(v1:List (Int×List UInt8))(v5:Int):stepT kM (L1 v0 v1 v5)=let a':=decide (v5<(length v0:Int));let b':=getD v0 (toNat v5) (0,[]);let c':=getD v1 (toNat v5) (0,[]);.ite (a') (.ite (decide (0<=v5)&&a') (.ite (decide (0<=v5)&&decide (v5<(length v1:Int))) (.ite (!(fst b'==fst c'&&(snd b'==snd c'&&true))) (.leaf (.bl false) []) (L1 v0 v1 (zh .i64 (v5+1)))) .fail) .fail) (.leaf (.bl true) []):=by kernel_rfl
end T67
namespace T58
def T(l:List (Int×List UInt8))(n d:Int):Tr:=tree kM false 9 58 (Af ([zu (zf i64 zr),z8 qm,z8 qm]) (l,n,d))
def L1(v0:List (Int×List UInt8))(v2 v7:Int):Tr:=re ((T [] 0 0).L.R.R) (AD 36 [(0,.dat (zu (zf i64 zr)) v0),(2,.dat i64 v2),(7,.dat i64 v7)] [] 0)
theorem Am(l:List (Int×List UInt8))(n d:Int):T l n d=let b':=(length l:Int);let a':Tr:=.ite (decide (b'>70)) (.leaf (.bl false) []) (L1 l d 0);.ite (decide (b'>n)) (.ite (decide (b'<=64)) (.leaf (.bl false) []) a') a':=by kernel_rfl
theorem Ap(v0:List (Int×List UInt8))(v2 v7:Int):stepT kM (L1 v0 v2 v7)=let a':=decide (v7<(length v0:Int));.ite (a') (.ite (decide (0<=v7)&&a') (.ite (decide (0<=v2)&&decide (v2<=1000)) (.ite (!Sp.BF (snd (getD v0 (toNat v7) (0,[]))) v2) (.leaf (.bl false) []) (L1 v0 v2 (zh .i64 (v7+1)))) .fail) .fail) (.leaf (.bl true) []):=by kernel_rfl
end T58
end
theorem nR{s:Sh}{sz:Nat}(hs:s.sz=sz){id n:Nat}{ob:Ob}{fz:Bool}{t:TypeId}{o:List s.T}(h1:AL ob id=some (.arr fz t s o))(hn:n=o.length):H5 ⟨0,.leaf,ob,0⟩ (.list s) (.sl id sz 0 n none)=some (true,o):=by
 subst hn hs;unfold H5;have h2:Es ⟨0,.leaf,ob,0⟩ (PV.cells (.sl id s.sz 0 o.length none))=some (true,[.dat (.list s) o]):=by
  show(match CI ⟨0,.leaf,ob,0⟩ (.sl id s.sz 0 o.length none),some (true,[])with|some (c,x),some (d,xs)=>some (c&&d,x::xs)|_,_=>none)=_;have:CI ⟨0,.leaf,ob,0⟩ (.sl id s.sz 0 o.length none)=some (true,.dat (.list s) o):=by
   unfold CI AI.obj;simp only[h1,Nat.beq_refl,we];simp
  rw[this];rfl
 simp only[J8,Sh.P5];show(match Es ⟨0,.leaf,ob,0⟩ (PV.cells (.sl id s.sz 0 o.length none))with|some (c,cs)=>_|none=>none)=_;rw[h2];have:C3 (.list s) [PV.dat (.list s) o]=some o:=by
  unfold C3 Cy qZ DZ;simp
 simp only[PJ,this,y8]
theorem eI{s:Sh}{sz:Nat}(hs:s.sz=sz){id n:Nat}{ob:Ob}{fz:Bool}{t:TypeId}{o:List s.T}{e:Int}(h1:AL ob id=some (.arr fz t s o))(hn:n=o.length):Qu [.list s,i64] (.tup [.sl id sz 0 n none,.dat i64 e]) ob=some (true,(o,e)):=by
 unfold Qu IZ;simp only;unfold Ec;rw[nR hs h1 hn];rfl
theorem Xf:D3 kM:=Aa T46.ok AO
namespace T67
variable {Q:PV->Ob->Prop}
theorem loop(a b:List BB)(hl:a.length<=5000)(hab:a.length=b.length)(hq:∀ob,Q (.bl (decide (a=b))) ob):∀(r s:List BB) (i:Nat),a.drop i=r->b.drop i=s->i<=a.length->decide (a=b)=decide (r=s)->Ends kM (L1 a b (i:Int)) Q
 |[],s,i,h,hs,hi,he=>by
  have:=drop_nil h hi;have:s=[]:=by rw[<-hs];exact List.drop_eq_nil_of_le (by omega)
  subst this;rw[he,w4 rfl]at hq;exact yj (Ap ..) (yv (w8 (by omega)) (zl (hq _)))
 |c::r,[],i,h,hs,hi,he=>by
  obtain⟨g1,_,_⟩:=drop_cons (d:=(((0:Int),[]):BB)) h;have:=drop_nil hs (by omega);omega
 |c::r,d::s,i,h,hs,hi,he=>by
  obtain⟨g1,g2,g3⟩:=drop_cons (d:=(((0:Int),[]):BB)) h;obtain⟨k1,k2,k3⟩:=drop_cons (d:=(((0:Int),[]):BB)) hs;have e1:zh .i64 ((i:Int)+1)=((i+1:Nat):Int):=by rw[wr _ (by omega) (by omega)];omega
  refine yj (Ap ..) ?_;conv=>zeta
  rw[e1,yf,g2,k2];have eb:(c.1==d.1&&(c.2==d.2&&true))=decide (c=d):=by
   rw[Bool.and_true];cases hd:decide (c=d)with
   |true=>rw[w6 hd];simp
   |false=>
    have hd:=w7 hd;rw[qe];by_cases x:c.1=d.1
    ·right;simp;exact fun y=>hd (Prod.ext x y)
    ·left;simp[x]
  refine zd (w4 (by omega)) (zd (Ac (w4 (by omega)) (w4 (by omega))) (zd (Ac (w4 (by omega)) (w4 (by omega))) (z7 (fun k=>zl ?_) (fun k=>?_))))
  ·have k:¬c=d:=by
    have k:(c.1==d.1&&(c.2==d.2&&true))=false:=by
     cases h:(c.1==d.1&&(c.2==d.2&&true))with
     |false=>rfl
     |true=>rw[h]at k;cases k
    rw[eb]at k;exact w7 k
   rw[he,w8 (by simp[k])]at hq;exact hq _
  ·have k:c=d:=by
    have k:(c.1==d.1&&(c.2==d.2&&true))=true:=by
     cases h:(c.1==d.1&&(c.2==d.2&&true))with
     |true=>rfl
     |false=>rw[h]at k;cases k
    rw[eb]at k;exact w6 k
   exact loop a b hl hab hq r s (i+1) g3 k3 g1 (by rw[he,k];simp)
end T67
theorem T67.ok:Ag Bh 67 WC:=by
 refine Cn Xf (fun(i:List BB×List BB) hl=>?_);obtain⟨a,b⟩:=i;have hl:a.length<=5000:=w6 hl;have hq:∀(x:Bool) ob,x=decide (a=b)->Ad WC (a,b) (.bl x) ob:=fun x ob h=>jc rfl rfl h
 refine q9 (T67.Am a b) (z7 (fun c=>zl (hq _ _ ?_)) (fun c=>?_))
 ·have c:(a.length:Int)≠(b.length:Int):=by simpa using c
  exact(w8 (fun k=>by rw[k]at c;exact c rfl)).symm
 ·have c:(a.length:Int)=(b.length:Int):=by simpa using c
  exact T67.loop a b hl (by omega) (fun ob=>hq _ ob rfl) a b 0 rfl rfl (yw _) rfl
namespace T58
variable {Q:PV->Ob->Prop}
theorem loop(l:List BB)(d:Int)(h0:0<=d)(h1:d<=1000)(hl:l.length<=70)(hq:∀ob,Q (.bl (l.all fun c=>BF c.2 d)) ob):∀(r:List BB) (i:Nat),l.drop i=r->i<=l.length->(l.all fun c=>BF c.2 d)=(r.all fun c=>BF c.2 d)->Ends kM (L1 l d (i:Int)) Q
 |[],i,h,hi,he=>by
  have:=drop_nil h hi;rw[he,List.all_nil]at hq;exact yj (Ap ..) (yv (w8 (by omega)) (zl (hq _)))
 |c::r,i,h,hi,he=>by
  obtain⟨g1,g2,g3⟩:=drop_cons (d:=(((0:Int),[]):BB)) h;have e1:zh .i64 ((i:Int)+1)=((i+1:Nat):Int):=by rw[wr _ (by omega) (by omega)];omega
  rw[List.all_cons]at he;refine yj (Ap ..) ?_;conv=>zeta
  rw[e1,yf,g2];refine zd (w4 (by omega)) (zd (Ac (w4 (by omega)) (w4 (by omega))) (zd (Ac (w4 h0) (w4 h1)) (z7 (fun k=>zl ?_) (fun k=>?_))))
  ·have k:BF c.2 d=false:=by simpa using k
   rw[he,k,yx]at hq;exact hq _
  ·have k:BF c.2 d=true:=by simpa using k
   exact loop l d h0 h1 hl hq r (i+1) g3 g1 (by rw[he,k,y8])
end T58
theorem T58.ok:Ag Bh 58 NF:=by
 refine Cn Xf (fun(i:List BB×Int×Int) hl=>?_);obtain⟨l,n,d⟩:=i;have hl:(decide (0<=n)&&decide (n<=64)&&decide (0<=d)&&decide (d<=1000))=true:=hl;rw[zi,zi,zi,w5,w5,w5,w5]at hl;obtain⟨⟨⟨h1,h2⟩,h3⟩,h4⟩:=hl;have hq:∀(x:Bool) ob,x=Cs l n d->Ad NF (l,n,d) (.bl x) ob:=fun x ob h=>jc rfl rfl h
 have go:(decide ((l.length:Int)<=n)||decide (64<l.length))=true->l.length<=70->Ends kM (T58.L1 l d 0) (Ad NF (l,n,d)):=fun k1 k2=>T58.loop l d h3 h4 k2 (fun ob=>hq _ ob (by unfold Cs;rw[k1,w4 k2,y8,y8])) l 0 rfl (yw _) rfl
 refine q9 (T58.Am l n d) (z7 (fun c=>z7 (fun k=>zl (hq _ _ ?_)) (fun k=>z7 (fun m=>zl (hq _ _ ?_)) (fun m=>?_))) (fun c=>z7 (fun m=>zl (hq _ _ ?_)) (fun m=>?_)))
 ·have c:=w6 c;have k:=w6 k;unfold Cs;rw[w8 (by omega),w8 (by omega)];rfl
 ·have m:=w6 m;unfold Cs;rw[w8 (show ¬l.length<=70 by omega),qw,yx]
 ·have k:=w7 k;have m:=w7 m;exact go (by rw[w4 (show 64<l.length by omega),jh]) (by omega)
 ·have m:=w6 m;unfold Cs;rw[w8 (show ¬l.length<=70 by omega),qw,yx]
 ·have c:=w7 c;have m:=w7 m;exact go (by rw[w4 (show(l.length:Int)<=n by omega),qk]) (by omega)
end Go.Pe
namespace Go.Sp
abbrev WT:=List (Int×Rat)
def CB(v:Int):WT->Option Rat
 |[]=>none
 |c::l=>if c.1=v then some c.2 else CB v l
def XR(W:WT):Prop:=W.Pairwise fun a b=>a.1<b.1
variable {v:Int}{q:Rat}
theorem TH:∀W:WT,(BU v q W).length<=W.length+1
 |[]=>yy _
 |c::l=>by
  have:=TH l;rw[BU];split
  ·rw[zg,zg];omega
  ·split
   ·rw[zg,zg];omega
   ·rw[zg,zg];omega
theorem Xi{k j:Nat}(hq:Dq j q):∀ {W:WT},(∀c∈W,Dq k c.2)->∀c∈BU v q W,Dq (k+j+1) c.2
 |[],_,c,hc=>by
  rw[BU]at hc;rw[yq.1 hc];exact hq.mono (by omega)
 |d::l,h,c,hc=>by
  have h1:=h d (zc ..);have h2:=fun x hx=>h x (ze _ hx)
  rw[BU]at hc;split at hc
  ·rcases zk.1 hc with rfl|hc
   ·exact h1.mono (by omega)
   ·exact Xi hq h2 c hc
  ·split at hc
   ·rcases zk.1 hc with rfl|hc
    ·exact h1.add hq
    ·exact(h2 c hc).mono (by omega)
   ·rcases zk.1 hc with rfl|hc
    ·exact hq.mono (by omega)
    ·exact(h c hc).mono (by omega)
theorem TJ:∀ {W:WT},∀c∈BU v q W,c.1=v\/∃d∈W,d.1=c.1
 |[],c,hc=>by
  rw[BU]at hc;rw[yq.1 hc];exact .inl rfl
 |d::l,c,hc=>by
  rw[BU]at hc;split at hc
  ·rcases zk.1 hc with rfl|hc
   ·exact .inr ⟨_,zc ..,rfl⟩
   ·rcases TJ c hc with h|⟨x,hx,h⟩
    ·exact .inl h
    ·exact .inr ⟨x,ze _ hx,h⟩
  ·split at hc
   ·rcases zk.1 hc with rfl|hc
    ·exact .inl rfl
    ·exact .inr ⟨c,ze _ hc,rfl⟩
   ·rcases zk.1 hc with rfl|hc
    ·exact .inl rfl
    ·exact .inr ⟨c,hc,rfl⟩
theorem SF:∀ {W:WT},XR W->XR (BU v q W)
 |[],_=>List.pairwise_singleton ..
 |d::l,h=>by
  obtain⟨h1,h2⟩:=zo.1 h;rw[BU];split
  ·next k=>
   refine zo.2 ⟨fun c hc=>?_,SF h2⟩;rcases TJ c hc with e|⟨x,hx,e⟩
   ·rw[e];exact k
   ·rw[<-e];exact h1 x hx
  next k=>
  split
  ·next e=>exact zo.2 ⟨fun c hc=>by rw[<-e];exact h1 c hc,h2⟩
  ·next e=>
   refine zo.2 ⟨fun c hc=>?_,h⟩;rcases zk.1 hc with rfl|hc
   ·show v<c.1;omega
   ·have:=h1 c hc;show v<c.1;omega
theorem LD:∀ {W:WT},(∀c∈W,v<c.1)->CB v W=none
 |[],_=>rfl
 |c::l,h=>by
  have:=h c (zc ..);rw[CB,wc (by omega),LD fun x hx=>h x (ze _ hx)]
theorem Lt{u:Int}:∀ {W:WT},XR W->CB u (BU v q W)=if u=v then some ((CB v W).getD 0+q)else CB u W
 |[],_=>by
  show(if v=u then some q else none)=if u=v then some (0+q)else none
  rw[yg];by_cases h:v=u
  ·rw[wd h,wd h.symm]
  ·rw[wc h,wc (fun e=>h e.symm)]
 |d::l,h=>by
  obtain⟨h1,h2⟩:=zo.1 h;rw[BU];split
  ·next k=>
   rw[CB,Lt h2];by_cases e:d.1=u
   ·rw[wd e,wc (by omega),CB,wd e]
   ·rw[wc e];by_cases e2:u=v
    ·rw[wd e2,wd e2,CB,wc (by omega)]
    ·rw[wc e2,wc e2,CB,wc e]
  next k=>
  split
  ·next e=>
   rw[CB];by_cases e2:v=u
   ·rw[wd e2,wd e2.symm,CB,wd e];rfl
   ·rw[wc e2,wc (fun x=>e2 x.symm),CB,wc (by omega)]
  ·next e=>
   rw[CB];by_cases e2:v=u
   ·have hn:CB v (d::l)=none:=LD fun c hc=>by
     rcases zk.1 hc with rfl|hc
     ·omega
     ·have:=h1 c hc;omega
    rw[wd e2,wd e2.symm,hn];show some q=some (0+q);rw[yg]
   ·rw[wc e2,wc (fun x=>e2 x.symm)]
theorem Qj:∀ {W:WT},CB v W=none->List.Perm ((BU v q W).map yk) (v::W.map yk)
 |[],_=>.refl _
 |d::l,h=>by
  rw[CB]at h;split at h
  ·cases h
  next e=>
  rw[BU];split
  ·rw[yb,yb];exact((Qj h).cons d.1).trans (.swap ..)
  ·first
    |exact .refl _
    |(rw[wc e];exact .refl _)
theorem QY:∀ {W:WT},XR W->(CB v W).isSome=true->(BU v q W).map yk=W.map yk
 |[],_,h=>by cases h
 |d::l,hu,h=>by
  obtain⟨h1,h2⟩:=zo.1 hu;rw[CB]at h;rw[BU];split at h
  ·next e=>rw[wc (by omega),wd e,yb,yb,e]
  next e=>
  split
  ·rw[yb,yb,QY h2 h]
  ·next k=>
   rw[LD fun c hc=>by have:=h1 c hc;omega]at h;cases h
structure uI(N:Nat)(W:WT):Prop where
 sz:∀c∈W,Dq (19*N) c.2
 ln:W.length<=N
theorem uI.step{N:Nat}{W:WT}(h:uI N W)(hq:Dq 18 q):uI (N+1) (BU v q W):=
 ⟨fun c hc=>(Xi hq h.sz c hc).mono (by omega),Nat.le_trans (TH W) (Nat.succ_le_succ h.ln)⟩
theorem uI.nil:uI 0 []:=⟨fun c hc=>(by cases hc),yy _⟩
end Go.Sp
namespace Go.Sp
theorem Og(x y:BB)(b:List BB)(w:WT):LV x (y::b) w=LV x b (BU (x.1+y.1) (AQ x.2*AQ y.2) w):=by rw[LV]
theorem all_cons(x:BB)(a b:List BB)(w:WT):LK (x::a) b w=LK a b (LV x b w):=by rw[LK]
def kE(l:List BB):Prop:=∀c∈l,isNum c.1=true/\AF c.2=0/\KJ c.2<=9
theorem Yp{l:List BB}(h:Cs l 10 9=true)(k:AJ l=0):kE l/\l≠[]/\l.length<=10:=by
 obtain⟨h1,h2,h3⟩:=Jb (n:=10) (d:=9) h;obtain⟨k1,k2,k3⟩:=G2 k;refine⟨fun c hc=>?_,k1,by omega⟩;have:=ND k c hc;exact⟨this.1,this.2,(h3 c hc).2 this.2⟩
theorem oC(w:WT)(h:w.length<=64):Sa w=if w.any Fa then 4 else 0:=by unfold Sa;rw[wc (by omega)]
end Go.Sp
namespace Go.Pe
open Sp
open Go.Det
section
open List Int Prod
namespace T60
def T(a:List (Int×List UInt8))(b:List (Int×List UInt8)):Tr:=tree J5 false 9 60 (Af ([zu (zf i64 zr),zu (zf i64 zr)]) (a,b))
def L1(v1:List (Int×List UInt8))(v29:List (Int×List UInt8))(v30 v31:Int)(o0:List (Int×(Int×List Int)×Int×List Int)):Tr:=re ((T [] []).L.L.L.R) (AD 103 [(1,.dat (zu (zf i64 zr)) v1),(7,PV.mp 0),(8,.nil),(29,.dat (zu (zf i64 zr)) v29),(30,.dat i64 v30),(31,.dat i64 v31)] [(0,Obj.map i64 (zf (zf i64 (zq (z8 zj))) (zf i64 (zq (z8 zj)))) o0)] 1)
theorem Am(a:List (Int×List UInt8))(b:List (Int×List UInt8)):T a b=.ite (Io a) (.ite (Io b) (.ite (decide (2<=2)&&true&&decide (2<=1000000)) (.ite (Sp.first [AJ a,AJ b] !=0) (.leaf (.tup [.nil,.dat i64 (Sp.first [AJ a,AJ b])]) ([(0,.arr false 25 i64 [AJ a,AJ b])])) (L1 b a ((length a:Int)) 0 [])) .fail) .fail) .fail:=by kernel_rfl
def L2(v1:List (Int×List UInt8))(v29:List (Int×List UInt8))(v30 v31:Int)(v35:List (Int×List UInt8))(v36 v37 o1:Int)(o1_1:List UInt8)(o0:List (Int×(Int×List Int)×Int×List Int)):Tr:=re ((stepT J5 (L1 [] [] 0 0 [])).L.L) (AD 103 [(1,.dat (zu (zf i64 zr)) v1),(7,PV.mp 0),(8,.nil),(10,.ptr 1 0),(29,.dat (zu (zf i64 zr)) v29),(30,.dat i64 v30),(31,.dat i64 v31),(35,.dat (zu (zf i64 zr)) v35),(36,.dat i64 v36),(37,.dat i64 v37)] [(1,.box [.dat i64 o1,.dat zr o1_1]),(0,Obj.map i64 (zf (zf i64 (zq (z8 zj))) (zf i64 (zq (z8 zj)))) o0)] 2)
def L3(v78 v79:Int)(o0:List (Int×(Int×List Int)×Int×List Int)):Tr:=re ((stepT J5 (L1 [] [] 0 0 [])).R.R.L) (AD 103 [(7,PV.mp 0),(16,.nil),(77,.nil),(78,.dat i64 v78),(79,.dat i64 v79)] [(0,Obj.map i64 (zf (zf i64 (zq (z8 zj))) (zf i64 (zq (z8 zj)))) o0)] 1)
theorem Ap(v1:List (Int×List UInt8))(v29:List (Int×List UInt8))(v30 v31:Int)(o0:List (Int×(Int×List Int)×Int×List Int)):stepT J5 (L1 v1 v29 v30 v31 o0)=let a':=zf i64 (zq (z8 zj));let b':=getD v29 (toNat v31) (0,[]);.ite (decide (v31<v30)) (.ite (decide (0<=v31)&&decide (v31<(length v29:Int))) (L2 v1 v29 v30 v31 v1 ((length v1:Int)) 0 (fst b') (snd b') o0) .fail) (.ite false (.leaf (.tup [.nil,.dat i64 (5:Int)]) ([(0,Obj.map i64 (zf a' a') o0)])) (.ite false (L3 0 0 o0) .fail)):=by kernel_rfl
def L4(v1:List (Int×List UInt8))(v8n:Nat)(v13:Int)(v29:List (Int×List UInt8))(v30 v31:Int)(v35:List (Int×List UInt8))(v36 v37 o4:Int)(o4_1:List Int)(o4_2:Int)(o4_3:List Int)(o3:Int)(o3_1:List UInt8)(o2:Int)(o2_1:List UInt8)(o1:List Int)(o0:List (Int×(Int×List Int)×Int×List Int)):Tr:=re ((stepT J5 (L2 [] [] 0 0 [] 0 0 0 [] [])).L.L.L.L.L) (AD 103 [(1,.dat (zu (zf i64 zr)) v1),(7,PV.mp 0),(8,.sl 1 1 0 v8n none),(10,.ptr 2 0),(12,.ptr 3 0),(13,.dat i64 v13),(14,.ptr 4 0),(29,.dat (zu (zf i64 zr)) v29),(30,.dat i64 v30),(31,.dat i64 v31),(35,.dat (zu (zf i64 zr)) v35),(36,.dat i64 v36),(37,.dat i64 v37)] [(4,.box [.dat i64 o4,.dat (zq (z8 zj)) o4_1,.dat i64 o4_2,.dat (zq (z8 zj)) o4_3]),(3,.box [.dat i64 o3,.dat zr o3_1]),(2,.box [.dat i64 o2,.dat zr o2_1]),(1,.arr false 3 i64 o1),(0,Obj.map i64 (zf (zf i64 (zq (z8 zj))) (zf i64 (zq (z8 zj)))) o0)] 5)
def L5(v1:List (Int×List UInt8))(v13:Int)(v29:List (Int×List UInt8))(v30 v31:Int)(v35:List (Int×List UInt8))(v36 v37 o3:Int)(o3_1:List Int)(o3_2:Int)(o3_3:List Int)(o2:Int)(o2_1:List UInt8)(o1:Int)(o1_1:List UInt8)(o0:List (Int×(Int×List Int)×Int×List Int)):Tr:=re ((stepT J5 (L2 [] [] 0 0 [] 0 0 0 [] [])).L.L.R) (AD 103 [(1,.dat (zu (zf i64 zr)) v1),(7,PV.mp 0),(8,.nil),(10,.ptr 1 0),(12,.ptr 2 0),(13,.dat i64 v13),(14,.ptr 3 0),(29,.dat (zu (zf i64 zr)) v29),(30,.dat i64 v30),(31,.dat i64 v31),(35,.dat (zu (zf i64 zr)) v35),(36,.dat i64 v36),(37,.dat i64 v37)] [(3,.box [.dat i64 o3,.dat (zq (z8 zj)) o3_1,.dat i64 o3_2,.dat (zq (z8 zj)) o3_3]),(2,.box [.dat i64 o2,.dat zr o2_1]),(1,.box [.dat i64 o1,.dat zr o1_1]),(0,Obj.map i64 (zf (zf i64 (zq (z8 zj))) (zf i64 (zq (z8 zj)))) o0)] 4)
theorem AY(v1:List (Int×List UInt8))(v29:List (Int×List UInt8))(v30 v31:Int)(v35:List (Int×List UInt8))(v36 v37 o1:Int)(o1_1:List UInt8)(o0:List (Int×(Int×List Int)×Int×List Int)):stepT J5 (L2 v1 v29 v30 v31 v35 v36 v37 o1 o1_1 o0)=let b':=getD v35 (toNat v37) (0,[]);let e':=zf i64 (zq (z8 zj));let d':=zh .i64 (o1+fst b');let a':=DP i64 (zf e' e') d' o0;let c':=qx a' ((0,[]),0,[]);.ite (decide (v37<v36)) (.ite (decide (0<=v37)&&decide (v37<(length v35:Int))) (.ite (!Option.isSome a') (.ite true (.ite (decide (1<=1)&&decide (0<1)&&decide ((2*1+1000)*8<=281474976710656)) (L4 v1 1 d' v29 v30 v31 v35 v36 v37 0 (BA 0) 1 (BA 1) (fst b') (snd b') o1 o1_1 ([zh .i64 (o1+fst b')]) o0) .fail) .fail) (L5 v1 d' v29 v30 v31 v35 v36 v37 (fst (fst c')) (snd (fst c')) (fst (snd c')) (snd (snd c')) (fst b') (snd b') o1 o1_1 o0)) .fail) (L1 v1 v29 v30 (zh .i64 (v31+1)) o0):=by kernel_rfl
def L6(v1:List (Int×List UInt8))(v8n:Nat)(v29:List (Int×List UInt8))(v30 v31:Int)(v35:List (Int×List UInt8))(v36 v37 o2:Int)(o2_1:List UInt8)(o1:List Int)(o0:List (Int×(Int×List Int)×Int×List Int)):Tr:=re ((stepT J5 (L4 [] 0 0 [] 0 0 [] 0 0 0 [] 0 [] 0 [] 0 [] [] [])).L.L.L.L) (AD 103 [(1,.dat (zu (zf i64 zr)) v1),(7,PV.mp 0),(8,.sl 1 1 0 v8n none),(10,.ptr 2 0),(29,.dat (zu (zf i64 zr)) v29),(30,.dat i64 v30),(31,.dat i64 v31),(35,.dat (zu (zf i64 zr)) v35),(36,.dat i64 v36),(37,.dat i64 v37)] [(2,.box [.dat i64 o2,.dat zr o2_1]),(1,.arr false 3 i64 o1),(0,Obj.map i64 (zf (zf i64 (zq (z8 zj))) (zf i64 (zq (z8 zj)))) o0)] 3)
theorem CJ(v1:List (Int×List UInt8))(v8n:Nat)(v13:Int)(v29:List (Int×List UInt8))(v30 v31:Int)(v35:List (Int×List UInt8))(v36 v37 o4:Int)(o4_1:List Int)(o4_2:Int)(o4_3:List Int)(o3:Int)(o3_1:List UInt8)(o2:Int)(o2_1:List UInt8)(o1:List Int)(o0:List (Int×(Int×List Int)×Int×List Int)):stepT J5 (L4 v1 v8n v13 v29 v30 v31 v35 v36 v37 o4 o4_1 o4_2 o4_3 o3 o3_1 o2 o2_1 o1 o0)=let a':=zf i64 (zq (z8 zj));let b':=OX (JJ o2_1) (JJ o3_1);.ite (Hn o2_1) (.ite (Hn o3_1) (.ite (Sp.FO (JJ o2_1)&&Sp.FO (JJ o3_1)) (.ite (Sp.FO ((o4,o4_1),o4_2,o4_3)&&Sp.FO b') (L6 v1 v8n v29 v30 v31 v35 v36 (zh .i64 (v37+1)) o2 o2_1 o1 (Kl i64 (zf a' a') v13 (Hu ((o4,o4_1),o4_2,o4_3) b') o0)) .fail) .fail) .fail) .fail:=by kernel_rfl
def L7(v1:List (Int×List UInt8))(v8n:Nat)(v29:List (Int×List UInt8))(v30 v31:Int)(o1:List Int)(o0:List (Int×(Int×List Int)×Int×List Int)):Tr:=re ((stepT J5 (L6 [] 0 [] 0 0 [] 0 0 0 [] [] [])).R) (AD 103 [(1,.dat (zu (zf i64 zr)) v1),(7,PV.mp 0),(8,.sl 1 1 0 v8n none),(29,.dat (zu (zf i64 zr)) v29),(30,.dat i64 v30),(31,.dat i64 v31)] [(1,.arr false 3 i64 o1),(0,Obj.map i64 (zf (zf i64 (zq (z8 zj))) (zf i64 (zq (z8 zj)))) o0)] 2)
theorem FQ(v1:List (Int×List UInt8))(v8n:Nat)(v29:List (Int×List UInt8))(v30 v31:Int)(v35:List (Int×List UInt8))(v36 v37 o2:Int)(o2_1:List UInt8)(o1:List Int)(o0:List (Int×(Int×List Int)×Int×List Int)):stepT J5 (L6 v1 v8n v29 v30 v31 v35 v36 v37 o2 o2_1 o1 o0)=let b':=getD v35 (toNat v37) (0,[]);let e':=zf i64 (zq (z8 zj));let d':=zh .i64 (o2+fst b');let a':=DP i64 (zf e' e') d' o0;let c':=qx a' ((0,[]),0,[]);.ite (decide (v37<v36)) (.ite (decide (0<=v37)&&decide (v37<(length v35:Int))) (.ite (!Option.isSome a') (.ite true (.ite (decide (1<=1)&&true&&decide (v8n=length o1)&&decide ((2*(v8n+1)+1000)*8<=281474976710656)) (L4 v1 (Nat.add v8n 1) d' v29 v30 v31 v35 v36 v37 0 (BA 0) 1 (BA 1) (fst b') (snd b') o2 o2_1 (o1++[zh .i64 (o2+fst b')]) o0) .fail) .fail) (L4 v1 v8n d' v29 v30 v31 v35 v36 v37 (fst (fst c')) (snd (fst c')) (fst (snd c')) (snd (snd c')) (fst b') (snd b') o2 o2_1 o1 o0)) .fail) (L7 v1 v8n v29 v30 (zh .i64 (v31+1)) o1 o0):=by kernel_rfl
def L8(v77n:Nat)(v78 v79:Int)(o1:List Int)(o0:List (Int×(Int×List Int)×Int×List Int)):Tr:=re ((stepT J5 (L7 [] 0 [] 0 0 [] [])).R.R.L) (AD 103 [(7,PV.mp 0),(16,.nil),(77,.sl 1 1 0 v77n none),(78,.dat i64 v78),(79,.dat i64 v79)] [(1,.arr false 3 i64 o1),(0,Obj.map i64 (zf (zf i64 (zq (z8 zj))) (zf i64 (zq (z8 zj)))) o0)] 2)
theorem ET(v1:List (Int×List UInt8))(v8n:Nat)(v29:List (Int×List UInt8))(v30 v31:Int)(o1:List Int)(o0:List (Int×(Int×List Int)×Int×List Int)):stepT J5 (L7 v1 v8n v29 v30 v31 o1 o0)=let a':=zf i64 (zq (z8 zj));let b':=getD v29 (toNat v31) (0,[]);.ite (decide (v31<v30)) (.ite (decide (0<=v31)&&decide (v31<(length v29:Int))) (L6 v1 v8n v29 v30 v31 v1 ((length v1:Int)) 0 (fst b') (snd b') o1 o0) .fail) (.ite (decide ((↑v8n:Int)>64)) (.leaf (.tup [.nil,.dat i64 (5:Int)]) ([(1,.arr false 3 i64 o1),(0,Obj.map i64 (zf a' a') o0)])) (.ite (decide (length o1≠0)&&decide (length o1<=1000000)&&decide (v8n=length o1)&&true) (L8 v8n ((↑v8n:Int)) 0 (jd o1) o0) .fail)):=by kernel_rfl
def L9(v16n v77n:Nat)(v78 v79:Int)(o2:List Int)(o1:List (Int×List UInt8))(o0:List (Int×(Int×List Int)×Int×List Int)):Tr:=re ((stepT J5 (L8 0 0 0 [] [])).L.L.L.L.R.L.R.L.L) (AD 103 [(7,PV.mp 0),(16,.sl 1 2 0 v16n none),(77,.sl 2 1 0 v77n none),(78,.dat i64 v78),(79,.dat i64 v79)] [(2,.arr false 3 i64 o2),(1,.arr false 95 (zf i64 zr) o1),(0,Obj.map i64 (zf (zf i64 (zq (z8 zj))) (zf i64 (zq (z8 zj)))) o0)] 3)
theorem HO(v77n:Nat)(v78 v79:Int)(o1:List Int)(o0:List (Int×(Int×List Int)×Int×List Int)):stepT J5 (L8 v77n v78 v79 o1 o0)=let d':=zf i64 (zq (z8 zj));let a':=zf d' d';let b':=qx (DP i64 a' (getD o1 (toNat v79) 0) o0) ((0,[]),0,[]);let c':=[(1,.arr false 3 i64 o1),(0,Obj.map i64 a' o0)];let e':Tr:=.leaf (.tup [.nil,.dat i64 (4:Int)]) c';.ite (decide (v79<v78)) (.ite (decide (0<=v79)&&decide (v79<(↑v77n:Int))) (.ite (decide (toNat v79<length o1)) (.ite true (.ite (!yt (getD o1 (toNat v79) 0)) e' (.ite (Sp.DB b') (.ite (DO b') e' (.ite (Sp.DB b') (.ite (decide (1<=1)&&decide (0<1)&&decide ((2*1+1000)*24<=281474976710656)) (L9 1 v77n v78 (zh .i64 (v79+1)) o1 ([(getD o1 (toNat v79) 0,Ft b')]) o0) .fail) .fail)) .fail)) .fail) .fail) .fail) (.leaf (.tup [.nil,.dat i64 (0:Int)]) c'):=by kernel_rfl
theorem Yw(v16n v77n:Nat)(v78 v79:Int)(o2:List Int)(o1:List (Int×List UInt8))(o0:List (Int×(Int×List Int)×Int×List Int)):stepT J5 (L9 v16n v77n v78 v79 o2 o1 o0)=let d':=zf i64 (zq (z8 zj));let a':=zf d' d';let b':=qx (DP i64 a' (getD o2 (toNat v79) 0) o0) ((0,[]),0,[]);let c':=[(2,.arr false 3 i64 o2),(1,.arr false 95 (zf i64 zr) o1),(0,Obj.map i64 a' o0)];let e':Tr:=.leaf (.tup [.nil,.dat i64 (4:Int)]) c';.ite (decide (v79<v78)) (.ite (decide (0<=v79)&&decide (v79<(↑v77n:Int))) (.ite (decide (toNat v79<length o2)) (.ite true (.ite (!yt (getD o2 (toNat v79) 0)) e' (.ite (Sp.DB b') (.ite (DO b') e' (.ite (Sp.DB b') (.ite (decide (1<=1)&&true&&decide (v16n=length o1)&&decide ((2*(v16n+1)+1000)*24<=281474976710656)) (L9 (Nat.add v16n 1) v77n v78 (zh .i64 (v79+1)) o2 (o1++[(getD o2 (toNat v79) 0,Ft b')]) o0) .fail) .fail)) .fail)) .fail) .fail) .fail) (.leaf (.tup [.sl 1 2 0 v16n none,.dat i64 (0:Int)]) c'):=by kernel_rfl
end T60
end
end Go.Pe
namespace Go.Sp
theorem UE{v:Int}{q:Rat}:∀ {W:WT},CB v W=some q->(v,q)∈W
 |[],h=>by cases h
 |c::l,h=>by
  rw[CB]at h;split at h
  ·next e=>
   have:c=(v,q):=Prod.ext e (Option.some.inj h);rw[this];exact zc ..
  ·exact ze _ (UE h)
theorem Qp{c:Int×Rat}:∀ {W:WT},XR W->c∈W->CB c.1 W=some c.2
 |[],_,h=>by cases h
 |d::l,hu,h=>by
  obtain⟨h1,h2⟩:=zo.1 hu;rw[CB];rcases zk.1 h with rfl|h
  ·rw[wd rfl]
  ·have:=h1 c h;rw[wc (by omega),Qp h2 h]
theorem qT{v:Int}{q:Rat}:∀W:WT,BU v q W≠[]
 |[]=>by rw[BU];exact qg _ _
 |c::l=>by
  rw[BU];split
  ·exact qg _ _
  ·split<;>exact qg _ _
theorem Ws(x:BB):∀(b:List BB) (w:WT),(b≠[]\/w≠[])->LV x b w≠[]
 |[],w,h=>by
  rw[LV];rcases h with h|h
  ·exact wh rfl h
  ·exact h
 |y::b,w,_=>by
  rw[Og];exact Ws x b _ (.inr (qT _))
theorem bW:∀(a b:List BB) (w:WT),w≠[]->LK a b w≠[]
 |[],b,w,h=>by rw[LK];exact h
 |x::a,b,w,h=>by
  rw[all_cons];exact bW a b _ (Ws x b w (.inr h))
theorem oI(x y:BB)(a b:List BB):CA (x::a) (y::b)≠[]:=by
 unfold CA;rw[all_cons];exact bW a _ _ (Ws x _ _ (.inl (qg _ _)))
end Go.Sp
namespace Go.Pe
open Sp
open Go.Det
abbrev MU:=List (Int×AS)
abbrev fV(v:Int)(m:MU):Option AS:=DP (.int .i64) BV v m
abbrev dO(v:Int)(f:AS)(m:MU):MU:=Kl (.int .i64) BV v f m
structure Jq(N:Nat)(m:MU)(vals:List Int)(W:Sp.WT):Prop where
 st:uI N W
 up:XR W
 perm:vals.Perm (W.map yk)
 none':∀v,CB v W=none->fV v m=none
 some':∀v q,CB v W=some q->∃f,fV v m=some f/\E3 f q
theorem Jq.nil:Jq 0 [] [] []:=⟨uI.nil,List.Pairwise.nil,.refl _,fun _ _=>rfl,fun _ _ h=>(by cases h)⟩
theorem Jq.step{N:Nat}{m:MU}{vals vals':List Int}{W:Sp.WT}(h:Jq N m vals W){v:Int}{f g:AS}{p:Rat}(hf:E3 f ((CB v W).getD 0))(hz:Dq 1950 ((CB v W).getD 0))(hg:E3 g p)(zp:Dq 18 p)(hv:vals'.Perm ((BU v p W).map yk)):Jq (N+1) (dO v (Hu f g) m) vals' (BU v p W) where
 st:=h.st.step zp
 up:=SF h.up
 perm:=hv
 none':=fun u hu=>by
  rw[Lt h.up]at hu;split at hu
  ·cases hu
  ·next e=>
   have:=Gy (v:=BV) (q:=.i64) u v (Hu f g) m;rw[wc e]at this;exact this.trans (h.none' u hu)
 some':=fun u q hu=>by
  rw[Lt h.up]at hu;have:=Gy (v:=BV) (q:=.i64) u v (Hu f g) m;split at hu
  ·next e=>
   rw[wd e]at this;refine⟨_,this,?_⟩;rw[<-Option.some.inj hu];exact E3.add hf hg (Cd hz (by decide)) (Cd zp (by decide))
  ·next e=>
   rw[wc e]at this;obtain⟨f',h1,h2⟩:=h.some' u q hu;exact⟨f',this.trans h1,h2⟩
theorem Tv{vals:List Int}{W:Sp.WT}(hu:XR W)(hp:vals.Perm (W.map yk)):jd vals=W.map yk:=by
 have h1:(jd vals).Pairwise (fun x y=>decide (x<=y)=true):=List.pairwise_mergeSort (fun a b c h1 h2=>by
  have h1:=w6 h1;have h2:=w6 h2;exact w4 (by omega)) (fun a b=>by
  rw[yh,w5,w5];omega) vals
 have h2:(W.map yk).Pairwise (fun x y=>decide (x<=y)=true):=by
  rw[List.pairwise_map];exact List.Pairwise.imp (fun {a b} h=>w4 (by omega)) hu
 exact List.Perm.eq_of_pairwise (fun a b _ _ h1 h2=>by
  have h1:=w6 h1;have h2:=w6 h2;omega) h1 h2 ((List.mergeSort_perm ..).trans hp)
theorem oV:D3 J5:=Aa T130.ok (Aa T63.ok (Aa T83.ok (Aa T111.ok (Aa T87.ok (Aa T82.ok (Aa T80.ok (Aa T131.ok (Aa T132.ok AO))))))))
theorem vJ:∀g w,J5.ws g=some w->E6 Bh g w:=Xo (l:=[(129,X6)]) fun x hx=>by
 cases yq.1 hx;exact Vi (by kernel_rfl) (Bl (by kernel_rfl)) rfl
namespace T60
variable {Q:PV->Ob->Prop}
theorem elem{N:Nat}{m:MU}{vals:List Int}{W:Sp.WT}(h:Jq N m vals W)(hN:N<=100){c:Int×Rat}(hc:c∈W):∃f,fV c.1 m=some f/\E3 f c.2/\Sp.DB f=true/\DO f=Me c.2/\Ft f=Az c.2:=by
 obtain⟨f,h1,h2⟩:=h.some' c.1 c.2 (Qp h.up hc);exact⟨f,h1,h2,h2.DB (Cd (h.st.sz c hc) (by omega)),Qs h2,Tc h2⟩
theorem last(N:Nat)(m:MU)(vals:List Int)(W:Sp.WT)(hm:Jq N m vals W)(hN:N<=100)(h64:W.length<=64)(hb:∀ob,W.any Fa=true->Q (.tup [.nil,.dat i64 4]) ob)(hq:∀n ob,W.any Fa=false->n=(Ej W).length->AL ob 1=some (.arr false 95 K1 (Ej W))->Q (.tup [.sl 1 2 0 n none,.dat i64 0]) ob):∀(r:Sp.WT) (i:Nat),W.drop i=r->i<=W.length->W.any Fa=r.any Fa->Ends J5 (L9 i W.length (W.length:Int) (i:Int) (W.map yk) (Ej (W.take i)) m) Q
 |[],i,h,hi,he=>by
  have:=drop_nil h hi;have e:i=W.length:=by omega
  subst e;rw[List.take_length];exact yj (Yw ..) (yv (w8 (by omega)) (zl (hq _ _ he (by unfold Ej;rw[zt]) rfl)))
 |c::r,i,h,hi,he=>by
  have hcm:c∈W:=qi (by rw[h];exact zc ..);obtain⟨g1,_,g3⟩:=drop_cons (d:=((0:Int),(0:Rat))) h;have hd:(W.map yk).drop i=c.1::r.map yk:=by rw[<-qo,h];rfl
  obtain⟨_,g2,_⟩:=drop_cons (d:=(0:Int)) hd;have hl:(W.map yk).length=W.length:=zt ..;have e1:zh .i64 ((i:Int)+1)=((i+1:Nat):Int):=by rw[wr _ (by omega) (by omega)];omega
  obtain⟨f,f1,f2,f3,f4,f5⟩:=elem hm hN hcm;have hto:(Ej (W.take i)).length=i:=by unfold Ej;rw[zt,List.length_take];omega
  have hnext:Ej (W.take i)++[(c.1,Az c.2)]=Ej (W.take (i+1)):=by
   unfold Ej;rw[List.take_add_one,List.map_append];congr 1;have hc:W[i]?=some c:=by
    have:=wi List.head? h;rw[List.head?_drop]at this;exact this
   rw[hc];rfl
  rw[List.any_cons]at he;refine yj (Yw ..) ?_;conv=>zeta
  rw[e1,yf,g2];refine zd (w4 (by omega)) (zd (Ac (w4 (by omega)) (w4 (by omega))) (zd (w4 (by rw[hl];exact g1)) (zd rfl (z7 (fun k=>zl (hb _ ?_)) (fun k=>?_)))))
  ·have k:yt c.1=false:=by simpa using k
   rw[he];have:Fa c=true:=by
    unfold Fa;unfold yt at k;rw[yh,yh,w5,w5];rw[qe,w9,w9]at k;omega
   rw[this,qk]
  have k:yt c.1=true:=by simpa using k
  have f1:DP (.int .i64) BV c.1 m=some f:=f1;rw[f1];refine zd f3 (z7 (fun k2=>zl (hb _ ?_)) (fun k2=>?_))
  ·have k2:DO f=true:=k2;rw[f4]at k2;rw[he];unfold Fa;rw[k2,jh,qk]
  ·have k2:DO f=false:=by simpa using k2
   rw[f4]at k2;have hf:Fa c=false:=by
    have:=EL k;unfold Fa;rw[w8 (by omega),w8 (by omega),k2];rfl
   rw[hf,Bool.false_or]at he;refine zd f3 (zd ?_ ?_)
   ·exact Ac (Ac (Ac (w4 (yy 1)) rfl) (w4 hto.symm)) (w4 (by omega))
   ·show Ends J5 (L9 (i+1) W.length (W.length:Int) ((i+1:Nat):Int) (W.map yk) (Ej (W.take i)++[(c.1,Ft f)]) m) Q;rw[f5,hnext];exact last N m vals W hm hN h64 hb hq r (i+1) g3 g1 he
theorem start(N:Nat)(m:MU)(vals:List Int)(W:Sp.WT)(hm:Jq N m vals W)(hN:N<=100)(h64:W.length<=64)(hne:W≠[])(hb:∀ob,W.any Fa=true->Q (.tup [.nil,.dat i64 4]) ob)(hq:∀n ob,W.any Fa=false->n=(Ej W).length->AL ob 1=some (.arr false 95 K1 (Ej W))->Q (.tup [.sl 1 2 0 n none,.dat i64 0]) ob):Ends J5 (L8 W.length (W.length:Int) 0 (W.map yk) m) Q:=by
 obtain⟨c,r,rfl⟩:∃c r,W=c::r:=by
  cases W with
  |nil=>exact wh rfl hne
  |cons c r=>exact⟨c,r,rfl⟩
 obtain⟨f,f1,f2,f3,f4,f5⟩:=elem hm hN (zc ..);have z0:Int.toNat 0=0:=rfl;have g2:((c::r).map yk).getD 0 (0:Int)=c.1:=rfl;have w1:zh .i64 ((0:Int)+1)=((1:Nat):Int):=rfl;have he:(c::r).any Fa=(Fa c||r.any Fa):=List.any_cons ..;refine yj (HO ..) ?_;conv=>zeta
 rw[z0,g2,w1];refine zd (w4 (by rw[zg];omega)) (zd (Ac (w4 (by omega)) (w4 (by rw[zg];omega))) (zd (w4 (by rw[zt,zg];omega)) (zd rfl (z7 (fun k=>zl (hb _ ?_)) (fun k=>?_)))))
 ·have k:yt c.1=false:=by simpa using k
  rw[he];have:Fa c=true:=by
   unfold Fa;unfold yt at k;rw[yh,yh,w5,w5];rw[qe,w9,w9]at k;omega
  rw[this,qk]
 have k:yt c.1=true:=by simpa using k
 have f1:DP (.int .i64) BV c.1 m=some f:=f1;rw[f1];refine zd f3 (z7 (fun k2=>zl (hb _ ?_)) (fun k2=>?_))
 ·have k2:DO f=true:=k2;rw[f4]at k2;rw[he];unfold Fa;rw[k2,jh,qk]
 ·have k2:DO f=false:=by simpa using k2
  rw[f4]at k2;have hf:Fa c=false:=by
   have:=EL k;unfold Fa;rw[w8 (by omega),w8 (by omega),k2];rfl
  refine zd f3 (zd rfl ?_);have go:=last (Q:=Q) N m vals (c::r) hm hN h64 hb hq r 1 rfl (by rw[zg];omega) (by rw[he,hf,Bool.false_or]);have e2:Ej ((c::r).take 1)=[(c.1,Ft f)]:=by rw[f5];rfl
  rw[e2]at go;exact go
theorem bQ(a b:List BB)(i k n:Nat)(x y:BB)(fx:yt x.1=true/\AF x.2=0/\Sp.KJ x.2<=9)(fy:yt y.1=true/\AF y.2=0/\Sp.KJ y.2<=9)(hk:k<b.length)(hlb:b.length<=10)(v:Int)(f:AS)(q:Rat)(hf:E3 f q)(hz:Dq 1950 q)(vals:List Int)(m:MU)(h:Ends J5 (L6 b n a (a.length:Int) (i:Int) b (b.length:Int) ((k+1:Nat):Int) x.1 x.2 vals (dO v (Hu f (OX (JJ x.2) (JJ y.2))) m)) Q):Ends J5 (L4 b n v a (a.length:Int) (i:Int) b (b.length:Int) (k:Int) f.1.1 f.1.2 f.2.1 f.2.2 y.1 y.2 x.1 x.2 vals m) Q:=by
 obtain⟨rx,zx,_,_,bx⟩:=D7 fx.2.1;obtain⟨ry,zy,_,_,by'⟩:=D7 fy.2.1;have zx:=zx.mono fx.2.2;have zy:=zy.mono fy.2.2;have sx:=Cd zx (by decide);have sy:=Cd zy (by decide);have rm:=E3.mul rx ry sx sy;have sm:=Cd (zx.mul zy) (by decide);have e1:zh .i64 ((k:Int)+1)=((k+1:Nat):Int):=by rw[wr _ (by omega) (by omega)];omega
 refine yj (CJ ..) ?_;conv=>zeta
 rw[e1];exact zd bx (zd by' (zd (Ac (rx.FO sx) (ry.FO sy)) (zd (Ac (hf.FO (Cd hz (by decide))) (rm.FO sm)) h)))
theorem Ua{x y:BB}(fx:yt x.1=true/\AF x.2=0/\Sp.KJ x.2<=9)(fy:yt y.1=true/\AF y.2=0/\Sp.KJ y.2<=9):E3 (OX (JJ x.2) (JJ y.2)) (AQ x.2*AQ y.2)/\Dq 18 (AQ x.2*AQ y.2):=by
 obtain⟨rx,zx,_⟩:=D7 fx.2.1;obtain⟨ry,zy,_⟩:=D7 fy.2.1;have zx:=zx.mono fx.2.2;have zy:=zy.mono fy.2.2;exact⟨E3.mul rx ry (Cd zx (by decide)) (Cd zy (by decide)),zx.mul zy⟩
theorem inner(a b:List BB)(ha:kE a)(hb:kE b)(hla:a.length<=10)(hlb:b.length<=10)(i:Nat)(x:BB)(hi:i<a.length)(hxm:x∈a):∀(r:List BB) (k N n:Nat) (vals:List Int) (m:MU) (W:Sp.WT),b.drop k=r->k<=b.length->Jq N m vals W->n=vals.length->N+r.length<=100->(∀n' vals' m' W',W'=LV x r W->Jq (N+r.length) m' vals' W'->n'=vals'.length->Ends J5 (L7 b n' a (a.length:Int) ((i+1:Nat):Int) vals' m') Q)->Ends J5 (L6 b n a (a.length:Int) (i:Int) b (b.length:Int) (k:Int) x.1 x.2 vals m) Q
 |[],k,N,n,vals,m,W,h,hk,hm,hn,hN,hq=>by
  have:=drop_nil h hk;have e1:zh .i64 ((i:Int)+1)=((i+1:Nat):Int):=by rw[wr _ (by omega) (by omega)];omega
  refine yj (FQ ..) (yv (w8 (by omega)) ?_);rw[e1];exact hq n vals m W rfl hm hn
 |y::r,k,N,n,vals,m,W,h,hk,hm,hn,hN,hq=>by
  obtain⟨g1,g2,g3⟩:=drop_cons (d:=(((0:Int),[]):BB)) h;have hym:y∈b:=qi (by rw[h];exact zc ..);have fx:=ha x hxm;have fy:=hb y hym;obtain⟨rp,zp⟩:=Ua fx fy;have bx:=EL fx.1;have by':=EL fy.1
  have e2:zh .i64 (x.1+y.1)=x.1+y.1:=wr _ (by omega) (by omega);rw[zg]at hN hq;have hlen:vals.length<=N:=by
   have:=hm.perm.length_eq;rw[zt]at this;have:=hm.st.ln;omega
  have next:∀(n':Nat) (vals':List Int) (m':MU),Jq (N+1) m' vals' (BU (x.1+y.1) (AQ x.2*AQ y.2) W)->n'=vals'.length->Ends J5 (L6 b n' a (a.length:Int) (i:Int) b (b.length:Int) ((k+1:Nat):Int) x.1 x.2 vals' m') Q:=by
   intro n' vals' m' hm' hn';refine inner a b ha hb hla hlb i x hi hxm r (k+1) (N+1) n' vals' m' _ g3 g1 hm' hn' (by omega) fun n2 v2 m2 W2 hw hm2 hn2=>hq n2 v2 m2 W2 (by rw[hw,Og]) ?_ hn2
   have:N+1+r.length=N+(r.length+1):=by omega
   rw[<-this];exact hm2
  refine yj (FQ ..) ?_;conv=>zeta
  rw[yf,g2,e2];refine zd (w4 (by omega)) (zd (Ac (w4 (by omega)) (w4 (by omega))) ?_);cases hlk:CB (x.1+y.1) W with
  |none=>
   have f1:DP (.int .i64) BV (x.1+y.1) m=none:=hm.none' _ hlk;rw[f1];refine zd rfl (zd rfl (zd ?_ ?_))
   ·exact Ac (Ac (Ac (w4 (yy 1)) rfl) (w4 hn)) (w4 (by omega))
   ·have hz:Dq 1950 0:=I8.mono (by decide);refine bQ a b i k (Nat.add n 1) x y fx fy g1 hlb (x.1+y.1) ((0,BA 0),(1,BA 1)) 0 Fm hz (vals++[x.1+y.1]) m (next _ _ _ ?_ ?_)
    ·refine hm.step (by rw[hlk];exact Fm) (by rw[hlk];exact hz) rp zp ?_;exact(List.perm_append_singleton ..).trans ((hm.perm.cons _).trans (Qj hlk).symm)
    ·rw[List.length_append, <-hn];rfl
  |some q=>
   obtain⟨f,f1,f2⟩:=hm.some' _ q hlk;have f1:DP (.int .i64) BV (x.1+y.1) m=some f:=f1;rw[f1];have hz:Dq 1950 q:=(hm.st.sz _ (UE hlk)).mono (by omega);refine yv rfl (bQ a b i k n x y fx fy g1 hlb (x.1+y.1) f q f2 hz vals m (next _ _ _ ?_ hn));refine hm.step (by rw[hlk];exact f2) (by rw[hlk];exact hz) rp zp ?_;rw[QY hm.up (by rw[hlk];rfl)];exact hm.perm
theorem outer(a b:List BB)(ha:kE a)(hb:kE b)(hla:a.length<=10)(hlb:b.length<=10)(hq:∀N n vals m W,W=CA a b->Jq N m vals W->n=vals.length->N<=100->Ends J5 (L7 b n a (a.length:Int) (a.length:Int) vals m) Q):∀(r:List BB) (i N n:Nat) (vals:List Int) (m:MU) (W:Sp.WT),a.drop i=r->i<=a.length->Jq N m vals W->n=vals.length->N+r.length*b.length<=100->CA a b=LK r b W->Ends J5 (L7 b n a (a.length:Int) (i:Int) vals m) Q
 |[],i,N,n,vals,m,W,h,hi,hm,hn,hN,he=>by
  have:=drop_nil h hi;have e:i=a.length:=by omega
  rw[LK]at he;rw[e];exact hq N n vals m W he.symm hm hn (by omega)
 |x::r,i,N,n,vals,m,W,h,hi,hm,hn,hN,he=>by
  obtain⟨g1,g2,g3⟩:=drop_cons (d:=(((0:Int),[]):BB)) h;have hxm:x∈a:=qi (by rw[h];exact zc ..);rw[zg,Nat.add_mul,Nat.one_mul]at hN;rw[Sp.all_cons]at he;refine yj (ET ..) ?_;conv=>zeta
  rw[yf,g2];have go:=inner (Q:=Q) a b ha hb hla hlb i x g1 hxm b 0 N n vals m W rfl (yw _) hm hn (by omega) fun n' v' m' W' hw hm' hn'=>outer a b ha hb hla hlb hq r (i+1) (N+b.length) n' v' m' W' g3 g1 hm' hn' (by omega) (by rw[he,hw])
  exact zd (w4 (by omega)) (zd (Ac (w4 (by omega)) (w4 (by omega))) go)
end T60
theorem T60.ok:Ag Bh 60 Vd:=by
 refine Lb (X:=J5) rfl oV (d:=9) (by kernel_rfl) (by kernel_rfl) (by kernel_rfl) (fun(i:List BB×List BB) hl=>?_) (Bl (by kernel_rfl)) vJ;obtain⟨a,b⟩:=i;have hl:(Cs a 10 9&&Cs b 10 9)=true:=hl;rw[zi]at hl;have hqb:∀e ob,e≠0->EJ a b=e->Ad Vd (a,b) (.tup [.nil,.dat i64 e]) ob:=fun e ob h0 h=>jc rfl rfl (by
  show(([]:List BB),e)=(IG a b,EJ a b);unfold IG;rw[h,wd h0])
 refine q9 (T60.Am a b) (zd (Lv hl.1) (zd (Lv hl.2) (zd rfl ?_)));rw[Jl];have ed:EJ a b=if AJ a≠0 then AJ a else if AJ b≠0 then AJ b else Dd a b:=rfl
 by_cases ka:AJ a≠0
 ·rw[wd ka]at ed ⊢;exact zd (by simpa using ka) (zl (hqb _ _ ka ed))
 rw[wc ka]at ed ⊢;have ka:AJ a=0:=by simpa using ka
 by_cases kb:AJ b≠0
 ·rw[wd kb]at ed;exact zd (by simpa using kb) (zl (hqb _ _ kb ed))
 rw[wc kb]at ed;have kb:AJ b=0:=by simpa using kb
 rw[kb];refine yv rfl ?_;obtain⟨fa,na,la⟩:=Yp hl.1 ka;obtain⟨fb,nb,lb⟩:=Yp hl.2 kb;have fin:∀N n vals m W,W=CA a b->W≠[]->Jq N m vals W->n=vals.length->N<=100->Ends J5 (T60.L7 b n a (a.length:Int) (a.length:Int) vals m) (Ad Vd (a,b)):=by
  intro N n vals m W hw hne hm hn hN;have hlen:vals.length=W.length:=by
   have:=hm.perm.length_eq;rwa [zt]at this
  have hW:=hm.st.ln;refine yj (T60.ET ..) (yv (w8 (by omega)) (z7 (fun k=>zl (hqb 5 _ (by decide) ?_)) (fun k=>zd ?_ ?_)))
  ·have k:=w6 k;rw[ed];unfold Dd Sa;rw[<-hw,wd (by omega)]
  ·have:vals.length≠0:=fun x=>hne (qt.1 (by omega))
   exact Ac (Ac (Ac (w4 this) (w4 (by omega))) (w4 hn)) rfl
  ·have k:=w7 k;have k:W.length<=64:=by omega
   have ee:=oC W k;have e0:Dd a b=if W.any Fa then 4 else 0:=by unfold Dd;rw[<-hw,ee]
   rw[Tv hm.up hm.perm,hn,hlen];refine T60.start N m vals W hm hN k hne (fun ob h=>hqb 4 _ (by decide) (by rw[ed,e0,wd h])) (fun n ob h hn ho=>jc (eI rfl ho hn) rfl ?_);show(Ej W,(0:Int))=(IG a b,EJ a b);unfold IG;rw[ed,e0,h,hw];rfl
 obtain⟨x,ra,rfl⟩:∃x r,a=x::r:=by
  cases a with
  |nil=>exact wh rfl na
  |cons x r=>exact⟨x,r,rfl⟩
 obtain⟨y,rb,rfl⟩:∃y r,b=y::r:=by
  cases b with
  |nil=>exact wh rfl nb
  |cons y r=>exact⟨y,r,rfl⟩
 have hne:CA (x::ra) (y::rb)≠[]:=oI x y ra rb;have fx:=fa x (zc ..);have fy:=fb y (zc ..);obtain⟨rp,zp⟩:=T60.Ua fx fy;have bx:=EL fx.1;have by':=EL fy.1
 have e2:zh .i64 (x.1+y.1)=x.1+y.1:=wr _ (by omega) (by omega);have z0:Int.toNat 0=0:=rfl;have gx:(x::ra).getD 0 (((0:Int),[]):BB)=x:=rfl;have gy:(y::rb).getD 0 (((0:Int),[]):BB)=y:=rfl;have bda:(decide ((0:Int)<=(0:Int))&&decide ((0:Int)<((x::ra).length:Int)))=true:=Ac (w4 (by omega)) (w4 (by rw[zg];omega));have bdb:(decide ((0:Int)<=(0:Int))&&decide ((0:Int)<((y::rb).length:Int)))=true:=Ac (w4 (by omega)) (w4 (by rw[zg];omega));refine yj (T60.Ap ..) ?_;conv=>zeta
 try conv=>zeta
 rw[z0,gx];refine zd (w4 (by rw[zg];omega)) (zd bda (yj (T60.AY ..) ?_));try conv=>zeta
 rw[z0,gy,e2];refine zd (w4 (by rw[zg];omega)) (zd bdb (zd rfl (zd rfl (zd rfl ?_))));have hm:(ra.length+1)*(rb.length+1)<=100:=by
  have h1:ra.length+1<=10:=la;have h2:rb.length+1<=10:=lb;exact Nat.le_trans (Nat.mul_le_mul h1 h2) (by decide)
 rw[Nat.add_mul,Nat.one_mul]at hm;have hz:Dq 1950 0:=I8.mono (by decide);have st:Jq (0+1) (dO (x.1+y.1) (Hu ((0,BA 0),(1,BA 1)) (OX (JJ x.2) (JJ y.2))) []) [x.1+y.1] (BU (x.1+y.1) (AQ x.2*AQ y.2) []):=Jq.nil.step Fm hz rp zp (.refl _);have go:=T60.inner (Q:=Ad Vd (x::ra,y::rb)) (x::ra) (y::rb) fa fb la lb 0 x (by rw[zg];omega) (zc ..) rb 1 (0+1) 1 [x.1+y.1] _ _ rfl (by rw[zg];omega) st rfl (by omega) fun n' v' m' W' hw hm' hn'=>T60.outer (x::ra) (y::rb) fa fb la lb (fun N n vals m W hW=>fin N n vals m W hW (by rw[hW];exact hne)) ra 1 (0+1+rb.length) n' v' m' W' rfl (by rw[zg];omega) hm' hn' (by rw[zg];omega) (by unfold CA;rw[Sp.all_cons,hw,Og])
 exact T60.bQ (x::ra) (y::rb) 0 0 1 x y fx fy (by rw[zg];omega) lb (x.1+y.1) ((0,BA 0),(1,BA 1)) 0 Fm hz [x.1+y.1] [] go
end Go.Pe
namespace Go.Sp
theorem Gk:∀ {l:List BB},VJ l->Dq (Fe l+9*l.length+1) (Dc l)
 |[],_=>⟨by decide,by decide⟩
 |c::l,h=>by
  obtain⟨hn,hc⟩:=h c (zc ..);have h1:=Gk h.tail;have h2:=(eP hn).mul (Su hc).z;rw[Dc,Pa hc,zg];exact(h2.add h1).mono (by omega)
def Jy(l:List BB)(n d:Int):Bool:=decide ((l.length:Int)<=n)&&Cs l n d&&decide (AJ l=0)
end Go.Sp
namespace Go.Pe
open Go.Det
def Wd:Ao:=⟨[.list K1,i64,i64],fun i=>decide ((i.2.1:Int)=8)&&decide ((i.2.2:Int)=6),[.bool],fun i=>Sp.Jy i.1 i.2.1 i.2.2,false⟩
def QN:Ao:=⟨[.list K1,.list K1,i64],fun i=>Sp.CD i.2.2,[.bool],fun _=>true,false⟩
def zH:A0:=X7 [(58,NF),(62,Rg)]
def S0:A0:=ZD [(15,[9,12,14])] [] [] [(73,Wd),(17,VY),(59,rU),(60,Vd),(24,EE),(27,Q3),(67,WC),(62,Rg),(61,rJ),(30,sB)]
end Go.Pe
namespace Go.Sp
variable {v:Int}{q:Rat}
def BG(g:Int->Rat):WT->Rat
 |[]=>0
 |c::l=>g c.1*c.2+BG g l
def ch(l:List BB):WT:=l.map fun c=>(c.1,AQ c.2)
def Dz:Int->Rat:=fun _=>1
def Y0:Int->Rat:=fun v=>(v:Rat)
def eT(n:Int):Int->Rat:=fun v=>if v<=n then 1 else 0
def wW(n:Int):Int->Rat:=fun v=>if v=n then 1 else 0
theorem sum_cons(g:Int->Rat)(c:Int×Rat)(l:WT):BG g (c::l)=g c.1*c.2+BG g l:=rfl
theorem TW(g:Int->Rat):∀W:WT,BG g (BU v q W)=BG g W+g v*q
 |[]=>by
  show g v*q+0=0+g v*q;rw[ye,yg]
 |c::l=>by
  rw[BU];split
  ·rw[sum_cons,sum_cons,TW g l,yd]
  ·split
   ·next e=>
    rw[sum_cons,sum_cons,e,qy,yd,yd,ji (g v*q)]
   ·rw[sum_cons,ji]
def Lg(g:Int->Rat)(x:Int×Rat):WT->Rat
 |[]=>0
 |y::b=>g (x.1+y.1)*(x.2*y.2)+Lg g x b
def GD(g:Int->Rat):WT->WT->Rat
 |[],_=>0
 |x::a,b=>Lg g x b+GD g a b
theorem WX(g:Int->Rat)(x:BB):∀(b:List BB) (W:WT),BG g (LV x b W)=BG g W+Lg g (x.1,AQ x.2) (ch b)
 |[],W=>(ye _).symm
 |y::b,W=>by
  rw[LV,WX g x b,TW,yd];rfl
theorem U8(g:Int->Rat):∀(a b:List BB) (W:WT),BG g (LK a b W)=BG g W+GD g (ch a) (ch b)
 |[],b,W=>(ye _).symm
 |x::a,b,W=>by
  rw[LK,U8 g a b,WX,yd];rfl
theorem KK(g:Int->Rat)(a b:List BB):BG g (CA a b)=GD g (ch a) (ch b):=by
 unfold CA;rw[U8];show 0+_=_;rw[yg]
theorem TC(g:Int->Rat):∀a:WT,GD g a []=0
 |[]=>rfl
 |x::a=>by
  show(0:Rat)+GD g a []=0;rw[TC g a,yg]
theorem Lf(a b c d:Rat):a+b+(c+d)=a+c+(b+d):=by
 rw[yd,yd,Rat.add_left_comm b c d]
theorem Q8(g:Int->Rat)(y:Int×Rat)(b:WT):∀a:WT,GD g a (y::b)=Lg g y a+GD g a b
 |[]=>(yg _).symm
 |x::a=>by
  show g (x.1+y.1)*(x.2*y.2)+Lg g x b+GD g a (y::b)=g (y.1+x.1)*(y.2*x.2)+Lg g y a+(Lg g x b+GD g a b);rw[Q8 g y b a,Lf,Int.add_comm x.1,ql x.2]
theorem Uj(g:Int->Rat):∀a b:WT,GD g a b=GD g b a
 |[],b=>(TC g b).symm
 |x::a,b=>by
  rw[Q8 g x a b];show Lg g x b+GD g a b=_;rw[Uj g a b]
theorem row_one(x:Int×Rat):∀b:WT,Lg Dz x b=x.2*BG Dz b
 |[]=>(jj _).symm
 |y::b=>by
  show 1*(x.2*y.2)+Lg Dz x b=x.2*(1*y.2+BG Dz b);rw[row_one x b,zw,zw,qy]
theorem YD:∀a b:WT,GD Dz a b=BG Dz a*BG Dz b
 |[],b=>(y9 _).symm
 |x::a,b=>by
  show Lg Dz x b+GD Dz a b=(1*x.2+BG Dz a)*BG Dz b;rw[row_one,YD a b,qn,zw]
theorem jR(x:Int×Rat):∀b:WT,Lg Y0 x b=(x.1:Rat)*x.2*BG Dz b+x.2*BG Y0 b
 |[]=>by
  show(0:Rat)=(x.1:Rat)*x.2*0+x.2*0;rw[jj,jj,ye]
 |y::b=>by
  show((x.1+y.1:Int):Rat)*(x.2*y.2)+Lg Y0 x b=(x.1:Rat)*x.2*(1*y.2+BG Dz b)+x.2*((y.1:Rat)*y.2+BG Y0 b);rw[jR x b,zw,Rat.intCast_add,qn,qy,qy,Lf,Lf ((x.1:Rat)*x.2*y.2),ym (x.1:Rat) x.2 y.2,ql x.2 ((y.1:Rat)*y.2),ym (y.1:Rat) y.2 x.2,ql y.2 x.2];exact Lf ..
theorem jJ:∀a b:WT,GD Y0 a b=BG Y0 a*BG Dz b+BG Dz a*BG Y0 b
 |[],b=>by
  show(0:Rat)=0*BG Dz b+0*BG Y0 b;rw[y9,y9,ye]
 |x::a,b=>by
  show Lg Y0 x b+GD Y0 a b=((x.1:Rat)*x.2+BG Y0 a)*BG Dz b+(1*x.2+BG Dz a)*BG Y0 b;rw[jR,jJ a b,zw,qn,qn,Lf]
def MV(W:WT):Prop:=∀c∈W,0<c.2
theorem add_pos{p q:Rat}(hp:0<p)(hq:0<q):0<p+q:=by
 have:=(Rat.add_lt_add_left (c:=p)).2 hq;rw[ye]at this;exact Rat.not_le.1 fun k=>Rat.not_le.2 hp (qv (yn this) k)
theorem Ur(hq:0<q):∀ {W:WT},MV W->MV (BU v q W)
 |[],_,c,hc=>by
  rw[BU]at hc;rw[yq.1 hc];exact hq
 |d::l,h,c,hc=>by
  have h1:=h d (zc ..);have h2:MV l:=fun x hx=>h x (ze _ hx)
  rw[BU]at hc;split at hc
  ·rcases zk.1 hc with rfl|hc
   ·exact h1
   ·exact Ur hq h2 c hc
  ·split at hc
   ·rcases zk.1 hc with rfl|hc
    ·exact add_pos h1 hq
    ·exact h2 c hc
   ·rcases zk.1 hc with rfl|hc
    ·exact hq
    ·exact h c hc
def Dy(k:Nat)(q:Rat):Prop:=∃z:Int,q*(((2:Int)^k:Int):Rat)=(z:Rat)
theorem Dy.add{k:Nat}{p q:Rat}:Dy k p->Dy k q->Dy k (p+q)
 |⟨y,hy⟩,⟨z,hz⟩=>⟨y+z,by rw[qn,hy,hz,Rat.intCast_add]⟩
theorem Dy.mul{i j:Nat}{p q:Rat}:Dy i p->Dy j q->Dy (i+j) (p*q)
 |⟨y,hy⟩,⟨z,hz⟩=>⟨y*z,by rw[Int.pow_add,yu,yu, <-hy, <-hz,ym,ym, <-ym q,ql q,ym]⟩
theorem Dy.zero{k:Nat}:Dy k 0:=⟨0,y9 _⟩
def yQ(k:Nat)(W:WT):Prop:=∀c∈W,Dy k c.2
theorem Xm{k:Nat}(hq:Dy k q):∀ {W:WT},yQ k W->yQ k (BU v q W)
 |[],_,c,hc=>by
  rw[BU]at hc;rw[yq.1 hc];exact hq
 |d::l,h,c,hc=>by
  have h1:=h d (zc ..);have h2:yQ k l:=fun x hx=>h x (ze _ hx)
  rw[BU]at hc;split at hc
  ·rcases zk.1 hc with rfl|hc
   ·exact h1
   ·exact Xm hq h2 c hc
  ·split at hc
   ·rcases zk.1 hc with rfl|hc
    ·exact h1.add hq
    ·exact h2 c hc
   ·rcases zk.1 hc with rfl|hc
    ·exact hq
    ·exact h c hc
structure ML(W:WT):Prop where
 up:XR W
 pos:MV W
 dy:yQ 38 W
theorem ML.nil:ML []:=⟨List.Pairwise.nil,fun c hc=>(by cases hc),fun c hc=>(by cases hc)⟩
def MI(a:List BB):Prop:=∀c∈a,0<AQ c.2/\Dy 19 (AQ c.2)
theorem good_row{x:BB}(hx:0<AQ x.2/\Dy 19 (AQ x.2)):∀ {b:List BB} {W:WT},MI b->ML W->ML (LV x b W)
 |[],_,_,h=>h
 |y::b,W,hb,h=>by
  have hy:=hb y (zc ..);rw[LV];exact good_row hx (fun c hc=>hb c (ze _ hc)) ⟨SF h.up,Ur (Rat.mul_pos hx.1 hy.1) h.pos,Xm (hx.2.mul hy.2) h.dy⟩
theorem TE:∀ {a b:List BB} {W:WT},MI a->MI b->ML W->ML (LK a b W)
 |[],_,_,_,_,h=>h
 |x::a,b,W,ha,hb,h=>by
  rw[LK];exact TE (fun c hc=>ha c (ze _ hc)) hb (good_row (ha x (zc ..)) hb h)
theorem Mc{a b:List BB}(ha:MI a)(hb:MI b):ML (CA a b):=TE ha hb .nil
theorem Yn{n:Int}:∀ {W:WT},(∀c∈W,n<c.1)->BG (wW n) W=0
 |[],_=>rfl
 |c::l,h=>by
  have:=h c (zc ..);show(if c.1=n then(1:Rat)else 0)*c.2+BG (wW n) l=0;rw[wc (by omega),Yn fun x hx=>h x (ze _ hx),y9,yg]
theorem Jo{c:Int×Rat}{l:WT}(h:XR (c::l)):BG (wW c.1) (c::l)=c.2:=by
 show(if c.1=c.1 then(1:Rat)else 0)*c.2+BG (wW c.1) l=c.2;rw[wd rfl,Yn (zo.1 h).1,zw,ye]
theorem UP:∀ {V W:WT},XR V->MV V->XR W->MV W->(∀n,BG (wW n) V=BG (wW n) W)->V=W
 |[],[],_,_,_,_,_=>rfl
 |[],d::m,_,_,uw,pw,h=>by
  have:=h d.1;rw[Jo uw]at this;have p:=pw d (zc ..);rw[<-this]at p;exact wh (show(0:Rat)<0 from p) qp
 |c::l,[],uv,pv,_,_,h=>by
  have:=h c.1;rw[Jo uv]at this;have p:=pv c (zc ..);rw[this]at p;exact wh (show(0:Rat)<0 from p) qp
 |c::l,d::m,uv,pv,uw,pw,h=>by
  obtain⟨c1,c2⟩:=zo.1 uv;obtain⟨d1,d2⟩:=zo.1 uw;have pc:=pv c (zc ..);have pd:=pw d (zc ..);have e1:c.1=d.1:=by
   rcases Int.lt_trichotomy c.1 d.1 with k|k|k
   ·have:=h c.1;rw[Jo uv,Yn (n:=c.1) (W:=d::m) fun x hx=>by
     rcases zk.1 hx with rfl|hx
     ·exact k
     ·have:=d1 x hx;omega]at this
    rw[this]at pc;exact wh pc qp
   ·exact k
   ·have:=h d.1;rw[Jo uw,Yn (n:=d.1) (W:=c::l) fun x hx=>by
     rcases zk.1 hx with rfl|hx
     ·exact k
     ·have:=c1 x hx;omega]at this
    rw[<-this]at pd;exact wh pd qp
  have e2:c.2=d.2:=by
   have:=h c.1;rw[Jo uv,e1,Jo uw]at this;exact this
  have e:c=d:=Prod.ext e1 e2;subst e;rw[UP (V:=l) (W:=m) c2 (fun x hx=>pv x (ze _ hx)) d2 (fun x hx=>pw x (ze _ hx)) fun n=>Rat.add_left_cancel _ (h n)]
theorem Qw{a b:List BB}(ha:MI a)(hb:MI b):CA a b=CA b a:=by
 have h1:=Mc ha hb;have h2:=Mc hb ha;exact UP h1.up h1.pos h2.up h2.pos fun n=>by rw[KK,KK,Uj]
theorem le_add_right{p q:Rat}(h:0<=q):p<=p+q:=by
 have:=(qj (c:=p)).2 h;rwa [ye]at this
theorem le_add_left{p q:Rat}(h:0<=q):p<=q+p:=by rw[ji];exact le_add_right h
theorem Yt:∀ {W:WT},MV W->0<=BG Dz W
 |[],_=>yz
 |c::l,h=>by
  show 0<=1*c.2+BG Dz l;rw[zw];exact Rat.add_nonneg (yn (h c (zc ..))) (Yt fun x hx=>h x (ze _ hx))
theorem XY:∀ {W:WT},MV W->∀c∈W,c.2<=BG Dz W
 |d::l,h,c,hc=>by
  have h1:=h d (zc ..);have h2:MV l:=fun x hx=>h x (ze _ hx)
  show c.2<=1*d.2+BG Dz l;rw[zw];rcases zk.1 hc with rfl|hc
  ·exact le_add_right (Yt h2)
  ·exact qv (XY h2 c hc) (le_add_left (yn h1))
theorem FF(n:Int)(c:Int×Rat)(l:WT):BG (eT n) (c::l)=(if c.1<=n then c.2 else 0)+BG (eT n) l:=by
 show(if c.1<=n then(1:Rat)else 0)*c.2+BG (eT n) l=_;split
 ·rw[zw]
 ·rw[y9]
theorem sO{k:Nat}(n:Int):∀ {W:WT},yQ k W->Dy k (BG (eT n) W)
 |[],_=>Dy.zero
 |c::l,h=>by
  rw[FF];refine Dy.add ?_ (sO n fun x hx=>h x (ze _ hx));split
  ·exact h c (zc ..)
  ·exact Dy.zero
theorem W9{m n:Int}(hmn:m<=n):∀ {W:WT},MV W->BG (eT m) W<=BG (eT n) W
 |[],_=>yz
 |c::l,h=>by
  have h1:=yn (h c (zc ..));have h2:=W9 hmn (W:=l) fun x hx=>h x (ze _ hx)
  rw[FF,FF];refine qv (qj.2 h2) (Rat.add_le_add_right.2 ?_);by_cases k:c.1<=m
  ·rw[wd k,wd (by omega)];exact yz
  ·rw[wc k];split
   ·exact h1
   ·exact yz
theorem Qg(n:Int):∀ {W:WT},MV W->0<=BG (eT n) W
 |[],_=>yz
 |c::l,h=>by
  rw[FF];refine Rat.add_nonneg ?_ (Qg n fun x hx=>h x (ze _ hx));split
  ·exact yn (h c (zc ..))
  ·exact yz
theorem bE(n:Int):∀ {W:WT},MV W->BG (eT n) W<=BG Dz W
 |[],_=>yz
 |c::l,h=>by
  have h1:=yn (h c (zc ..));have h2:=bE n (W:=l) fun x hx=>h x (ze _ hx)
  rw[FF];show _<=1*c.2+BG Dz l;rw[zw];refine qv (qj.2 h2) (Rat.add_le_add_right.2 ?_);split
  ·exact yz
  ·exact h1
theorem jX{n:Int}:∀ {W:WT},(∀c∈W,c.1<=n)->BG (eT n) W=BG Dz W
 |[],_=>rfl
 |c::l,h=>by
  rw[FF,wd (h c (zc ..)),jX fun x hx=>h x (ze _ hx)];show _=1*c.2+BG Dz l;rw[zw]
theorem rX{q:Rat}(h:Dy 38 q)(h0:0<=q)(h1:q<=1):Dq 12 q:=by
 obtain⟨z,hz⟩:=h;have hM:(0:Rat)<(((2:Int)^38:Int):Rat):=Rat.intCast_pos.2 (by decide);have e:q=Rat.divInt z ((2:Int)^38):=by rw[Rat.divInt_eq_div, <-hz,Rat.mul_div_cancel (Rat.ne_of_gt hM)]
 have z0:0<=z:=by
  have:=Rat.mul_nonneg h0 (yn hM);rw[hz]at this;exact Rat.intCast_nonneg.1 this
 have z1:z<=(2:Int)^38:=by
  have:=Rat.mul_le_mul_of_nonneg_right h1 (yn hM);rw[hz,zw]at this;exact Rat.intCast_le_intCast.1 this
 rw[e];refine JU (by decide) ?_ (by decide);have:(2:Int)^38=274877906944:=by decide
 have:10^12=1000000000000:=by decide
 omega
theorem S3:∀(k:Nat) {d:Nat},d∣2^k->ZN (d:Int)=true
 |0,d,h=>by
  rw[Nat.pow_zero,Nat.dvd_one]at h;rw[h];exact S1
 |k+1,d,h=>by
  have hd:0<d:=Nat.pos_of_dvd_of_pos h (Nat.two_pow_pos (k+1));rcases Nat.mod_two_eq_zero_or_one d with e|e
  ·obtain⟨m,rfl⟩:∃m,d=2*m:=⟨d/2,by omega⟩;rw[Nat.pow_succ,Nat.mul_comm]at h;rw[NJ (by omega)];exact S3 k (Nat.dvd_of_mul_dvd_mul_right (show 0<2 by decide) h)
  ·have c:Nat.Coprime d 2:=by
    unfold Nat.Coprime;rw[Nat.gcd_comm,Nat.gcd_rec,e];rfl
   have:=Nat.Coprime.dvd_of_dvd_mul_right c (show d∣2^k*2 by rwa [Nat.pow_succ]at h);exact S3 k this
theorem X3(q:Rat):q*((q.den:Int):Rat)=(q.num:Rat):=by
 have e:(q.num:Rat)/((q.den:Int):Rat)=q:=by rw[<-Rat.divInt_eq_div,Rat.num_divInt_den]
 have:=Rat.div_mul_cancel (a:=(q.num:Rat)) (b:=((q.den:Int):Rat)) fun x=>JM q (Rat.intCast_eq_zero_iff.1 x)
 rwa [e]at this
theorem wL{q:Rat}{k:Nat}(h:Dy k q):ZN (q.den:Int)=true:=by
 obtain⟨z,hz⟩:=h;have hz:q.num*(2:Int)^k=z*(q.den:Int):=by
  have hz:=wi (· *((q.den:Int):Rat)) hz;have hz:q*(((2:Int)^k:Int):Rat)*((q.den:Int):Rat)=(z:Rat)*((q.den:Int):Rat):=hz;rw[ym,ql _ ((q.den:Int):Rat), <-ym,X3, <-yu, <-yu]at hz;exact Rat.intCast_inj.1 hz
 have hd:q.den∣q.num.natAbs*2^k:=by
  refine⟨z.natAbs,?_⟩;have:=wi Int.natAbs hz;rw[Int.natAbs_mul,Int.natAbs_mul,Int.natAbs_pow,Int.natAbs_natCast,Nat.mul_comm z.natAbs]at this;exact this
 exact S3 k (Nat.Coprime.dvd_of_dvd_mul_left (Nat.Coprime.symm q.reduced) hd)
theorem Zh{s:List UInt8}(h:AF s=0)(hd:S8 s=true)(hs:KJ s<=6):Dy 19 (AQ s):=by
 obtain⟨_,_,e3,_⟩:=Qz h;have z:=(Su h).z.mono hs;generalize AQ s=q at*;have hb:((q.den:Nat):Int)=((2^q.den.log2:Nat):Int):=by
  unfold S8 at hd;rw[<-e3]at hd;exact w6 hd
 have hb:q.den=2^q.den.log2:=by omega
 generalize q.den.log2=j at hb;have hj:j<=19:=by
  have h1:2^j<2^20:=by
   rw[<-hb];exact Nat.lt_trans z.2 (by decide)
  have:=(Nat.pow_lt_pow_iff_right (a:=2) (by decide)).1 h1;omega
 refine⟨q.num*(2:Int)^(19-j),?_⟩;have e2:(2:Int)^19=((q.den:Nat):Int)*2^(19-j):=by
  rw[hb,Int.natCast_pow];have:=Int.pow_add 2 j (19-j);rw[show j+(19-j)=19 by omega]at this;exact this
 rw[e2,yu, <-ym,X3, <-yu]
end Go.Sp
namespace Go.Sp
theorem UY:∀ {l:List BB} {o:Option Int} {s:Rat},Fb o s l=0->s+BG Dz (ch l)=1
 |[],_,s,h=>by
  rw[Fb]at h;split at h
  ·next e=>rw[e];exact ye _
  ·cases h
 |c::l,o,s,h=>by
  rw[GK]at h;split at h
  ·next k=>exact wh h k
  ·have:=UY h;show s+(1*AQ c.2+BG Dz (ch l))=1;rw[zw, <-yd];exact this
theorem WU{s:List UInt8}{m n:Int}(h:BF s m=true)(hmn:m<=n):BF s n=true:=by
 unfold BF Ps at*;rw[zi,yh,zi,zi,zi,w5,w5,w5,w5,w5,w5]at*;refine⟨h.1,?_⟩;rcases h.2 with k|⟨⟨⟨k1,k2⟩,k3⟩,k4⟩
 ·exact .inl k
 ·exact .inr ⟨⟨⟨by omega,k2⟩,by omega⟩,by omega⟩
theorem J6:∀l:List BB,Dc l=BG Y0 (ch l)
 |[]=>rfl
 |c::l=>by rw[Dc,J6 l];rfl
theorem Ib(n:Int):∀l:List BB,FL n l=BG (eT n) (ch l)
 |[]=>rfl
 |c::l=>by
  rw[FL,Ib n l];show _=BG (eT n) ((c.1,AQ c.2)::ch l);rw[FF]
theorem S2(W:WT):ch (Ej W)=W:=by
 unfold ch Ej;rw[List.map_map];refine(List.map_congr_left fun c _=>?_).trans (List.map_id _);show(c.1,AQ (Az c.2))=c;rw[BX]
structure Hy(a:List BB):Prop where
 ln:a.length<=8
 sh:Cs a 10 9=true
 FT:AJ a=0
 tot:Fe a<=56
 good:MI a
 sum:BG Dz (ch a)=1
theorem eG{a:List BB}(h:Jy a 8 6=true):Hy a:=by
 unfold Jy at h;rw[zi,zi,w5,w5]at h;obtain⟨⟨h1,h2⟩,h3⟩:=h;obtain⟨_,s2,s3⟩:=Jb (n:=8) (d:=6) h2;have hl:a.length<=8:=by omega
 have ha:=O9 (G2 h3).2.2;have ht:=SZ (d:=6) a fun c hc=>(s3 c hc).2
 refine⟨hl,?_,h3,by omega,fun c hc=>?_,?_⟩
 ·unfold Cs at h2 ⊢;rw[zi,zi,yh,w5,w5,w5,yo]at*;exact⟨⟨by omega,by omega⟩,fun c hc=>WU (h2.2 c hc) (by decide)⟩
 ·obtain⟨_,c2,c3,c4⟩:=ha c hc;exact⟨c3,Zh c2 c4 ((s3 c hc).2 c2)⟩
 ·have:=UY (G2 h3).2.2;rwa [yg]at this
theorem Hy.Io{a:List BB}(h:Hy a):Io a=true:=Lv h.sh
theorem Hy.Gk{a:List BB}(h:Hy a):Dq 129 (Dc a):=(Sp.Gk (ND h.FT)).mono (by have:=h.ln;have:=h.tot;omega)
structure Ht(W:WT):Prop where
 good:ML W
 sum:BG Dz W=1
 ln:W.length<=64
 num:∀c∈W,isNum c.1=true
theorem bG{a b:List BB}(ha:Hy a)(hb:Hy b)(h:Dd a b=0):Ht (CA a b):=by
 unfold Dd Sa at h;split at h
 ·cases h
 next h1=>
 split at h
 ·cases h
 next h2=>
 refine⟨Mc ha.good hb.good,?_,by omega,fun c hc=>?_⟩
 ·rw[KK,YD,ha.sum,hb.sum,zw]
 ·have h2:(CA a b).any Fa=false:=by simpa using h2
  have:=List.any_eq_false.1 h2 c hc;unfold Fa at this;have:=Bool.eq_false_iff.2 this;rw[Bool.or_eq_false_iff,Bool.or_eq_false_iff,w9,w9]at this;unfold isNum;rw[zi,w5,w5];omega
theorem ZI{a b:List BB}(ha:Hy a)(hb:Hy b):Dc (Ej (CA a b))=Dc a+Dc b:=by
 rw[J6,J6,J6,S2,KK,jJ,ha.sum,hb.sum,Rat.mul_one,zw]
theorem ZG{a b:List BB}(ha:Hy a)(hb:Hy b):Dd a b=Dd b a:=by
 unfold Dd;rw[Qw ha.good hb.good]
theorem Wc(W:WT):Sa W=0\/Sa W=4\/Sa W=5:=by
 unfold Sa;split
 ·exact .inr (.inr rfl)
 split
 ·exact .inr (.inl rfl)
 ·exact .inl rfl
theorem Ht.sz{W:WT}(h:Ht W):∀c∈W,Dq 12 c.2:=fun c hc=>rX (h.good.dy c hc) (yn (h.good.pos c hc)) (by rw[<-h.sum];exact XY h.good.pos c hc)
theorem uM{q:Rat}{k:Nat}(h:Dq k q)(hk:1<=k):KJ (Az q)<=k:=by
 rw[U1];exact Nat.max_le.2 ⟨CW h.1 hk,CW h.2 hk⟩
theorem Yx:∀ {W:WT},(∀c∈W,Dq 12 c.2)->Fe (Ej W)<=13*W.length
 |[],_=>yy _
 |c::l,h=>by
  have h1:=Yx fun x hx=>h x (ze _ hx)
  have h2:=uM (h c (zc ..)) (by decide);show Fe ((c.1,Az c.2)::Ej l)<=_;rw[Fe,zg];split
  ·show KJ (Az c.2)+1+_<=_;omega
  ·omega
theorem Ht.Io{W:WT}(h:Ht W):Sp.Io (Ej W)=true:=by
 have h1:=Yx h.sz;have h2:=h.ln;have h3:(Ej W).length=W.length:=by unfold Ej;rw[zt]
 unfold Sp.Io;rw[zi,zi,yh,w5,w5,w5,yo];refine⟨⟨by omega,fun c hc=>w4 ?_⟩,.inr (by omega)⟩;obtain⟨d,hd,rfl⟩:=List.mem_map.1 hc;exact OT (h.sz d hd) (by decide)
theorem YI:∀ {W:WT} {o:Option Int} {s:Rat},(∀c∈W,isNum c.1=true/\0<c.2/\Dq 12 c.2/\ZN (c.2.den:Int)=true)->XR W->(∀c∈W,mF o c.1=false)->s+BG Dz W=1->Fb o s (Ej W)=0
 |[],o,s,_,_,_,h=>by
  have h:s+0=1:=h;rw[ye]at h;show Fb o s []=0;rw[Fb,wd h]
 |c::l,o,s,hc,hu,ho,h=>by
  obtain⟨c1,c2,c3,c4⟩:=hc c (zc ..);obtain⟨u1,u2⟩:=zo.1 hu;have e:Ch o (c.1,Az c.2)=0:=by
   have k1:AF (Az c.2)=0:=by rw[P3,S6 c3 (by decide)];rfl
   have k2:S8 (Az c.2)=true:=by unfold S8;rw[(Hk c.2).2];exact c4
   have k3:mF o c.1=false:=ho c (zc ..);unfold Ch;rw[wc (by rw[c1];decide),wc (by simpa using k1),wc (by rw[BX];exact Rat.not_le.2 c2),wc (by rw[k2];decide),wc (by rw[k3];decide)]
  show Fb o s ((c.1,Az c.2)::Ej l)=0;rw[GK,wc (by simpa using e)];refine YI (fun x hx=>hc x (ze _ hx)) u2 (fun x hx=>?_) ?_
  ·have:=u1 x hx;exact w8 (show ¬x.1<=c.1 by omega)
  ·have h:s+(1*c.2+BG Dz l)=1:=h;rw[zw, <-yd]at h;rw[BX];exact h
theorem Ht.ne{W:WT}(h:Ht W):W≠[]:=fun e=>by
 have:=h.sum;rw[e]at this;exact wh this (by decide+kernel)
theorem Ht.FT{W:WT}(h:Ht W):AJ (Ej W)=0:=by
 have h3:(Ej W).length=W.length:=by unfold Ej;rw[zt]
 have hn:=h.ne;have hl:=h.ln;unfold AJ;rw[wc (fun e=>hn (by rw[e]at h3;exact List.eq_nil_of_length_eq_zero h3.symm)),wc (by omega)];exact YI (fun c hc=>⟨h.num c hc,h.good.pos c hc,h.sz c hc,wL (h.good.dy c hc)⟩) h.good.up (fun c hc=>rfl) (by rw[yg];exact h.sum)
theorem Ht.RX{W:WT}(h:Ht W)(n:Int):Dq 12 (FL n (Ej W)):=by
 rw[Ib,S2];exact rX (sO n h.good.dy) (Qg n h.good.pos) (by rw[<-h.sum];exact bE n h.good.pos)
theorem Ht.YR{W:WT}(h:Ht W){m n:Int}(hmn:m<=n):FL m (Ej W)<=FL n (Ej W):=by
 rw[Ib,Ib,S2];exact W9 hmn h.good.pos
theorem XL:∀ {W:WT} {d:Int×Rat},XR W->∀c∈W,c.1<=(W.getLastD d).1
 |[],_,_,c,hc=>by cases hc
 |x::l,d,h,c,hc=>by
  obtain⟨h1,h2⟩:=zo.1 h;rw[List.getLastD_cons];have key:=XL (d:=x) h2;rcases zk.1 hc with rfl|hc
  ·cases l with
   |nil=>exact Int.le_refl _
   |cons y m=>
    have a:=h1 y (zc ..);have b:=key y (zc ..);omega
  ·exact key c hc
theorem Ht.Y9{W:WT}(h:Ht W){n:Int}(hn:∀c∈W,c.1<=n):FL n (Ej W)=1:=by
 rw[Ib,S2,jX hn,h.sum]
theorem fB{W:WT}(hu:XR W)(hn:W≠[]):∀c∈W,c.1<=((Ej W).getD ((Ej W).length-1) ((0:Int),[])).1:=fun c hc=>by
 have h3:(Ej W).length=W.length:=by unfold Ej;rw[zt]
 have hl:0<W.length:=List.length_pos_iff.2 hn;have e:((Ej W).getD ((Ej W).length-1) ((0:Int),[])).1=(W.getLastD (0,0)).1:=by
  rw[List.getLastD_eq_getLast?,List.getLast?_eq_getElem?,List.getD_eq_getElem?_getD,h3];unfold Ej;rw[List.getElem?_map,yc (show W.length-1<W.length by omega)];rfl
 rw[e];exact XL hu c hc
end Go.Sp
namespace Go.Pe
open Sp
open Go.Det
section
open List Int Prod
namespace T73
def T(l:List (Int×List UInt8))(n d:Int):Tr:=tree zH false 9 73 (Af ([zu (zf i64 zr),z8 qm,z8 qm]) (l,n,d))
theorem Am(l:List (Int×List UInt8))(n d:Int):T l n d=.ite (decide ((length l:Int)<=n)) (.ite (decide (0<=n)&&decide (n<=64)&&decide (0<=d)&&decide (d<=1000)) (.ite (Cs l n d) (.ite (Io l) (.leaf (.dat Sh.bool (AJ l==0)) []) .fail) (.leaf (.bl false) [])) .fail) (.leaf (.bl false) []):=by kernel_rfl
end T73
namespace T15
def T(a:List (Int×List UInt8))(b:List (Int×List UInt8))(n:Int):Tr:=tree S0 false 9 15 (Af ([zu (zf i64 zr),zu (zf i64 zr),z8 qm]) (a,b,n))
def L1(v2:Int)(v7:List UInt8)(v8:Int)(v9:List UInt8)(v10:Int)(v11:List (Int×List UInt8))(v13:List (Int×List UInt8))(v14:Int):Tr:=re ((T [] [] 0).L.R.L.R.L.L.L.L.R) (AD 179 [(2,.dat i64 v2),(7,.dat zr v7),(8,.dat i64 v8),(9,.dat zr v9),(10,.dat i64 v10),(11,.dat (zu (zf i64 zr)) v11),(13,.dat (zu (zf i64 zr)) v13),(14,.dat i64 v14)] [] 0)
theorem Am(a:List (Int×List UInt8))(b:List (Int×List UInt8))(n:Int):T a b n=let a':Tr:=.ite true (.leaf (.dat Sh.bool true) []) .fail;let b':Tr:=.leaf (.bl false) [];let c':=decide (8=8)&&decide (6=6);.ite c' (.ite (!Jy a 8 6) a' (.ite c' (.ite (!Jy b 8 6) a' (.ite (Io a) (.ite (Io b) (.ite (Cs a 10 9&&Cs b 10 9) (.ite (Cs b 10 9&&Cs a 10 9) (.ite (EJ a b !=0) (.ite (zh .i64 (HN a+HN b)==0) (.ite (EJ a b==EJ b a) (.ite (EJ a b==4) a' (.ite (EJ a b==5) a' b')) b') b') (L1 n (JK a) (HN a) (JK b) (HN b) (IG a b) (IG b a) (EJ b a))) .fail) .fail) .fail) .fail)) .fail)) .fail:=by kernel_rfl
def L2(v2:Int)(v11:List (Int×List UInt8)):Tr:=re ((stepT S0 (L1 0 [] 0 [] 0 [] [] 0)).L.R.L.R.L.R.L.R.L.R.L.R) (AD 179 [(2,.dat i64 v2),(11,.dat (zu (zf i64 zr)) v11)] [] 0)
theorem Ap(v2:Int)(v7:List UInt8)(v8:Int)(v9:List UInt8)(v10:Int)(v11:List (Int×List UInt8))(v13:List (Int×List UInt8))(v14:Int):stepT S0 (L1 v2 v7 v8 v9 v10 v11 v13 v14)=let a':Tr:=.leaf (.bl false) [];.ite (Io v11) (.ite (zh .i64 (zh .i64 (zh .i64 (v8+v10)+v14)+HN v11) !=0) a' (.ite (decide (length v7<=1000000)) (.ite (AF v7 !=0) a' (.ite (decide (length v9<=1000000)) (.ite (AF v9 !=0) a' (.ite (BT v7&&BT v9) (.ite (!JK v11==J9 v7 v9) a' (.ite (decide (length v11<=5000)) (.ite (!bU v11 v13) a' (.ite (Io v11) (.ite (AJ v11 !=0) a' (L2 v2 v11)) .fail)) .fail)) .fail)) .fail)) .fail)) .fail:=by kernel_rfl
def L3(v2:Int)(v11:List (Int×List UInt8)):Tr:=re ((stepT S0 (L2 0 [])).L.L) (AD 179 [(2,.dat i64 v2),(11,.dat (zu (zf i64 zr)) v11)] [] 0)
theorem AY(v2:Int)(v11:List (Int×List UInt8)):stepT S0 (L2 v2 v11)=let a':Tr:=.ite true (L3 (Int.tmod v2 999999999) v11) .fail;.ite (decide (v2<(-999999999))) a' (.ite (decide (v2>999999999)) a' (L3 v2 v11)):=by kernel_rfl
theorem CH(v2:Int)(v11:List (Int×List UInt8)):stepT S0 (L3 v2 v11)=let b':Tr:=.leaf (.bl false) [];let d':=Qy v11 v2;let e':=(length v11:Int);let f':=zh .i64 (v2+1);let a':=Qy v11 f';let c':=fst (getD v11 (toNat (zh .i64 (e'-1))) (0,[]));.ite (Io v11) (.ite (Io v11) (.ite (decide (0<=zh .i64 (e'-1))&&decide (zh .i64 (e'-1)<e')) (.ite (Io v11) (.ite (zh .i64 (zh .i64 (QU v11 v2+QU v11 f')+QU v11 c')==0) (.ite (decide (length d'<=1000000)) (.ite (AF d'==0) (.ite (decide (length a'<=1000000)) (.ite (AF a'==0) (.ite (BT d'&&Jt a') (.ite (decide (cG d' a'<=0)) (.ite (Qy v11 c'==[(49:UInt8)]) (.ite true (.leaf (.dat Sh.bool true) []) .fail) b') b') .fail) b') .fail) b') .fail) b') .fail) .fail) .fail) .fail:=by kernel_rfl
end T15
end
end Go.Pe
namespace Go.Det
open Go.ChangeShapes Go.WideShapes Go.RowKit
theorem B1{α β:Type}{f g:α->Option β}:∀ {l:List α} {ys:List β},l.mapM f=some ys->(∀a∈l,∀y∈ys,f a=some y->g a=some y)->l.mapM g=some ys
 |[],ys,h,_=>by simpa using h
 |a::l,ys,h,hg=>by
  rw[List.mapM_cons]at h ⊢;cases hf:f a with
  |none=>rw[hf]at h;cases h
  |some y=>
   rw[hf]at h;cases hl:l.mapM f with
   |none=>rw[hl]at h;cases h
   |some zs=>
    rw[hl]at h;cases h;rw[hg a (by simp) y (by simp) hf,B1 hl (fun b hb z hz hfz=>hg b (by simp[hb]) z (by simp[hz]) hfz)];rfl
def eK(P:Program)(L:List TypeId)(t:TypeId):Bool:=match P.underlying t with
 |some (.pointer e)|some (.array _ e)|some (.map _ e)=>L.contains e
 |some (.slice e)=>L.contains e&&Nat.ble 1 (P.cellsOf e)
 |some (.struct fs)=>fs.toList.all fun f=>L.contains f.type
 |_=>true
def Km(P:Program)(L:List TypeId):Bool:=L.all (eK P L)
section
variable {H:Type}{enc:TypeId×Value->H}{P:Program}{W W':World}
theorem lC{L:List TypeId}(h:Km P L=true){t:TypeId}(ht:t∈L):eK P L t=true:=yo.1 h t ht
theorem VD(hb:Below W.heap.size W W'){a:Addr}{v:Value}(h:W.cell? a=some v):W'.cell? a=some v:=by
 have hl:a.block<W.heap.size:=by
  unfold qz at h;by_cases hh:a.block<W.heap.size
  ·exact hh
  ·rw[yr (by omega)]at h;cases h
 unfold qz at h ⊢;rw[hb.block _ hl];exact h
theorem Uk(hb:Below W.heap.size W W'){a:Addr}{n:Nat}{cs:List Value}(h:W.cells? 0 a n=some cs):W'.cells? 0 a n=some cs:=by
 unfold World.cells? at h ⊢;rw[wd (yw _)]at h ⊢;exact B1 h fun i _ v _ hv=>VD hb hv
theorem GJ(hb:Below W.heap.size W W'){β:Type}{a:Addr}{n:Nat}{f g:List Value->Option β}{y:β}(h:(W.cells? 0 a n).bind f=some y)(hfg:∀cs,f cs=some y->g cs=some y):(W'.cells? 0 a n).bind g=some y:=by
 cases hc:W.cells? 0 a n with
 |none=>rw[hc]at h;cases h
 |some cs=>
  rw[hc]at h;rw[Uk hb hc];exact hfg cs h
theorem PF(hb:Below W.heap.size W W'){L:List TypeId}(hz:Km P L=true){sp:Nat->Bool}:∀(fuel:Nat) (t:TypeId) (cs:List Value) (x:DataW H×List MemPlace),t∈L->
  ya enc P W 0 (fun _=>true) true fuel t cs=some x->(∀p∈x.2,sp p.block=true)->ya enc P W' 0 sp true fuel t cs=some x
 |0,_,_,_,_,h,_=>by cases h
 |fuel+1,t,cs,x,ht,h,hs=>by
  have ih:=PF hb hz (sp:=sp) fuel;have hk:=lC hz ht;unfold eK at hk;unfold ya at h ⊢;split at h<;>try simp only[reduceCtorEq]at h
  all_goals try exact h
  case h_6 e a hu=>
   have hke:e∈L:=by rw[hu]at hk;simpa using hk
   cases hm:(W.cells? 0 a (P.cellsOf e)).bind (ya enc P W 0 (fun _=>true) true fuel e)with
   |none=>rw[hm]at h;cases h
   |some y=>
    rw[hm]at h;cases h;rw[GJ hb hm (g:=ya enc P W' 0 sp true fuel e) (fun cs hc=>ih e cs y hke hc (fun p hp=>hs p (by simp[hp])))];rfl
  case h_8 e a len cap hu=>
   have hke:e∈L/\P.cellsOf e≠0:=by
    rw[hu]at hk;simp only[zi,List.contains_iff_mem]at hk;have:=Nat.le_of_ble_eq_true hk.2;exact⟨hk.1,by omega⟩
   by_cases hc:0<=a.block/\len<=cap/\cap<=maxLen
   ·rw[wd hc]at h ⊢;have step:∀(i:Nat) (y:DataW H×List MemPlace),(W.cells? 0 (a.add (i*P.cellsOf e)) (P.cellsOf e)).bind (ya enc P W 0 (fun _=>true) true fuel e)=some y->(∀p∈y.2,sp p.block=true)->
      (W'.cells? 0 (a.add (i*P.cellsOf e)) (P.cellsOf e)).bind (ya enc P W' 0 sp true fuel e)=some y:=fun i y hy hp=>GJ hb hy fun cs hc=>ih e cs y hke.1 hc hp
    cases h1:(jf len).mapM (fun i=>(W.cells? 0 (a.add (i*P.cellsOf e)) (P.cellsOf e)).bind (ya enc P W 0 (fun _=>true) true fuel e))with
    |none=>rw[h1]at h;cases h
    |some ys=>
     rw[h1]at h;simp only[wk,yp]at h;cases h2:(jf (cap-len)).mapM (fun j=>(W.cells? 0 (a.add ((len+j)*P.cellsOf e)) (P.cellsOf e)).bind (ya enc P W 0 (fun _=>true) true fuel e))with
     |none=>rw[h2]at h;cases h
     |some zs=>
      rw[h2]at h;cases h;rw[B1 h1 fun i _ y hy hi=>step i y hi fun p hp=>hs p (qf _ (y7.2 ⟨y,List.mem_append_left _ hy,hp⟩))];have h2':=B1 h2 fun j _ y hy hj=>step (len+j) y hj fun p hp=>hs p (qf _ (y7.2 ⟨y,qf _ hy,hp⟩))
      by_cases hsp:sp a.block=true
      ·simp only[hsp,wk,yp];rw[h2'];rfl
      ·have e0:(ys.length+zs.length)*P.cellsOf e=0:=by
        rcases Nat.eq_zero_or_pos ((ys.length+zs.length)*P.cellsOf e)with h0|h0
        ·exact h0
        ·refine wh (hs (.cell a.block (a.off+0)) (List.mem_append_left _ ?_)) hsp;simp only[MemPlace.row,List.mem_map,List.mem_range];exact⟨0,h0,rfl⟩
       have e1:zs=[]:=by
        rcases Nat.mul_eq_zero.1 e0 with h0|h0
        ·exact qt.1 (by omega)
        ·exact wh h0 hke.2
       subst e1;simp only[hsp,yp];rfl
   ·rw[wc hc]at h;cases h
  case h_9 cs _ _ fs hu=>
   have hke:∀f∈fs.toList,f.type∈L:=by
    rw[hu]at hk;intro f hf;have:=yo.1 hk f hf;simpa using this
   by_cases hc:cs.length=P.cellsOf t
   ·rw[wd hc]at h ⊢;cases h1:fs.toList.mapM (fun f=>ya enc P W 0 (fun _=>true) true fuel f.type ((cs.drop f.offset).take (P.cellsOf f.type)))with
    |none=>rw[h1]at h;cases h
    |some ys=>
     rw[h1]at h;cases h;rw[B1 h1 fun f hfm y hy hf=>ih _ _ y (hke f hfm) hf fun p hp=>hs p (y7.2 ⟨y,hy,hp⟩)];rfl
   ·rw[wc hc]at h;cases h
  case h_10 cs _ _ n e hu=>
   have hke:e∈L:=by rw[hu]at hk;simpa using hk
   by_cases hc:cs.length=P.cellsOf t
   ·rw[wd hc]at h ⊢;cases h1:(jf n).mapM (fun i=>ya enc P W 0 (fun _=>true) true fuel e ((cs.drop (i*P.cellsOf e)).take (P.cellsOf e)))with
    |none=>rw[h1]at h;cases h
    |some ys=>
     rw[h1]at h;cases h;rw[B1 h1 fun f _ y hy hf=>ih _ _ y hke hf fun p hp=>hs p (y7.2 ⟨y,hy,hp⟩)];rfl
   ·rw[wc hc]at h;cases h
  case h_14 k e b hu=>
   have hke:e∈L:=by rw[hu]at hk;simpa using hk
   have hl:b<W.heap.size:=by
    by_cases hh:b<W.heap.size
    ·exact hh
    ·rw[yr (by omega)]at h;cases h
   rw[hb.block _ hl];split at h
   case h_2=>cases h
   rename_i es clock hes;simp only;split at h
   case isFalse=>cases h
   rename_i hcond;rw[wd hcond];cases h1:(es.toList.mapM fun x=>(keyOf P k x.key).bind fun key=>if x.val.formed P e then(ya enc P W 0 (fun _=>true) true fuel e x.val.cells.toList).map fun y=>((key,y.1),y.2)else none)with
   |none=>rw[h1]at h;cases h
   |some ys=>
    rw[h1]at h;simp only[yp]at h;split at h
    case isFalse=>cases h
    rename_i hri;cases h;rw[B1 h1 fun en _ y hy hf=>?_]
    ·simp only[yp];rw[wd hri]
    ·cases hk:keyOf P k en.key with
     |none=>rw[hk]at hf;cases hf
     |some key=>
      rw[hk]at hf;simp only[yp]at hf ⊢;split at hf
      case isFalse=>cases hf
      rename_i hfo;rw[wd hfo];cases htt:ya enc P W 0 (fun _=>true) true fuel e en.val.cells.toList with
      |none=>rw[htt]at hf;cases hf
      |some u=>
       rw[htt]at hf;cases hf;rw[ih _ _ u hke htt fun p hp=>hs p (by simp only[zk,y7];exact .inr ⟨_,hy,hp⟩)];rfl
theorem WE(hb:Below W.heap.size W W'){L:List TypeId}(hz:Km P L=true){sp:Nat->Bool}{t:TypeId}{v:Value}{d:DataW H}{p:List MemPlace}
  (ht:t∈L) (h:jg enc P W 0 (fun _=>true) true t v d p) (hs:∀q∈p,sp q.block=true):jg enc P W' 0 sp true t v d p:=by
 obtain⟨fuel,hf⟩:=h;exact⟨fuel,PF hb hz fuel t _ _ ht hf hs⟩
theorem Gv(hb:Below W.heap.size W W'){L:List TypeId}(hz:Km P L=true){sp:Nat->Bool}:∀ {ts:List TypeId} {vs:List Value} {ds:List (DataW H)} {p:List MemPlace},(∀t∈ts,t∈L)->
  qh enc P W 0 (fun _=>true) true ts vs ds p->(∀q∈p,sp q.block=true)->qh enc P W' 0 sp true ts vs ds p
 |[],vs,ds,p,_,h,_=>by
  obtain⟨rfl,rfl,rfl⟩:=trodAll_nil h;rfl
 |t::ts,vs,ds,p,hl,h,hs=>by
  obtain⟨v,vs1,d,ds1,a,b,rfl,rfl,rfl,h1,h2⟩:=trodAll_cons h;exact⟨a,b,WE hb hz (hl t (by simp)) h1 (fun q hq=>hs q (by simp[hq])),Gv hb hz (fun u hu=>hl u (by simp[hu])) h2 (fun q hq=>hs q (by simp[hq])),rfl⟩
theorem Zd{f:Func}{s:ChangeSpec}{apart fresh handsOn again:Bool}{args:Array Value}{ds gs:List (DataW H)}{before:List MemPlace}{tb:TypeId}
  (hW:DataW.Whole enc P f.params.toList s.vars apart W args.toList ds gs before) (hv:s.vars=[]) (hr:f.resultTypes= #[tb]) (ht:P.underlying tb=some .bool)
  (hfn:s.fn H ds={ results:=[.lit (.bool true)],args:=ds }) (hb:Below W.heap.size W W') {L:List TypeId} (hz:Km P L=true) (hl:f.params.toList.all L.contains=true):
  s.post enc P f apart fresh handsOn again W args (.bool true) W':=by
 have hlt:=hW.lt;have hl:∀t∈f.params.toList,t∈L:=fun t ht=>by have:=yo.1 hl t ht;simpa using this
 obtain⟨p,q,hA,hV,rfl,hfz,hnd⟩:=hW;have hV':=hV;rw[hv]at hV';obtain⟨rfl,rfl⟩:=trodVars_none hV';simp only[List.append_nil]at hlt hfz hnd ⊢;have hold:∀x∈p,(fun b=>decide (b<W.heap.size)) x.block=true:=fun x hx=>by simpa using hlt x hx
 have hW0:DataW.Whole enc P f.params.toList s.vars apart W args.toList ds [] p:=⟨p,[],hA,hV,by simp,hfz,hnd⟩;have hres:∀(b:Nat) (sp:Nat->Bool) (hd:Bool),qh enc P W' b sp hd f.resultTypes.toList ((Value.bool true).resultList f.resultTypes.size) [.lit (.bool true)] []:=by
  intro b sp hd;rw[hr];exact⟨[],[],shut_bool ht true,rfl,rfl⟩
 have hok:∀(j:Nat) (t:TypeId) (r:Value),f.resultTypes[j]?=some t->((Value.bool true).resultList f.resultTypes.size)[j]?=some r->qc P W' .any 0 t r:=by
  exact ok_one hr rfl (okWide_bool_mk ht true)
 have hvars:∀sp:Nat->Bool,DataW.TrodVars enc P W' sp s.vars [] []:=fun sp=>by rw[hv];rfl
 have hfn:s.fn H (ds++[])={ results:=[.lit (.bool true)],args:=ds }:=by rw[List.append_nil];exact hfn
 refine⟨ds,[],p,[],p,[],hW0,?_,?_,?_,World.keptBut_mono (fun x hx=>⟨hx,.inr (.inl hx)⟩) (hb.frame (· ∈p)),fun _=>?_⟩
 ·rw[hfn];exact hres _ _ _
 ·rw[hfn];exact Gv hb hz hl hA hold
 ·rw[hfn];exact hvars _
 ·refine⟨hok,_,_,([]++p)++[],⟨[]++p,[],trodAll_append (Gv hb hz hl hA (fun _ _=>rfl)) (hres _ _ _),hvars _,rfl,?_,?_⟩,?_⟩
  ·intro b off hp;have hp:MemPlace.cell b off∈p:=by simpa using hp
   rw[hb.frozen (show b<W.heap.size from hlt _ hp)];exact hfz b off hp
  ·intro ha;simpa using hnd ha
  ·intro x hx _;simpa using hx
end
end Go.Det
namespace Go.Det
def M8(k:Nat):Value->V
 | .bool b=>.bool b
 | .int q n=>.int q n
 | .string s=>.str s.data.toList
 | .pointer none=>.nilp
 | .slice none 0 0=>.nils
 | .slice (some _) 0 0=>.es0
 | .slice (some ⟨r,off,none⟩) len cap=>if r<k/\len<=cap then .sl r off len cap 0 else .junk
 | .map none=>.nilm
 | .nilFunc=>.nilf
 | .nilIface=>.nili
 |_=>.junk
def KJ(W:World)(r:Nat):Nat:=match W.heap[r]? with
 |some (.cells c _ _)=>c.size
 |_=>0
def pW(W:World):Pl:=(jf W.heap.size).map fun r=>(r,KJ W r)
theorem Mj{W:World}{r:Nat}(h:r<W.heap.size):(pW W)[r]?=some (r,KJ W r):=by
 simp[pW,h]
def Pm(W:World)(r:Nat):Option O:=match W.heap[r]? with
 |some (.cells c t _)=>if c.size=0 then none else some (.cells (c.toList.map (M8 W.heap.size)) t (0,c.size))
 |_=>none
def Z8(W:World):Nat->H
 |0=>⟨.leaf,0⟩
 |n+1=>⟨(Z8 W n).m.set n (Pm W n),n+1⟩
theorem mM(W:World):∀n,(Z8 W n).nx=n
 |0=>rfl
 |_+1=>rfl
theorem Th(W:World):∀(n b:Nat),(Z8 W n).get b=if b<n then Pm W b else none
 |0,b=>by simp[Z8,H.get]
 |n+1,b=>by
  have ih:=Th W n b;unfold H.get at ih ⊢;simp only[Z8,PM.C2];by_cases e:b=n
  ·subst e;simp
  ·rw[wc e,ih];by_cases h:b<n
   ·rw[wd h,wd (by omega)]
   ·rw[wc h,wc (by omega)]
def hW(W:World):H:=Z8 W W.heap.size
theorem PE(W:World)(b:Nat):(hW W).get b=Pm W b:=by
 unfold hW;rw[Th];by_cases h:b<W.heap.size
 ·rw[wd h]
 ·rw[wc h];unfold Pm;rw[yr (by omega)]
theorem RF{W:World}{v:Value}(h:(M8 W.heap.size v).ok=true):Ab (pW W) (M8 W.heap.size v) v:=by
 revert h;unfold M8;split<;>intro h
 case h_6=>simp only[Ab];exact⟨_,rfl⟩
 case h_7 r off len cap _=>
  split
  ·rename_i hc;simp only[Ab];exact⟨r,_,cap,Mj hc.1,rfl,hc.2,yy _,fun _=>rfl,fun e=>wh rfl e⟩
  ·rename_i hc;rw[wc hc]at h;cases h
 case h_11=>cases h
 all_goals simp only[Ab]
 all_goals rfl
theorem R_W(W:World):R (pW W) (hW W) W:=by
 refine⟨by simp[pW,hW,mM],fun b o hb=>?_,fun b b' o o' r n n' hb hb' h1 h2=>?_⟩
 ·rw[PE]at hb;unfold Pm at hb;split at hb
  case h_2=>cases hb
  rename_i c t fz hc;split at hb
  case isTrue=>cases hb
  cases hb;have hlt:b<W.heap.size:=(z6.1 hc).1;have hs:KJ W b=c.size:=by unfold KJ;rw[hc]
  refine⟨b,c.size,_,by rw[Mj hlt,hs],hc,c,fz,rfl,rfl,by simp,⟨by simp,fun i d v hd hv hok=>?_⟩,fun i hi h1 h2=>⟨yw _,hi⟩⟩;rw[List.getElem?_map]at hd;rw[zt,qq (by have:=(List.getElem?_eq_some_iff.1 hv).1;simp at this;simpa using this)]at hv;rw[hv]at hd;cases hd;exact RF hok
 ·have key:∀b o r n,(hW W).get b=some o->(pW W)[b]?=some (r,n)->r=b:=by
   intro b o r n hb h1;rw[PE]at hb;have hlt:b<W.heap.size:=by
    unfold Pm at hb;by_cases h:b<W.heap.size
    ·exact h
    ·rw[yr (by omega)]at hb;cases hb
   rw[Mj hlt]at h1;cases h1;rfl
  rw[<-key b o r n hb h1, <-key b' o' r n' hb' h2]
theorem pX{W W':World}{p':Pl}{h':H}(he:Ext (pW W) (hW W) W p' h' W'):RowKit.Below W.heap.size W W':=by
 refine⟨he.os,he.tape,he.out,he.size,fun k hk=>?_⟩;by_cases hi:Im (pW W) (hW W) k
 ·obtain⟨b,o,n,h1,h2⟩:=hi;have h1':=h1;rw[PE]at h1';unfold Pm at h1';split at h1'
  case h_2=>cases h1'
  rename_i c t fz hc;split at h1'
  case isTrue=>cases h1'
  rename_i h0;cases h1';have hlt:b<W.heap.size:=(z6.1 hc).1;have hs:KJ W b=c.size:=by unfold KJ;rw[hc]
  rw[Mj hlt,hs]at h2;cases h2;exact(he.lock _ hk ⟨_,_,_,_,_,h1,by rw[Mj hlt,hs],rfl,yy _,Nat.pos_of_ne_zero h0⟩).1
 ·exact he.same k hk hi
end Go.Det
namespace Go.Pe
open Go.Det
def FW(W:World):Fz:=fun b=>match (hW W).get b with
 |some (.cells cs _ _)=>some cs
 |_=>none
def S7:(s:Sh)->s.T->Prop
 | .int k,x=>k.min<=(x:Int)/\(x:Int)<=k.max
 | .bool,_=>True
 | .str,x=>(x:List UInt8).length<=maxLen
 | .list s,l=>(l:List s.T).length<=maxLen/\∀x∈(l:List s.T),S7 s x
 | .pair a b,x=>S7 a x.1/\S7 b x.2
 | .unit,_=>True
 | .nlist _,_=>True
 | .fnv,_=>True
def eB(P:Program)(f:TypeId->Option Sh):Nat->List Field->Option Sh
 |_,[]=>some .unit
 |o,[x]=>match f x.type with
  |some s=>bif qd x.offset o&&qd (P.cellsOf x.type) s.sz then some s else none
  |none=>none
 |o,x::y::l=>match f x.type with
  |some s=>bif qd x.offset o&&qd (P.cellsOf x.type) s.sz then(eB P f (o+s.sz) (y::l)).map (.pair s)else none
  |none=>none
def wY(P:Program):Nat->TypeId->Option Sh
 |0,_=>none
 |f+1,t=>match P.underlying t with
  |some (.int k)=>some (.int k)
  |some .bool=>some .bool
  |some .string=>some .str
  |some (.slice e)=>match wY P f e with
   |some s=>bif qd (P.cellsOf e) s.sz&&Nat.blt 0 s.sz then some (.list s)else none
   |none=>none
  |some (.struct fs)=>match eB P (wY P f) 0 fs.toList with
   |some s=>bif qd (P.cellsOf t) s.sz then some s else none
   |none=>none
  |_=>none
section
variable {H:Type}{enc:TypeId×Value->H}{P:Program}{W:World}
theorem iA{r:Nat}{c:Array Value}{t:TypeId}{fz:Nat×Nat}(h:W.heap[r]?=some (.cells c t fz))(h0:c.size≠0):FW W r=some (c.toList.map (M8 W.heap.size)):=by
 unfold FW;rw[PE];unfold Pm;rw[h];simp only[wc h0]
theorem QZ{a:Addr}{n:Nat}{cs:List Value}(h:W.cells? 0 a n=some cs)(hn:0<n):
  ∃c t fz,W.heap[a.block]?=some (.cells c t fz)/\a.spot=none/\a.off+n<=c.size/\cs=(c.toList.drop a.off).take n:=by
 unfold World.cells? at h;rw[wd (yw _)]at h;have hl:=mapM_some_length h;have hg:=mapM_some_get h;simp only[List.length_range]at hl;have h0:=hg 0 0 (by simp[hn]);have ha0:a.add 0=a:=by simp[jk]
 rw[ha0]at h0;obtain⟨v0,hv0⟩:∃v,cs[0]?=some v:=⟨cs[0],yc (by omega)⟩;rw[hv0]at h0;unfold qz at h0;split at h0
 case h_2=>cases h0
 rename_i c t fz hb;split at h0
 case isTrue=>cases h0
 rename_i hs;have hs:a.spot=none:=by simpa using hs
 have hc:∀i,i<n->c[a.off+i]?=cs[i]?:=by
  intro i hi;have:=hg i i (by simp[hi]);unfold qz at this;have hb':(a.add i).block=a.block:=by unfold jk;split<;>rfl
  have hs':(a.add i).spot=none:=by unfold jk;split<;>simp[hs]
  have ho':(a.add i).off=a.off+i:=by unfold jk;split<;>simp_all
  rw[hb',hb]at this;simpa [hs',ho']using this
 refine⟨c,t,fz,hb,hs,?_,?_⟩
 ·have:=hc (n-1) (by omega);rw[yc (by omega)]at this;have:=(z6.1 this).1;omega
 ·apply List.ext_getElem?;intro i;by_cases hi:i<n
  ·rw[<-hc i hi,qq hi,List.getElem?_drop];simp
  ·rw[List.getElem?_eq_none (by omega),List.getElem?_eq_none (by simp;omega)]
theorem XO{α:Type}{p:Nat->α->Prop}:∀n:Nat,(∀i,i<n->∃x,p i x)->∃l:List α,l.length=n/\∀i (h:i<l.length),p i l[i]
 |0,_=>⟨[],rfl,fun i h=>wh h (Nat.not_lt_zero _)⟩
 |n+1,h=>by
  obtain⟨l,h1,h2⟩:=XO n fun i hi=>h i (by omega)
  obtain⟨x,hx⟩:=h n (by omega);refine⟨l++[x],by simp[h1],fun i hi=>?_⟩;by_cases e:i<l.length
  ·rw[List.getElem_append_left e];exact h2 i e
  ·have:i=n:=by simp at hi;omega
   subst this;rw[List.getElem_append_right (by omega)];simpa [h1]using hx
theorem Q2{f:TypeId->Option Sh}{n:Nat}{cs:List Value}
  (ih:∀(t:TypeId) (s:Sh) (cs:List Value) (y:DataW H×List MemPlace),f t=some s->ya enc P W 0 (fun _=>true) true n t cs=some y->∃x:s.T,DC (FW W) s x (cs.map (M8 W.heap.size))/\S7 s x):
  ∀(fs:List Field) (o:Nat) (s:Sh),eB P f o fs=some s->(∀x∈fs,∃z,ya enc P W 0 (fun _=>true) true n x.type ((cs.drop x.offset).take (P.cellsOf x.type))=some z)->
   ∃x:s.T,DC (FW W) s x (((cs.map (M8 W.heap.size)).drop o).take s.sz)/\S7 s x
 |[],o,s,hs,_=>by
  cases hs;exact⟨(),by simp[DC,Sh.sz],trivial⟩
 |[x],o,s,hs,hx=>by
  unfold eB at hs;split at hs
  case h_2=>cases hs
  rename_i s' hs';cases hc:(qd x.offset o&&qd (P.cellsOf x.type) s'.sz)with
  |false=>rw[hc]at hs;cases hs
  |true=>
  rw[hc]at hs;cases hs;simp only[zi]at hc;obtain⟨z,hz⟩:=hx x (by simp);rw[yi hc.1,yi hc.2]at hz;have:=ih _ _ _ _ hs' hz;simpa [je,qo]using this
 |x::x'::l,o,s,hs,hx=>by
  unfold eB at hs;split at hs
  case h_2=>cases hs
  rename_i s' hs';cases hc:(qd x.offset o&&qd (P.cellsOf x.type) s'.sz)with
  |false=>rw[hc]at hs;cases hs
  |true=>
  rw[hc]at hs;simp only[we,Option.map_eq_some_iff]at hs;obtain⟨s2,h2,rfl⟩:=hs;simp only[zi]at hc;obtain⟨z,hz⟩:=hx x (by simp);rw[yi hc.1,yi hc.2]at hz;obtain⟨a,a1,a2⟩:=ih _ _ _ _ hs' hz;obtain⟨b,b1,b2⟩:=Q2 ih (x'::l) (o+s'.sz) s2 h2 (fun u hu=>hx u (ze _ hu));refine⟨(a,b),?_,a2,b2⟩;simp only[DC];refine⟨_,_,?_,a1,b1⟩;rw[je,qo, <-List.drop_drop];exact List.take_add
theorem SC:∀(k fuel:Nat) (t:TypeId) (s:Sh) (cs:List Value) (y:DataW H×List MemPlace),wY P k t=some s->ya enc P W 0 (fun _=>true) true fuel t cs=some y->
  ∃x:s.T,DC (FW W) s x (cs.map (M8 W.heap.size))/\S7 s x
 |0,_,_,_,_,_,hs,_=>by cases hs
 |k+1,fuel,t,s,cs,y,hs,h=>by
  have ih:=SC k;unfold wY at hs;split at hs
  case h_1 q hu=>
   cases hs;obtain⟨n,rfl,_,hw⟩:=DataW.trod_int hu h;exact⟨(n:Int),by simp[DC,M8],by simpa [S7,Lit.wf]using hw⟩
  case h_2 hu=>
   cases hs;obtain⟨b,rfl,_⟩:=DataW.trod_bool hu h;exact⟨b,by simp[DC,M8],trivial⟩
  case h_3 hu=>
   cases hs;obtain⟨b,rfl,_,hw⟩:=DataW.trod_string hu h;exact⟨b.data.toList,by simp[DC,M8],by show b.data.toList.length<=maxLen;rw[Array.length_toList];exact hw⟩
  case h_4 e hu=>
   split at hs
   case h_2=>cases hs
   rename_i s' hs';cases hc:(qd (P.cellsOf e) s'.sz&&Nat.blt 0 s'.sz)with
   |false=>rw[hc]at hs;cases hs
   |true=>
   rw[hc]at hs;cases hs;simp only[zi]at hc;have hsz:=yi hc.1;have hpos:=Nat.le_of_ble_eq_true hc.2;rcases DataW.trod_slice hu h with⟨rfl,_⟩|⟨a,len,cap,elems,rest,n,rfl,rfl,_,_,hlc,hcm,hel,he,hr,_⟩
   ·exact⟨[],by simp[DC,M8],by simp[S7]⟩
   ·obtain⟨hrl,hr⟩:=hr rfl;rw[hsz]at he hr;by_cases h0:cap=0
    ·obtain rfl:len=0:=by omega
     subst h0;exact⟨[],by simp[DC,M8],by simp[S7]⟩
    ·
     have all:∀i,i<cap->∃ci z,W.cells? 0 (a.add (i*s'.sz)) s'.sz=some ci/\ya enc P W 0 (fun _=>true) true n e ci=some z:=by
      intro i hi;by_cases hl:i<len
      ·have h1:=he i hl;rw[yc (by omega)]at h1;rw[qu]at h1;obtain⟨ci,h2,h3⟩:=h1;exact⟨ci,_,h2,h3⟩
      ·have h1:=hr (i-len) (by omega);rw[show len+(i-len)=i by omega,yc (by omega)]at h1;rw[qu]at h1;obtain⟨ci,h2,h3⟩:=h1;exact⟨ci,_,h2,h3⟩
     obtain⟨c0,z0,g0,_⟩:=all 0 (by omega);rw[Nat.zero_mul,show a.add 0=a from by simp[jk]]at g0;obtain⟨c,tc,fz,hb,hsp,hoff,_⟩:=QZ g0 hpos;have hlt:a.block<W.heap.size:=(z6.1 hb).1;have hF:=iA hb (by omega);obtain⟨ab,ao,ax⟩:=a;simp only at hsp hb hoff hlt hF;subst hsp;have cell:∀i,i<cap->ao+i*s'.sz+s'.sz<=c.size/\∃x:s'.T,DC (FW W) s' x (((c.toList.map (M8 W.heap.size)).drop (ao+i*s'.sz)).take s'.sz)/\S7 s' x:=by
      intro i hi;obtain⟨ci,z,h1,h2⟩:=all i hi;rw[Addr.Hf]at h1;obtain⟨c',tc',fz',hb',_,ho',rfl⟩:=QZ h1 (by omega);simp only at hb' ho';rw[hb]at hb';cases hb';refine⟨ho',?_⟩;have:=ih _ _ _ _ _ hs' h2;simpa [je,qo]using this
     obtain⟨l,hl1,hl2⟩:=XO (p:=fun i (x:s'.T)=>DC (FW W) s' x (((c.toList.map (M8 W.heap.size)).drop (ao+i*s'.sz)).take s'.sz)/\S7 s' x) len fun i hi=>(cell i (by omega)).2
     refine⟨l,?_,?_⟩
     ·simp only[DC];refine⟨.sl ab ao len cap 0,?_,.inr ⟨ab,ao,cap,0,_,by rw[hl1],by omega,hF,?_,.inl rfl,fun i hi=>(hl2 i hi).1⟩⟩
      ·have:(Value.slice (some ⟨ab,ao,none⟩) len cap)=.slice (some ⟨ab,ao,none⟩) len cap:=rfl;have hne:¬(len=0/\cap=0):=fun h=>h0 h.2
       cases cap with
       |zero=>exact wh rfl h0
       |succ cap=>simp[M8,hlt,hlc]
      ·rw[hl1];have:=(cell (cap-1) (by omega)).1;have h2:len*s'.sz<=cap*s'.sz:=Nat.mul_le_mul_right _ hlc;have h3:cap*s'.sz=(cap-1)*s'.sz+s'.sz:=by rw[<-Nat.succ_mul];congr 1;omega
       simp;omega
     ·simp only[S7];refine⟨by omega,fun x hx=>?_⟩;obtain⟨i,hi,rfl⟩:=List.mem_iff_getElem.1 hx;exact(hl2 i hi).2
  case h_5 fs hu=>
   split at hs
   case h_2=>cases hs
   rename_i s' hs';cases hc:qd (P.cellsOf t) s'.sz with
   |false=>rw[hc]at hs;cases hs
   |true=>
   rw[hc]at hs;cases hs;have hsz:=yi hc;obtain⟨xs,n,rfl,_,hlen,hxl,hf⟩:=DataW.trod_struct hu h;obtain⟨x,h1,h2⟩:=Q2 (cs:=cs) (fun t s cs y h1 h2=>ih n t s cs y h1 h2) fs.toList 0 _ hs' (fun f hfm=>by
    obtain⟨i,hi⟩:=List.mem_iff_getElem?.1 hfm;have hi':fs[i]?=some f:=by simpa using hi
    have:=hf i f hi';have hlt:=(z6.1 hi').1;rw[yc (by omega)]at this;exact⟨_,this⟩)
   refine⟨x,?_,h2⟩;rw[List.drop_zero,List.take_of_length_le (by simp;omega)]at h1;exact h1
  case h_6=>cases hs
theorem oP{k:Nat}{t:TypeId}{s:Sh}{v:Value}{d:DataW H}{p:List MemPlace}(hs:wY P k t=some s)(hp:s.P5=false)(hc:v.cells.toList=[v])(h:jg enc P W 0 (fun _=>true) true t v d p):
  ∃x:s.T,PC (FW W) (B8 s x) (M8 W.heap.size v)/\S7 s x/\Ab (pW W) (M8 W.heap.size v) v:=by
 obtain⟨fuel,hf⟩:=h;rw[hc]at hf;obtain⟨x,h1,h2⟩:=SC k fuel t s [v] (d,p) hs hf;simp only[yb,List.map_nil]at h1;exact⟨x,(PC.B8 h1).2 hp _ rfl,h2,RF (h1.ok _ (by simp))⟩
end
end Go.Pe
namespace Go.Pe
open Go.Det Go.RowKit
section
open Go.Proofs.Tryz (prog)
theorem cU{F':Fz}{v:V}(h:PC F' (.dat .bool true) v):v=.bool true:=by
 have:=h (fun _=>none) 0;simp only[PR,DC]at this;simpa using this
def GW(W:World):Prop:=∀x∈F4,Pm W x.1=some x.2
theorem GW.h{W:World}(h:GW W):Gh (hW W):=fun x hx=>by rw[PE];exact h x hx
theorem GW.p{W:World}(h:GW W):Gp (pW W):=fun x hx=>by
 have h1:=h x hx;unfold Pm at h1;split at h1
 case h_2=>cases h1
 rename_i c t fz hc;split at h1
 case isTrue=>cases h1
 have hlt:x.1<W.heap.size:=(z6.1 hc).1;have hs:KJ W x.1=c.size:=by unfold KJ;rw[hc]
 rw[Mj hlt,hs];cases hx2:x.2 with
 |cells cs t' fz'=>rw[hx2]at h1;cases h1;simp[osz]
 |_=>rw[hx2]at h1;cases h1
theorem NN{f:FuncId}{sp:Ao}(ok:Ag Bh f sp)(i:(Bz sp.ins).T)(hpre:sp.pre i=true){args:List V}{args':Array Value}{W:World}(hgw:GW W)(hP:LU (FW W) (Af sp.ins i) args)
  (ha:Aq (pW W) args args'.toList) (hres:∀F' v,PC F' (one (Af sp.outs (sp.f i))) v->v=.bool true) (hp:Bh.prim f=none:=by kernel_rfl):
  Calls prog f args' W fun e W'=>e=.returned (.bool true)/\Below W.heap.size W W':=by
 obtain⟨l,M,h1,_,h2⟩:=(ok.zero hp).run (FW W) (hW W) args i (fun b cs h=>by
  unfold FW at h;split at h
  case h_2=>cases h
  rename_i cs' t fz hg;cases h;exact⟨t,fz,hg⟩) (fun b o h=>(R_W W).lt h) hgw.h hP hpre
 refine((It tM Z2 S5 M).fn f args (hW W) l (h1 M (yy _)) (pW W) W args' (R_W W) hgw.p ha).mono ?_;rintro e w' ⟨v,h',v',p',hm,rfl,hv,hx⟩;obtain⟨_,_,_,F',_,_,_,hr⟩:=h2 _ hm;obtain rfl:=hres F' v hr;refine⟨?_,pX hx⟩;simp only[Ab]at hv;rw[hv]
end
end Go.Pe
namespace Go.Pe
open Go.Det Go.RowKit Go.ChangeShapes
def Qa(k:Nat):Value->V
 | .agg cs=>.agg (cs.toList.map (M8 k))
 |v=>M8 k v
def fC(P:Program)(k:Nat)(t:TypeId):Option Sh:=
 match wY P k t with
 |some s=>match P.underlying t with
  |some (.struct _)=>bif s.P5 then some s else none
  |some (.int _)|some .bool|some .string|some (.slice _)=>bif s.P5 then none else some s
  |_=>none
 |none=>none
def RM(P:Program)(k:Nat):List TypeId->Option (List Sh)
 |[]=>some []
 |t::ts=>match fC P k t,RM P k ts with
  |some s,some ss=>some (s::ss)
  |_,_=>none
def wfL:(l:List Sh)->(Bz l).T->Prop
 |[],_=>True
 |[a],x=>S7 a x
 |a::b::l,x=>S7 a x.1/\wfL (b::l) x.2
section
variable {H:Type}{enc:TypeId×Value->H}{P:Program}{W:World}{base:Nat}
theorem one_cell{t:TypeId}{v:Value}(ht:(∃k,P.underlying t=some (.int k))\/P.underlying t=some .bool\/P.underlying t=some .string\/∃e,P.underlying t=some (.slice e))(h:qc P W .any base t v):v.cells.toList=[v]/\∀cs,v≠ .agg cs:=by
 rcases ht with⟨k,ht⟩|ht|ht|⟨e,ht⟩<;>
 (simp only[qc,ht]at h
  unfold Cell.okWide at h;simp only[ht]at h;unfold Cell.ok at h;simp only[ht]at h;cases v<;>first|(exact⟨rfl,fun _ e=>by cases e⟩)|(exfalso;exact h))
theorem mN{k:Nat}{t:TypeId}{s:Sh}{v:Value}{d:DataW H}{p:List MemPlace}(hs:fC P k t=some s)(ho:qc P W .any base t v)(h:jg enc P W 0 (fun _=>true) true t v d p):
  ∃x:s.T,PC (FW W) (B8 s x) (Qa W.heap.size v)/\S7 s x/\Ab (pW W) (Qa W.heap.size v) v:=by
 unfold fC at hs;split at hs
 case h_2=>cases hs
 rename_i s' hs';have plain:((∃k,P.underlying t=some (.int k))\/P.underlying t=some .bool\/P.underlying t=some .string\/∃e,P.underlying t=some (.slice e))->(bif s'.P5 then none else some s')=some s->∃x:s.T,PC (FW W) (B8 s x) (Qa W.heap.size v)/\S7 s x/\Ab (pW W) (Qa W.heap.size v) v:=by
  intro ht hb;cases hp:s'.P5 with
  |true=>rw[hp]at hb;cases hb
  |false=>
   rw[hp]at hb;cases hb;obtain⟨h1,h2⟩:=one_cell ht ho;have e:Qa W.heap.size v=M8 W.heap.size v:=by
    unfold Qa;split
    ·rename_i cs;exact wh rfl (h2 cs)
    ·rfl
   rw[e];exact oP hs' hp h1 h
 split at hs
 case h_1=>
  rename_i fs hu;cases hp:s'.P5 with
  |false=>rw[hp]at hs;cases hs
  |true=>
   rw[hp]at hs;cases hs;simp only[qc,hu]at ho;obtain⟨cs,rfl,_,_⟩:=ho;obtain⟨fuel,hf⟩:=h;obtain⟨x,h1,h2⟩:=SC k fuel t s _ (d,p) hs' hf;refine⟨x,(PC.B8 h1).1 hp,h2,?_⟩;simp only[Qa,Ab];refine⟨cs,rfl,?_⟩;have hok:=h1.ok;have e:(Value.agg cs).cells.toList=cs.toList:=rfl;rw[e]at hok;generalize cs.toList=l at hok;induction l with
   |nil=>simp
   |cons a l ih=>
    simp only[yb,Bd];exact⟨RF (hok _ (by simp)),ih fun v hv=>hok v (by simp only[yb,zk];exact .inr hv)⟩
 case h_2=>rename_i k hu;exact plain (.inl ⟨k,hu⟩) hs
 case h_3=>rename_i hu;exact plain (.inr (.inl hu)) hs
 case h_4=>rename_i hu;exact plain (.inr (.inr (.inl hu))) hs
 case h_5=>rename_i e hu;exact plain (.inr (.inr (.inr ⟨e,hu⟩))) hs
 case h_6=>cases hs
theorem Mo:∀ {ts:List TypeId} {args:List Value} {ds:List (DataW H)} {p:List MemPlace},qh enc P W 0 (fun _=>true) true ts args ds p->ds.length=ts.length
 |[],_,_,_,h=>by obtain⟨_,rfl,_⟩:=trodAll_nil h;rfl
 |t::ts,_,_,_,h=>by
  obtain⟨v0,vs0,d0,ds0,p0,q0,rfl,rfl,rfl,h0,r0⟩:=trodAll_cons h;simp[Mo r0]
theorem yJ{α:Type}{l:List α}(h:l.length=3):∃a b c,l=[a,b,c]:=by
 match l,h with
 |[a,b,c],_=>exact⟨a,b,c,rfl⟩
theorem UB{k:Nat}:∀ {ts:List TypeId} {ss:List Sh} {args:List Value} {ds:List (DataW H)} {p:List MemPlace},RM P k ts=some ss->(∀(j:Nat) t v,ts[j]?=some t->args[j]?=some v->qc P W .any base t v)->
  qh enc P W 0 (fun _=>true) true ts args ds p->∃x:(Bz ss).T,LU (FW W) (Af ss x) (args.map (Qa W.heap.size))/\wfL ss x/\Aq (pW W) (args.map (Qa W.heap.size)) args
 |[],ss,args,ds,p,hs,_,h=>by
  cases hs;obtain⟨rfl,rfl,rfl⟩:=trodAll_nil h;exact⟨(),fun ρ N=>by simp[Af],trivial,by simp⟩
 |t::ts,ss,args,ds,p,hs,hv,h=>by
  unfold RM at hs;split at hs
  case h_2=>cases hs
  rename_i s ss' h1 h2;cases hs;obtain⟨v0,vs0,d0,ds0,p0,q0,rfl,rfl,rfl,h0,r0⟩:=trodAll_cons h;obtain⟨x,a1,a2,a3⟩:=mN h1 (hv 0 t v0 rfl rfl) h0;obtain⟨y,b1,b2,b3⟩:=UB h2 (fun j t v ht hv'=>hv (j+1) t v ht hv') r0;have hr:Aq (pW W) ((v0::vs0).map (Qa W.heap.size)) (v0::vs0):=by simp only[yb,Bd];exact⟨a3,b3⟩
  cases ss' with
  |nil=>exact⟨x,fun ρ N=>by
    have:=b1 ρ N;simp only[Af,B3]at this;simp only[yb,Af,this,A1,B3,wn];exact a1 ρ N,a2,hr⟩
  |cons s2 ss2=>exact⟨(x,y),fun ρ N=>by
    simp only[yb,Af,A1];exact⟨a1 ρ N,b1 ρ N⟩,⟨a2,b2⟩,hr⟩
end
theorem vB{n:Int}(h:S7 i64 n):Sp.CD n=true:=by
 have h: -9223372036854775808<=n/\n<=9223372036854775807:=h;exact C4 h.1 (by omega)
end Go.Pe
namespace Go.Sp
theorem G7{q:Rat}{k:Nat}(h:Dq k q)(hk:k<=600):(Az q).length<=1000000/\AF (Az q)=0/\BT (Az q)=true/\Jt (Az q)=true:=by
 have n:Nu k (Az q) q:=⟨rfl,h⟩;exact⟨n.len (by omega),n.check hk,n.num (by omega),n.Jt (by omega)⟩
theorem Hy.pS{a:List BB}(h:Hy a):JK a=Az (Dc a)/\HN a=0:=by
 unfold JK HN;rw[h.FT];exact Vt h.Gk (by decide)
theorem kH{a b:List BB}(ha:Hy a)(hb:Hy b)(h:Ht (CA a b)):JK (Ej (CA a b))=Az (Dc a+Dc b)/\HN (Ej (CA a b))=0:=by
 unfold JK HN;rw[h.FT,ZI ha hb];exact Vt (ha.Gk.add hb.Gk) (by decide)
theorem Ht.tC{W:WT}(h:Ht W)(n:Int):Qy (Ej W) n=Az (FL n (Ej W))/\QU (Ej W) n=0:=by
 unfold Qy QU;rw[h.FT];exact Vt (h.RX n) (by decide)
theorem pZ{p q:Rat}(h:p<=q):cG (Az p) (Az q)<=0:=by
 unfold cG;rw[BX,BX];split
 ·decide
 ·rw[wc (Rat.not_lt.2 h)];decide
end Go.Sp
namespace Go.Pe
open Sp
open Go.Det
abbrev ZW:Ao:=QN
theorem yN{x:(Bz QN.ins).T}(h:wfL QN.ins x):QN.pre x=true:=vB h.2.2
theorem eN:D3 zH:=Aa T58.ok (Aa T62.ok AO)
theorem T73.ok:Ag Bh 73 Wd:=by
 refine Cn eN (fun(i:List BB×Int×Int) hi=>?_);obtain⟨l,n,d⟩:=i;have hi:(decide (n=8)&&decide (d=6))=true:=hi;rw[zi,w5,w5]at hi;obtain⟨rfl,rfl⟩:=hi;have hq:∀(x:Bool) ob,x=Jy l 8 6->Ad Wd (l,8,6) (.bl x) ob:=fun x ob h=>jc rfl rfl h
 refine q9 (T73.Am l 8 6) (z7 (fun c=>zd rfl (z7 (fun k=>?_) (fun k=>zl (hq _ _ ?_)))) (fun c=>zl (hq _ _ ?_)))
 ·have w:Io l=true:=by
   obtain⟨s1,s2,s3⟩:=Jb (n:=8) (d:=6) k;have c:=w6 c;have h4:=SZ (d:=6) l fun c hc=>(s3 c hc).2
   unfold Io;rw[zi,zi,yh,w5,w5,w5,yo];exact⟨⟨by omega,fun c hc=>w4 (by have:=(s3 c hc).1;omega)⟩,by omega⟩
  refine zd w (zl (jc rfl rfl ?_));show(AJ l==0)=Jy l 8 6;unfold Jy;rw[c,k,y8,y8];cases h:decide (AJ l=0)with
  |true=>rw[w6 h];rfl
  |false=>exact beq_eq_false_iff_ne.2 (w7 h)
 ·unfold Jy;rw[k,qw,yx]
 ·unfold Jy;rw[c,yx,yx]
theorem bL:D3 S0:=Aa T73.ok (Aa bO (Aa T59.ok (Aa T60.ok (Aa T24.ok (Aa T27.ok (Aa T67.ok (Aa T62.ok (Aa T61.ok (Aa T30.ok AO)))))))))
namespace T15
variable {Q:PV->Ob->Prop}
open Sp in
theorem Ci{W:WT}(h:Ht W){n:Int}(h0: -999999999<=n)(h1:n<=999999999)(hq:∀ob,Q (.dat .bool true) ob):Ends S0 (L3 n (Ej W)) Q:=by
 have w:=h.Io;have hl:(Ej W).length=W.length:=by unfold Ej;rw[zt]
 have h2:0<W.length:=List.length_pos_iff.2 h.ne;have h3:=h.ln;have e1:zh .i64 (n+1)=n+1:=wr _ (by omega) (by omega);have e2:zh .i64 (((Ej W).length:Int)-1)=(((Ej W).length-1:Nat):Int):=by rw[wr _ (by omega) (by omega)];omega
 obtain⟨a1,a2⟩:=h.tC n;obtain⟨b1,b2⟩:=h.tC (n+1);obtain⟨t1,t2,t3,_⟩:=G7 (h.RX n) (by decide);obtain⟨u1,u2,_,u4⟩:=G7 (h.RX (n+1)) (by decide);have hm:=fB h.good.up h.ne;refine yj (CH ..) ?_;conv=>zeta
 rw[e1,e2,yf];generalize yk ((Ej W).getD ((Ej W).length-1) ((0:Int),[]))=m at hm;obtain⟨c1,c2⟩:=h.tC m;have c3:=h.Y9 hm;rw[c3]at c1;rw[a1,b1,c1,a2,b2,c2];exact zd w (zd w (zd (Ac (w4 (by omega)) (w4 (by omega))) (zd w (zd rfl (zd (w4 t1) (zd (by rw[t2];rfl) (zd (w4 u1) (zd (by rw[u2];rfl) (zd (Ac t3 u4) (zd (w4 (pZ (h.YR (by omega)))) (zd (by decide+kernel) (zd rfl (zl (hq _))))))))))))))
open Sp in
theorem Al{a b:List BB}(ha:Hy a)(hb:Hy b)(h:Dd a b=0)(n:Int)(hq:∀ob,Q (.dat .bool true) ob):Ends S0 (L1 n (JK a) (HN a) (JK b) (HN b) (Ej (CA a b)) (Ej (CA a b)) 0) Q:=by
 have s:=bG ha hb h;have w:=s.Io;have k:=s.FT;obtain⟨a1,a2⟩:=ha.pS;obtain⟨b1,b2⟩:=hb.pS;obtain⟨c1,c2⟩:=kH ha hb s;obtain⟨t1,t2,t3,_⟩:=G7 ha.Gk (by decide);obtain⟨u1,u2,u3,_⟩:=G7 hb.Gk (by decide);have hl:(Ej (CA a b)).length<=5000:=by unfold Ej;rw[zt];have:=s.ln;omega
 have e:(Az (Dc a+Dc b)==J9 (Az (Dc a)) (Az (Dc b)))=true:=by
  unfold J9;rw[BX,BX];exact beq_self_eq_true _
 have hs:bU (Ej (CA a b)) (Ej (CA a b))=true:=w4 rfl;refine yj (Ap ..) ?_;conv=>zeta
 rw[a1,b1,c1,a2,b2,c2];refine zd w (yv rfl (zd (w4 t1) (yv (by rw[t2];rfl) (zd (w4 u1) (yv (by rw[u2];rfl) (zd (Ac t3 u3) (yv (by rw[e];rfl) (zd (w4 hl) (yv (by rw[hs];rfl) (zd w (yv (by rw[k];rfl) (yj (AY ..) ?_))))))))))));have m:∀ {x:Int},-999999999<=Int.tmod x 999999999/\Int.tmod x 999999999<=999999999:=fun {x}=>by
  have h1:=Int.tmod_lt_of_pos x (show(0:Int)<999999999 by decide);have h2:=Int.lt_tmod_of_pos x (show(0:Int)<999999999 by decide);omega
 exact z7 (fun _=>zd rfl (Ci s m.1 m.2 hq)) (fun c=>z7 (fun _=>zd rfl (Ci s m.1 m.2 hq)) (fun d=>Ci s (by have:=w7 c;omega) (by have:=w7 d;omega) hq))
open Sp in
theorem ok:Ag Bh 15 QN:=by
 refine Cn bL (fun(i:List BB×List BB×Int) _=>?_);obtain⟨a,b,n⟩:=i;have hq:∀ob,Ad QN (a,b,n) (.dat .bool true) ob:=fun ob=>jc rfl rfl rfl
 refine q9 (Am a b n) (zd rfl (z7 (fun _=>zd rfl (zl (hq _))) (fun ha=>zd rfl (z7 (fun _=>zd rfl (zl (hq _))) (fun hb=>?_)))));have ha:Hy a:=eG (by simpa using ha);have hb:Hy b:=eG (by simpa using hb);have e1:EJ a b=Dd a b:=by unfold EJ;rw[ha.FT,hb.FT];rfl
 have e2:EJ b a=Dd a b:=by unfold EJ;rw[ha.FT,hb.FT,ZG ha hb];rfl
 refine zd ha.Io (zd hb.Io (zd (Ac ha.sh hb.sh) (zd (Ac hb.sh ha.sh) (z7 (fun c=>?_) (fun c=>?_)))))
 ·rw[ha.pS.2,hb.pS.2,e1,e2];rw[e1]at c;refine zd rfl (zd (beq_self_eq_true _) (z7 (fun _=>zd rfl (zl (hq _))) (fun k=>zd ?_ (zd rfl (zl (hq _))))));have c:Dd a b≠0:=by simpa using c
  have k:Dd a b≠4:=by simpa using k
  rcases Wc (CA a b)with x|x|x
  ·exact wh x c
  ·exact wh x k
  ·have x:Dd a b=5:=x;rw[x];rfl
 ·have c:EJ a b=0:=by simpa using c
  have c0:Dd a b=0:=by rw[<-e1];exact c
  have f1:IG a b=Ej (CA a b):=by unfold IG;rw[wc (by simpa using c)]
  have f2:IG b a=Ej (CA a b):=by unfold IG;rw[wc (by rw[e2];simpa using c0),Qw hb.good ha.good]
  rw[f1,f2,e2,c0];exact Al ha hb c0 n hq
end T15
end Go.Pe
namespace Go.Proofs.YtknhdhchejmpgaaGreatDoor
open Go
set_option maxRecDepth 100000
theorem seatTie1:Tryz.prog.laidByTextLater [("math/bits.deBruijn32tab",Rows.laid_math_bits_deBruijn32tab),("math/bits.deBruijn64tab",Rows.laid_math_bits_deBruijn64tab),("internal/strconv.uint64pow10",Rows.laid_internal_strconv_uint64pow10),("unicode/utf8.acceptRanges",Rows.laid_unicode_utf8_acceptRanges),("strconv.ErrRange",Rows.laid_strconv_ErrRange),("strconv.ErrSyntax",Rows.laid_strconv_ErrSyntax)] [.data,.data,.data,.data,.sentinel,.sentinel] true:=
 Program.laidByTextLater_by_one 72 8 65 (by kernel_rfl) (by kernel_rfl) (by kernel_rfl) (by kernel_rfl) (by kernel_rfl) (by kernel_rfl) (fun _ _=>by kernel_rfl)
theorem noOwnUnsafe:Tryz.pinned.checked.prog.headLifts.contains "ownunsafe"=false:=by kernel_rfl
theorem fits1:Tryz.pinned.checked.prog.listedFits Rows.cardSumsRow.laid=true:=by
 unfold Program.listedFits;rw[noOwnUnsafe];kernel_rfl
theorem cardSums_row_tie:Rows.cardSumsRow.laidByTextAt .later Tryz.pinned [.data,.data,.data,.data,.sentinel,.sentinel,.pinned] true:=by
 refine OpenClaim.laidByTextAt_pinned rfl rfl seatTie1 rfl rfl rfl rfl (fun y hy _e=>?_) fits1;simp only[Rows.cardSumsRow,List.zip_cons_cons,List.zip_nil_right,zk,List.mem_nil_iff,or_false]at hy;rcases hy with rfl|rfl|rfl|rfl|rfl|rfl|rfl
 ·cases _e
 ·cases _e
 ·cases _e
 ·cases _e
 ·cases _e
 ·cases _e
 ·exact⟨by kernel_rfl,by kernel_rfl⟩
end Go.Proofs.YtknhdhchejmpgaaGreatDoor
