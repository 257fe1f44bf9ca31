import Derived.Test.YtlohiljbghionaaGreatDoorX14
/- A part of a proof; no law is stated here. -/
noncomputable section
set_option maxRecDepth 10000
open Go.Pe.Ends renaming tt -> zc, leaf -> zg, ite -> zj, Ah -> zk, eq -> zp, ff -> zr
open Go.IntKind renaming wrap -> zd, i64 -> yb
open Go.Pe.Sh renaming str -> ze, list -> zf, pair -> zi, bool -> yj, int -> yy
open Bool renaming and_eq_true -> zh, true_and -> yq
open List renaming length_cons -> zl, getD_eq_getElem?_getD -> zo, length_append -> zt, length_eq_zero_iff -> zu, getElem?_eq_getElem -> zy, mem_cons_self -> yd, take_of_length_le -> yf, getElem?_eq_none -> yg, length_singleton -> yh, length_take -> yi, mem_of_mem_drop -> ym, length_map -> yo, length_drop -> yr
open Int renaming toNat_natCast -> zm, lt_of_lt_of_le -> yc, mul_ne_zero -> yn, tdiv_eq_ediv_of_dvd -> yt, natAbs_mul -> yx
open Go.Sp renaming first -> zn, rW -> zz, rN -> z7, isName -> ye, B9 -> yk, vR -> yz, De -> y7
open Go.Lib renaming decDigits -> zq
open Nat renaming le_refl -> zw, add -> z8, pow_le_pow_right -> ya, add_sub_cancel -> yp, beq_refl -> yu
open Go.Pe.Ad renaming of -> zx
open Rat renaming divInt -> z6, num_intCast -> yw
open Go.Pe.PV renaming agg -> yv
namespace Go.Sp
theorem VD:∀(f n l:Nat) (a:Z),(HV f n l a).length<=a.length+f
 |0,_,_,a=>zw _
 |f+1,n,l,a=>by
  unfold HV;split
  ·omega
  ·have:=VD f (n/10) l (UInt8.ofNat (48+n % 10)::a);rw[zl]at this;omega
theorem OS(n l:Int):(Il n l).length<=64:=by
 have:=VD 64 n.toNat l.toNat [];rw[List.length_nil,Nat.zero_add]at this;exact this
theorem U2{v:Int}{k:Nat}(h:v<(B9:Int)^k)(b:1<=k):(zq v.toNat).length<=9*k:=by
 rw[Xx]at h;have a:((10^(9*k):Nat):Int)=(10:Int)^(9*k):=Int.natCast_pow ..;rw[<-a]at h;refine EU (k:=9*k) ?_ ae;have hp:0<10^(9*k):=Nat.pow_pos af;generalize 10^(9*k)=P at*;omega
end Go.Sp
variable {Q:Go.Pe.PV->Go.Pe.Ob->Prop}
namespace Go.Pe
open Sp
open Go.Det
theorem Abs{s:Sh}(e:s.sz=1){id n:Nat}{tail:Ob}{fz:Bool}{t:TypeId}{o:List s.T}(b:n=o.length):Ew ⟨0,.leaf,(id,.arr fz t s o)::tail,0⟩ (.list s) (.sl id 1 0 n none)=some (true,o):=by
 subst b;have a:AP ((id,Obj.arr fz t s o)::tail) id=some (.arr fz t s o):=by unfold AP;rw[yu];rfl
 unfold Ew;have f:Dj ⟨0,.leaf,(id,.arr fz t s o)::tail,0⟩ (PV.cells<|.sl id 1 0 o.length none)=some (true,[.dat (.list s) o]):=by
  show(match BS ⟨0,.leaf,(id,.arr fz t s o)::tail,0⟩ (.sl id 1 0 o.length none),some (true,[])with|some (c,x),some (d,xs)=>some (c&&d,x::xs)|_,_=>none)=_;have:BS ⟨0,.leaf,(id,.arr fz t s o)::tail,0⟩ (.sl id 1 0 o.length none)=some (true,.dat (.list s) o):=by
   unfold BS AL.obj;simp only[a,e,yu,we];simp
  rw[this];rfl
 simp only[Mf,Sh.QU];show(match Dj ⟨0,.leaf,(id,.arr fz t s o)::tail,0⟩ (PV.cells<|.sl id 1 0 o.length none)with|some (c,cs)=>_|none=>none)=_;rw[f];have:Dn (.list s) [PV.dat (.list s) o]=some o:=by
  unfold Dn Cx sD DP;simp
 simp only[P4,this,yq]
theorem qZ{s:Sh}(b:s.sz=1){id n:Nat}{tail:Ob}{fz:Bool}{t:TypeId}{o:List s.T}(a:n=o.length):Ik [.list s] (.sl id 1 0 n none) ((id,.arr fz t s o)::tail)=some (true,o):=Abs b a
theorem Hy(a:List Int)(i:Nat):Ia a (i:Int)=a.getD i 0:=by unfold Ia;rw[zm]
theorem rT:Dg XR0:=fun g sp h=>by cases h
theorem T195.ok:Af A9 195 WI:=by
 refine BN rT<|fun(i:List Int×Int) hi=>?_;obtain⟨a,i⟩:=i;have h0:0<=i:=w6 hi;have b:∀v ob,v=Ia a i->Ad WI (a,i) (.dat i64 v) ob:=fun v ob h=>zx rfl rfl h
 refine zp (T195.Ak a i)<|zj (fun c=>zc (Ab (w4 h0) c)<|zg<|b _ _ rfl)<|fun c=>zg<|b _ _ ?_;have c:=w7 c;unfold Ia;rw[zo,yg ae];rfl
theorem YW:Dg Wl:=Aa T195.ok<|Aa T193.ok AI
theorem Rt{x y c:Int}(a:0<=x/\x<1000000000)(b:0<=y/\y<1000000000)(d:0<=c/\c<=1):
  zd .i64 (zd .i64 (x+y)+c)=x+y+c/\Int.tmod (x+y+c) 1000000000=(x+y+c) % 1000000000/\zd .i64 (Int.tdiv (x+y+c) 1000000000)=(x+y+c)/1000000000:=by
 refine⟨?_,Int.tmod_eq_emod_of_nonneg ae,?_⟩
 ·rw[wr (x+y) ae ae];exact wr _ ae ae
 ·rw[Int.tdiv_eq_ediv_of_nonneg ae];exact wr _ ae ae
theorem iE{a b:List Int}(h:pV a b=true):Ba a=true/\Ba b=true/\a.length<=9000/\b.length<=9000:=by
 unfold pV at h;rw[zh,zh,zh,w5,w5]at h;exact⟨h.1.1.1,h.1.1.2,h.1.2,h.2⟩
theorem lD{a b:List Int}(c:Ba a=true)(f:Ba b=true)(d:a.length<=9000)(e:b.length<=9000):pV a b=true:=by
 unfold pV;rw[c,f,w4 d,w4 e];rfl
namespace T156
theorem done(a b o:List Int)(i:Nat)(e:a.length<=i)(d:b.length<=i)(c:Q (.sl 0 1 0 o.length none) [(0,.arr false 3 (.int .i64) o)]):Ends Wl (L2 a b o.length 0 i o) Q:=
 zk (AJ ..) (zr (w8 ae)<|zr (w8 ae)<|zr af<|zg c)
theorem A0(a b:List Int)(g:Ba a=true)(f:Ba b=true)(y:a.length<=9000)(z:b.length<=9000)(v:Q (.sl 0 1 0 (QC a b).length none) [(0,.arr false 3 (.int .i64)<|QC a b)]):∀(k i:Nat) (o:List Int) (c:Int),i+k=max a.length b.length->Ge a b i o c->Ends Wl (L2 a b o.length c i o) Q:=by
 have d:∀(i:Nat) (o:List Int),a.length<=i->b.length<=i->Ge a b i o 0->Ends Wl (L2 a b o.length 0 i o) Q:=fun i o n e h=>by
  have:=h.fin n e;exact done a b o i n e (by rw[this];exact v)
 have next:∀(i:Nat) (o:List Int) (c:Int),i<=9000->Ge a b i o c->(i<a.length\/i<b.length\/0<c->Ends Wl (L2 a b (o++[(a.getD i 0+b.getD i 0+c) % 1000000000]).length ((a.getD i 0+b.getD i 0+c)/1000000000) ((i+1:Nat):Int)<|o++[(a.getD i 0+b.getD i 0+c) % 1000000000]) Q)->Ends Wl (L2 a b o.length c i o) Q:=fun i o c s h go=>by
  obtain⟨s1,s2,s3⟩:=Rt (By g i) (By f i) h.c01;have j:=wn (i:=i) ae;have x:=h.len;have cap:(decide ((1:Nat)<=(1:Nat))&&true&&decide (o.length=o.length)&&decide ((3*(o.length+1)+2000)*8<=562949953421312))=true:=by
   rw[w4<|zw 1,w4 (p:=o.length=o.length) rfl,Bool.and_true,yq];exact w4 ae
  have h0:decide ((0:Int)<=(i:Int))=true:=w4 ae;rw[zt]at go;by_cases l:(i:Int)<(a.length:Int)
  ·refine zk (AJ ..) ?_;conv=>zeta
   rw[Hy,Hy,s1,s2,s3,j];exact zc (w4 l) (zc h0<|zc h0<|zc rfl (zc cap<|zc rfl (go<|.inl ae)))
  ·by_cases r:(i:Int)<(b.length:Int)
   ·refine zk (AJ ..) ?_;conv=>zeta
    rw[Hy,Hy,s1,s2,s3,j];exact zr (w8 l) (zc (w4 r)<|zc h0 (zc h0<|zc rfl (zc cap<|zc rfl (go<|.inr<|.inl ae))))
   ·by_cases q:c>0
    ·refine zk (AJ ..) ?_;conv=>zeta
     rw[Hy,Hy,s1,s2,s3,j];exact zr (w8 l)<|zr (w8 r)<|zc (w4 q)<|zc h0<|zc h0<|zc rfl (zc cap<|zc rfl (go<|.inr<|.inr q))
    ·obtain rfl:c=0:=by have:=h.c01;omega
     exact d i o ae ae h
 intro k;induction k with
 |zero=>
  intro i o c s h;refine next i o c ae h (fun m=>?_);have e:=h.step g f m;have t:a.getD i 0=0:=by rw[zo,yg ae];rfl
  have z2:b.getD i 0=0:=by rw[zo,yg ae];rfl
  have w:=h.c01;have z3:(a.getD i 0+b.getD i 0+c)/1000000000=0:=by rw[t,z2];omega
  rw[z3]at e ⊢;exact d (i+1) _ ae ae e
 |succ k u=>
  intro i o c s h;exact next i o c ae h (fun m=>u (i+1) _ _ ae<|h.step g f m)
theorem ok:Af A9 156 WR:=by
 refine BN YW<|fun(i:List Int×List Int) hi=>?_;obtain⟨a,b⟩:=i;obtain⟨ha,hb,la,lb⟩:=iE hi;obtain⟨s1,s2,s3⟩:=Rt (By ha 0) (By hb 0) (c:=0) af;have h0:=Ge.start a b;have l:(0:Int)=((0:Nat):Int):=rfl;have go:(0<a.length\/0<b.length)->Ends Wl (L2 a b 1 ((a.getD 0 0+b.getD 0 0+0)/1000000000) ((1:Nat):Int) [(a.getD 0 0+b.getD 0 0+0) % 1000000000]) (Ad WR (a,b)):=fun k=>
  A0 a b ha hb la lb (zx (qZ rfl rfl) rfl rfl) (max a.length b.length-1) 1 _ _ ae (h0.step ha hb<|by rcases k with h|h<;>omega)
 refine zp (Ak a b)<|zk (Al ..) ?_;have g:Ia a 0=a.getD 0 0:=rfl;have j:Ia b 0=b.getD 0 0:=rfl;have f:zd .i64 ((0:Int)+1)=((1:Nat):Int):=rfl;rw[g,j,s1,s2,s3,f];refine zj (fun c=>?_)<|fun d=>zj (fun c=>?_)<|fun e=>zr rfl (zg<|zx (y:=[]) rfl rfl ?_)
 ·exact zc rfl (zc rfl (zc rfl (zc rfl (zc rfl (go<|.inl (by have:=w6 c;omega))))))
 ·exact zc rfl (zc rfl (zc rfl (zc rfl (zc rfl (go<|.inr (by have:=w6 c;omega))))))
 ·have d:=w7 d;have e:=w7 e;exact h0.fin ae ae
end T156
namespace T158
theorem Ha{x y c:Int}(a:0<=x/\x<1000000000)(b:0<=y/\y<1000000000)(d:0<=c/\c<=1):
  zd .i64 (zd .i64 (x-y)-c)=x-y-c/\zd .i64 (x-y-c+1000000000)=x-y-c+1000000000:=by
 refine⟨?_,wr _ ae ae⟩;rw[wr (x-y) ae ae];exact wr _ ae ae
theorem A0(a b:List Int)(g:Ba a=true)(f:Ba b=true)(m:a.length<=9000)(e:Au b<=Au a)(j:∀ob,Q (.dat li<|IS a b) ob):∀(k i:Nat) (o:List Int) (c:Int),i+k=a.length->GV a b i o c->Ends Wl (L2 a b o.length c i o) Q
 |0,i,o,c,l,h=>by
  have l:i=a.length:=ae
  subst l;have n:=h.len;refine zk (AJ ..) (zr (w8 ae) ?_);rw[yf<|zw _];refine zc (Ab (Ab (w4 ae) rfl)<|w4 ae)<|zg ?_;rw[h.fin f e];exact j _
 |k+1,i,o,c,l,h=>by
  obtain⟨s1,s2⟩:=Ha (By g i) (By f i) h.c01;have q:=wn (i:=i) ae;have n:=h.len;have cap:(decide ((1:Nat)<=(1:Nat))&&true&&decide (o.length=o.length)&&decide ((3*(o.length+1)+2000)*8<=562949953421312))=true:=by
   rw[w4<|zw 1,w4 (p:=o.length=o.length) rfl,Bool.and_true,yq];exact w4 ae
  refine zk (AJ ..) ?_;conv=>zeta
  rw[Hy,zm,s1,s2,q];refine zc (w4 ae) (zc (ad ae ae) (zc (w4 ae)<|zj (fun d=>zc cap ?_)<|fun d=>zc cap ?_))
  ·have:=A0 a b g f m e j k (i+1) _ _ ae<|h.step g f _ 1<|.inl ⟨w6 d,rfl,rfl⟩;rw[zt]at this;exact this
  ·have:=A0 a b g f m e j k (i+1) _ _ ae<|h.step g f _ 0<|.inr ⟨w7 d,rfl,rfl⟩;rw[zt]at this;exact this
theorem ok:Af A9 158 Xm:=by
 refine BN YW<|fun(i:List Int×List Int) e=>?_;obtain⟨a,b⟩:=i;have e:(pV a b&&decide (Au b<=Au a))=true:=e;rw[zh,w5]at e;obtain⟨e,hle⟩:=e;obtain⟨ha,hb,la,lb⟩:=iE e;have h0:=GV.start a b;have f:∀ob,Ad Xm (a,b) (.dat li<|IS a b) ob:=fun ob=>zx rfl rfl rfl
 refine zp (Ak a b)<|zk (Al ..) ?_;obtain⟨s1,s2⟩:=Ha (By ha 0) (By hb 0) (c:=0) af;have g:Ia b 0=b.getD 0 0:=rfl;have j:zd .i64 ((0:Int)+1)=((1:Nat):Int):=rfl;rw[g,show Int.toNat 0=0 from rfl,s1,s2,j];refine zj (fun c=>?_)<|fun c=>?_
 ·have k:=w6 c;refine zc (Ab rfl c)<|zc rfl (zj (fun d=>zc rfl ?_)<|fun d=>zc rfl ?_)
  ·exact A0 a b ha hb la hle f (a.length-1) 1 _ _ ae<|h0.step ha hb _ 1<|.inl ⟨w6 d,rfl,rfl⟩
  ·exact A0 a b ha hb la hle f (a.length-1) 1 _ _ ae<|h0.step ha hb _ 0<|.inr ⟨w7 d,rfl,rfl⟩
 ·have c:=w7 c;have h:a=[]:=zu.1 ae;subst h;refine zc rfl (zg ?_);rw[GV.fin h0 hb hle];exact f _
end T158
theorem T4:Dg XR2:=Aa T155.ok<|Aa T156.ok<|Aa T157.ok<|Aa T158.ok<|Aa T159.ok<|Aa T154.ok AI
theorem Lt{n:Int}{k:Nat}(h0:0<=n)(h:n<(yk:Int)^k):(B5 n).length<=k:=NO h0 h
theorem Lr{a:Bool×List Int}(h:CW a=true):0<=Au a.2/\Au a.2<(yk:Int)^3000:=by
 obtain⟨c,d,_⟩:=DI h;refine⟨(G3 h).2,yc (Bs (b:=yk) af (Bn c).2.1)<|AM af d⟩
theorem Xb{x y:Int}{k:Nat}(a:x<(yk:Int)^k)(c:y<(yk:Int)^k):x+y<(yk:Int)^(k+1):=by
 have:(yk:Int)^(k+1)=(yk:Int)^k*1000000000:=Int.pow_succ ..;have hp:=AR (b:=(yk:Int)) af k;rw[this];omega
theorem T94.ok:Af A9 94 mP:=by
 refine BN T4<|fun(i:(Bool×List Int)×(Bool×List Int)) f=>?_;obtain⟨a,b⟩:=i;have f:(CW a&&CW b)=true:=f;rw[zh]at f;obtain⟨ha,hb⟩:=f;obtain⟨a1,a2,_⟩:=DI ha;obtain⟨b1,b2,_⟩:=DI hb;obtain⟨va,wa⟩:=Lr ha;obtain⟨vb,wb⟩:=Lr hb;have pl:=lD a1 b1 ae ae;have g:=lD b1 a1 ae ae;refine zp (T94.Ak a b)<|zj (fun c=>?_)<|fun c=>zc (Ab a1 b1)<|zj (fun d=>?_)<|fun d=>?_
 ·have h:(QC a.2 b.2).length<=3001:=Lt ae<|Xb wa wb;exact zc pl (zc (w4 ae)<|zg<|zx rfl rfl (Z5 ha hb<|by simpa using c))
 ·have e:Au b.2<=Au a.2:=by
   have d:=w6 d;unfold Cg at d;split at d
   ·omega
   ·omega
  have h:(IS a.2 b.2).length<=3000:=Lt ae ae;exact zc (Ab pl<|w4 e) (zc (w4 ae)<|zg (zx rfl rfl (Zz hb (by simpa using c) e)))
 ·have e:Au a.2<=Au b.2:=by
   have d:=w7 d;unfold Cg at d;split at d
   ·omega
   ·split at d<;>omega
  have h:(IS b.2 a.2).length<=3000:=Lt ae ae;exact zc (Ab g<|w4 e) (zc (w4 ae)<|zg<|zx rfl rfl (tB ha (by simpa using c) e))
theorem T95.ok:Af A9 95 ZO:=by
 refine BN T4<|fun(i:(Bool×List Int)×(Bool×List Int)) c=>?_;obtain⟨a,b⟩:=i;have c:(CW a&&CW b)=true:=c;rw[zh]at c;obtain⟨ha,hb⟩:=c;obtain⟨a1,a2,_⟩:=DI ha;obtain⟨b1,b2,_⟩:=DI hb;obtain⟨va,wa⟩:=Lr ha;obtain⟨vb,wb⟩:=Lr hb;have d:Au a.2*Au b.2<(yk:Int)^(3000+3000):=by
  rw[Int.pow_add];have hp:(0:Int)<(yk:Int)^3000:=AR af 3000;exact Int.lt_of_le_of_lt (Int.mul_le_mul_of_nonneg_left (Int.le_of_lt wb) va)<|Int.mul_lt_mul_of_pos_right wa hp
 have e:=Lt (Int.mul_nonneg va vb) d;exact zp (T95.Ak a b) (zc (Ab (RH ae (Bn a1).2.1)<|RH ae (Bn b1).2.1) (zc (w4 ae)<|zg<|zx rfl rfl (gU ha hb)))
theorem T153.ok:Af A9 153 Zh:=by
 refine BN T4<|fun(a:Bool×List Int) b=>?_;have b:CW a=true:=b;have:=(DI b).2.1;exact zp (T153.Ak a) (zc (w4 ae)<|zg<|zx rfl rfl (iG b))
theorem pY:Dg XR3:=Aa T99.ok AI
namespace T96
theorem Aq(neg:Bool)(w:List Int)(f:Ba w=true)(j:w.length<=3000)(e:∀ob,Q (.dat .str (if neg=true then 45::zq (Au w).toNat else zq (Au w).toNat)) ob):∀(i:Nat),i<=w.length->0<Sp.val yk (w.drop i)->Ends XR3 (L1 (zq (Sp.val yk<|w.drop i).toNat) ((i:Int)-1) neg w) Q:=by
 have a:∀i,(zq (Sp.val yk<|w.drop i).toNat).length<=27000:=fun i=>by
  have h:=Bs (b:=yk) af<|E1 (Bn f).2.1 i;have m:(yk:Int)^(w.drop i).length<=(yk:Int)^3000:=AM af (by rw[yr];omega);exact U2 (k:=3000) (yc h m) af
 intro i;induction i with
 |zero=>
  intro _ _;have d:=a 0;rw[List.drop_zero]at d ⊢;have d:(zq (Au w).toNat).length<=27000:=d;refine zk (Al ..) (zr af (zj (fun c=>zc (w4<|by show 1+(zq (Au w).toNat).length<=_;omega)<|zg ?_)<|fun c=>zg ?_))
  ·rw[wd c]at e;exact e _
  ·rw[wc<|by rw[c];decide]at e;exact e _
 |succ i l=>
  intro p h0;have g:=By f i;have n:(((i+1:Nat):Int)-1)=(i:Int):=ae
  have d:=a<|i+1;have o:(Il (w.getD i 0) 9).length<=64:=by
   have:=OS (w.getD i 0) 9;exact this
  obtain⟨s1,s2⟩:=dJ f i h0;rw[n];refine zk (Al ..) ?_;conv=>zeta
  rw[zm,s1,wr ((i:Int)-1) ae ae];exact zc (w4 ae) (zc (ad ae ae)<|zc (Ab (Ab (Ab (w4 g.1)<|w4 ae) rfl) rfl) (zc (w4 ae)<|l ae s2))
theorem ok:Af A9 96 T8:=by
 refine BN pY<|fun(a:Bool×List Int) b=>?_;have b:CW a=true:=b;obtain⟨a1,a2,_⟩:=DI b;refine zp (Ak a)<|zj (fun c=>zg<|zx rfl rfl (mA ?_))<|fun c=>?_
 ·exact zu.1 (by have:(a.2.length:Int)=0:=(by simpa using c);omega)
 ·have c:(a.2.length:Int)≠0:=by simpa using c
  obtain⟨i,d⟩:∃i,a.2.length=i+1:=⟨a.2.length-1,by omega⟩;have g:=By a1 i;obtain⟨s1,s2⟩:=XH a1 d;have e:zd .i64 ((a.2.length:Int)-1)=(i:Int):=by rw[wr _ ae ae];omega
  have f:zd .i64 ((a.2.length:Int)-2)=(i:Int)-1:=by rw[wr _ ae ae];omega
  rw[e,f,zm,s1];refine zc (ad ae ae) (zc (Ab (Ab (Ab (w4 g.1)<|w4 ae) rfl) rfl)<|Aq a.1 a.2 a1 a2 (fun ob=>zx rfl rfl ?_) i ae s2);exact nO b (by intro h;rw[h]at d;cases d)
end T96
end Go.Pe
namespace Go.Sp
theorem gJ{a k m:Nat}(h:a<10^k)(b:k<=m):a<10^m:=Nat.lt_of_lt_of_le h (ya af b)
theorem gV{a b k:Nat}(c:a<10^k)(d:b<10^k):a+b<10^(k+1):=by rw[Nat.pow_succ];omega
theorem KK{n:Int}{k:Nat}(h:n.natAbs<10^k)(a:k<=27000):CW (rN n,rW n)=true:=Ua<|gJ (m:=27000) h a
theorem JM{m n:Int}(h:CW (rN n,rW n)=true)(a:m.natAbs<=n.natAbs):CW (rN m,rW m)=true:=by
 have:=AbN h;rw[Fl]at this;exact Ua<|Nat.lt_of_le_of_lt a this
theorem Mb{n:Int}(h:CG n=true):CW (rN n,rW n)=true:=by
 have h:=Go.Pe.Et h;exact KK (k:=20) (by have:10^20=100000000000000000000:=rfl;omega) af
theorem Uu{n:Int}(h:CW (rN n,rW n)=true):Ba (rW n)=true/\(rW n).length<=3000/\Ag n<(B9:Int)^3000:=by
 obtain⟨a,b,_⟩:=DI h;refine⟨a,b,?_⟩;have:=(Go.Pe.Lr h).2;rwa [show Au (rN n,rW n).2=Ag n from KN n]at this
theorem Ur{n:Int}(h:CW (rN n,rW n)=true):(AZ n).length<=27001:=by
 have a:=(Uu h).2.2;have b:=U2 a af;have e:(Ag n).toNat=n.natAbs:=by rw[Ai];omega
 rw[e]at b;unfold AZ Lib.itoa;split
 ·rw[zl];omega
 ·rw[show n.toNat=n.natAbs by omega];omega
theorem Pq(n:Int):GF (rN n,rW n)=AZ n:=by unfold GF;rw[Fl]
theorem XB{N D:Int}(a:0<D):Int.tdiv N (gI (Ag N) D)=(z6 N D).num/\Int.tdiv D (gI (Ag N) D)=((z6 N D).den:Int):=by
 have d:D.sign=1:=Int.sign_eq_one_of_pos a;have b:gI (Ag N) D=(Int.gcd N D:Int):=by rw[F8,Ai];rfl
 have c:(Int.gcd N D:Int)∣N:=Int.gcd_dvd_left ..;have e:(Int.gcd N D:Int)∣D:=Int.gcd_dvd_right ..;rw[b,yt c,yt e];refine⟨?_,(HC (N:=N) a).2.2.1▸?_⟩
 ·rw[Rat.num_divInt,d,Int.one_mul,Int.gcd_comm]
 ·rw[b]
theorem Rv(x y:Int):HG (rN x,rW x) (rN y,rW y)=rN (x*y):=by unfold HG;rw[Fl,Fl]
theorem RE(x y:Int):HF (rN x,rW x) (rN y,rW y)=rW (x*y):=by unfold HF;rw[Fl,Fl]
theorem iM(x y:Int):Nw (rN x,rW x) (rN y,rW y)=rN (x+y):=by unfold Nw;rw[Fl,Fl]
theorem gT(x y:Int):Nb (rN x,rW x) (rN y,rW y)=rW (x+y):=by unfold Nb;rw[Fl,Fl]
theorem O5(x y:Int):Ij (rN x,rW x) (rN y,rW y)=Dp x y:=by unfold Ij;rw[Fl,Fl]
theorem neg_num(x:Rat):(x.num<0↔x<0)/\(x.num>0↔0<x):=by
 rw[Rat.lt_iff,Rat.lt_iff];have:(0:Rat).num=0:=rfl;have a:((0:Rat).den:Int)=1:=rfl;rw[this,a];omega
theorem fK(p q:Rat):Mo (p-q).num=if p<q then -1 else if q<p then 1 else 0:=by
 obtain⟨a,d⟩:=neg_num<|p-q;have b:p-q<0↔p<q:=by rw[Rat.sub_lt_iff,Rat.zero_add]
 have c:0<p-q↔q<p:=(Rat.lt_iff_sub_pos q p).symm;unfold Mo;simp only[a,d,b,c]
end Go.Sp
namespace Go.Pe
open Sp
open Go.Det
theorem pX:Dg pU:=Aa T153.ok<|Aa T130.ok<|Aa T154.ok<|Aa T155.ok<|Aa T96.ok AI
namespace T93
theorem Dl(n d:Int)(c:CW (z7 n,zz n)=true)(a:CW (z7 d,zz d)=true)(b:0<=d)(g:∀ob,Q (.dat .str (AZ n++47::AZ d)) ob):Ends pU (L3 (B5 d)<|AZ n) Q:=by
 have l1:=Ur c;have j:=Ur a;have e:zz d=B5 d:=by unfold zz;rw[Ai,Int.natAbs_of_nonneg b]
 have i:=(Uu a).2.1;rw[e]at i;obtain⟨f,h⟩:=Jr b;have hp:(C1 false<|B5 d,Ax<|B5 d)=(z7 d,zz d):=Qb h ae (fun k=>(by cases k))<|fun _=>f.symm;refine zk (Ca ..) ?_;conv=>zeta
 rw[hp,Pq];refine zc (w4 ae) (zc (w4 ae)<|zc a<|zc (w4<|by rw[zt,yh];omega)<|zg ?_);rw[List.append_assoc];exact g _
theorem A0(n d:Int)(i:CW (z7 n,zz n)=true)(j:CW (z7 d,zz d)=true)(l:0<d)(a:d=1->∀ob,Q (.dat .str<|AZ n) ob)(k:d≠1->∀ob,Q (.dat .str (AZ n++47::AZ d)) ob):Ends pU (L2 (B5 d)<|AZ n) Q:=by
 have b:=qS (n:=d) ae;by_cases h:d=1
 ·rw[b.2 h];exact zk (AJ ..)<|zc rfl (zc rfl (zc rfl (zg<|a h _)))
 ·have f:=Dl n d i j ae<|k h;refine zk (AJ ..)<|zj (fun c=>zc ?_<|zj (fun e=>?_)<|fun _=>f)<|fun _=>f
  ·have c:((B5 d).length:Int)=1:=by simpa using c
   exact w4 ae
  ·exfalso;have c:((B5 d).length:Int)=1:=by simpa using c
   have e:(B5 d).getD 0 0=1:=by simpa using e
   refine h<|b.1 ?_;cases g:B5 d with
   |nil=>rw[g]at c;cases c
   |cons x r=>
    rw[g]at c e;have hr:r=[]:=zu.1 (by have:((r.length+1:Nat):Int)=1:=c;omega);have e:x=1:=e;rw[hr,e]
theorem Aq(N D:Int)(e:CW (z7 N,zz N)=true)(f:CW (z7 D,zz D)=true)(h0:0<D)(j:∀ob,Q (.dat .str<|Dp N D) ob):Ends pU (L1 (z7 D) (zz D) (z7 N)<|zz N) Q:=by
 obtain⟨n1,t,w⟩:=Uu e;obtain⟨d1,d2,d3⟩:=Uu f;obtain⟨g0,f1,f2,f3⟩:=HC (N:=N) h0;have a:Ag D=D:=by rw[Ai,Int.natAbs_of_nonneg<|Int.le_of_lt h0]
 have l:Cy (zz N) (zz D)=B5 (Sp.gI (Ag N) D):=by
  unfold Cy;rw[KN,KN,a]
 have s:Sp.gI (Ag N) D<=D:=by
  have q:Sp.gI (Ag N) D=(Int.gcd N D:Int):=by rw[F8,Ai];rfl
  rw[q];exact Int.le_of_dvd h0<|Int.gcd_dvd_right ..
 have fn:=fX h0 (neg:=z7 N) rfl;have o:(z6 N D).num.natAbs<=N.natAbs:=(Hg (n:=N) (d:=D) ae).1;have r:(z6 N D).den<=D.natAbs:=(Hg (n:=N) (d:=D) ae).2;have CP:=JM (m:=(z6 N D).num) e o;have c:=JM (m:=((z6 N D).den:Int)) f (by rw[Int.natAbs_natCast];exact r);have p:Ag (z6 N D).num<(yk:Int)^3000:=(Uu CP).2.2;have i:=Rj (N:=N) (D:=D);have v:=(z6 N D).den_pos;have a0:=N5 (z6 N D).num;rw[a]at d3;refine zk (Al ..) ?_;conv=>zeta
 rw[l,KN,KN,a];generalize Sp.gI (Ag N) D=g at*;have b:=Hk (n:=g) (k:=3000) ae ae af;rw[b.2.2.1,fn,f1,f2,Pq];have u:=Lt a0 p;refine zc (Ab (Ab (Ab n1 d1)<|w4 ae)<|w4 ae) (zc (Ab (Ab (Ab (Ab n1 b.1)<|w4 ae)<|w4 ae)<|w4 g0) (zc (Ab (Ab (Ab (Ab d1 b.1)<|w4 ae)<|w4 ae)<|w4 g0)<|zc (w4 ae)<|zc CP<|A0 _ _ CP c ae (fun h ob=>?_)<|fun h ob=>?_))
 ·have:=j ob;rw[i,wd ae]at this;exact this
 ·have:=j ob;rw[i,wc ae]at this;exact this
theorem ok:Af A9 93 MF:=by
 refine BN pX<|fun(i:(Bool×List Int)×(Bool×List Int)) g=>?_;obtain⟨a,b⟩:=i;have g:(CW a&&CW b&&decide (yz b≠0))=true:=g;rw[zh,zh,w5]at g;obtain⟨⟨ha,hb⟩,h0⟩:=g;have l:=zK ha;have k:=zK hb;have j:∀ob,Ad MF (a,b) (.dat .str<|Dp (yz a)<|yz b) ob:=fun ob=>zx rfl rfl rfl
 have d:=ha;have e:=hb;rw[l]at d;rw[k]at e;refine zp (Ak a b)<|zj (fun c=>zc ha<|zc hb ?_)<|fun c=>?_
 ·have h:yz b<0:=by
   have:=PJ hb;rw[c]at this;exact w6 this.symm
  have:=Aq (Q:=Ad MF (a,b)) (-yz a) (-yz b) (JM d<|by rw[Int.natAbs_neg];exact zw _) (JM e<|by rw[Int.natAbs_neg];exact zw _) ae (fun ob=>by rw[V9];exact j ob);exact this
 ·have f:0<yz b:=by
   have:=PJ hb;rw[c]at this;have:=w7 this.symm;omega
  have:=Aq (Q:=Ad MF (a,b)) (yz a) (yz b) d e f j;rw[<-PJ ha, <-AaR ha, <-PJ hb, <-AaR hb]at this;exact this
end T93
theorem rH:Dg eE:=Aa T97.ok<|Aa T93.ok<|Aa T98.ok<|Aa T99.ok AI
namespace T40
theorem UC{n:Int}(a: -9000000000000000000<=n)(b:n<=9000000000000000000):imax n (zd .i64<|0-n)=Ag n:=by
 rw[wr _ ae ae];unfold imax Ag;split<;>split<;>omega
theorem B0(n d:Int)(v:Z)(b:v=AZ n)(h:v.length<=27001)(i:0<d)(g:d<9000000000000000000)(a:d=1->∀ob,Q (.dat .str<|AZ n) ob)(f:d≠1->∀ob,Q (.dat .str (AZ n++47::AZ d)) ob):Ends eE (L4 d v) Q:=by
 have j:=OS d 1;have e:Il d 1=AZ d:=by
  rw[Px ae ae];unfold AZ Lib.itoa;rw[wc ae]
 refine zk (CD ..) (zj (fun c=>zc (w4 ae)<|zc (Ab (Ab (ad ae ae) rfl) rfl)<|zc (w4<|by rw[zt,yh];omega)<|zg ?_)<|fun c=>zg ?_)
 ·have c:=w6 c;rw[b,e,List.append_assoc];exact f ae _
 ·have c:=w7 c;rw[b];exact a ae _
theorem Dl(n d:Int)(n1: -9000000000000000000<n)(i:n<9000000000000000000)(h:0<d)(f:d<9000000000000000000)(a:d=1->∀ob,Q (.dat .str<|AZ n) ob)(g:d≠1->∀ob,Q (.dat .str (AZ n++47::AZ d)) ob):Ends eE (L3 n d) Q:=by
 have j:=OS (Ag n) 1;have k:=Ai n;have e:Il (Ag n) 1=zq n.natAbs:=by
  rw[Px ae ae];congr 1;omega
 have b:=bL n;refine zk (Ca ..) ?_;conv=>zeta
 rw[UC ae ae];have hr:(decide (0<=Ag n)&&decide (Ag n<9223372036854775808)&&decide ((0:Int)<=1)&&decide ((1:Int)<=20))=true:=Ab (Ab (ad ae ae) rfl) rfl;refine zj (fun c=>zc hr<|zc (w4 ae)<|B0 n d _ ?_ ?_ h f a g) (fun c=>zc hr<|zc (w4 ae)<|B0 n d _ ?_ ?_ h f a g)
 ·have c:=w6 c;rw[wd c]at b;rw[e];exact b.symm
 ·rw[zt,yh];omega
 ·have c:=w7 c;rw[wc c]at b;rw[e];exact b.symm
 ·rw[List.nil_append];omega
theorem A0(n d:Int)(n1: -9000000000000000000<n)(j:n<9000000000000000000)(e:0<d)(i:d<9000000000000000000)(b:∀ob,Q (.dat .str<|Dp n d) ob):Ends eE (L2 n d) Q:=by
 obtain⟨f,_⟩:=HC (N:=n) e;obtain⟨q1,q2⟩:=XB (N:=n) e;obtain⟨l1,l2⟩:=Hg (n:=n) (d:=d) ae;have k:=Ai n;have g:=(z6 n d).den_pos;have a:=Rj (N:=n) (D:=d);refine zk (AJ ..) ?_;conv=>zeta
 rw[UC ae ae,q1,q2,wr _ ae ae,wr _ ae ae];have c:decide (Sp.gI (Ag n) d≠0)=true:=w4 ae;refine zc (Ab (Ab (ad ae ae)<|w4 ae)<|w4 ae) (zc c<|zc c<|Dl _ _ ae ae ae ae (fun h ob=>?_)<|fun h ob=>?_)
 ·have:=b ob;rw[a,wd ae]at this;exact this
 ·have:=b ob;rw[a,wc ae]at this;exact this
theorem ok:Af A9 40 mU:=by
 refine BN rH<|fun(i:Int×Int) e=>?_;obtain⟨n,d⟩:=i;have e:(CG n&&CG d&&decide (d≠0))=true:=e;rw[zh,zh,w5]at e;obtain⟨⟨hn,hd⟩,h0⟩:=e;have b:∀ob,Ad mU (n,d) (.dat .str<|Dp n d) ob:=fun ob=>zx rfl rfl rfl
 have a:(CW (z7 n,zz n)&&CW (z7 d,zz d)&&decide (yz (z7 d,zz d)≠0))=true:=Ab (Ab (Mb hn)<|Mb hd) (by rw[Fl];exact w4 h0);refine zp (Ak n d) ?_;conv=>zeta
 rw[O5];refine zj (fun _=>zc hn<|zc hd<|zc a<|zg<|b _)<|fun f=>zj (fun _=>zc hn<|zc hd<|zc a<|zg<|b _)<|fun g=>zj (fun _=>zc hn<|zc hd<|zc a<|zg<|b _)<|fun h=>zj (fun _=>zc hn<|zc hd<|zc a<|zg<|b _)<|fun j=>?_;have f:=w7 f;have g:=w7 g;have h:=w7 h;have j:=w7 j;refine zk (Al ..)<|zj (fun c=>?_)<|fun c=>?_
 ·have c:=w6 c;rw[wr (0-n) ae ae,wr (0-d) ae ae,Int.zero_sub,Int.zero_sub];exact A0 (-n) (-d) ae ae ae ae (fun ob=>by rw[V9];exact b ob)
 ·have c:=w7 c;exact A0 n d ae ae ae ae b
end T40
namespace T91
theorem no3{Q:PV->Ob->Prop}(s:Z)(neg:Bool)(l:s.length<=20)(h:9<(AA s).length\/9<(Sp.AS s).length)(a:∀ob,Q (.tup [.dat i64 0,.dat i64 0,.bl false]) ob):Ends NN (L3 s neg) Q/\Ends NN (L4 s) Q:=by
 obtain⟨k,i,f⟩:=BQ s;have es:A3 s=((AA s).length:Int):=rfl;have g:=(T122.DB s).1;have d:9<(Sp.AS s).length->(s.length:Int)-(AA s).length>10:=fun h=>by
  cases e:Bq s with
  |true=>
   have j:=wi List.length (i e).2;rw[yr]at j;omega
  |false=>rw[(f e).2]at h;cases h
 refine⟨zk (Ca ..) (zc (w4 ae)<|zj (fun _=>zg<|a _)<|fun c=>?_),zk (CD ..)<|zc (w4 ae)<|zj (fun _=>zg<|a _)<|fun c=>?_⟩
 ·have c:=w7 c;rw[es]at c;have b:=d ae;refine zc ?_<|zg<|a _;rw[es,wr _ ae ae];exact w4 b
 ·have c:=w7 c;rw[es]at c;have b:=d ae;refine zc ?_<|zg<|a _;rw[es,wr _ ae ae];exact w4 b
theorem okG:Af A9 91 N4:=by
 refine BN rP<|fun(a:Z) ha=>?_;obtain⟨_,_,m,db⟩:=Qv ha;by_cases b:D4 a=true
 ·have e:∀n ob,n=Ja a->Ad N4 a (.tup [.dat i64 n,.dat i64<|if Bq (A2 a)=true then AE 0 (Sp.AS<|A2 a)else 1,.bl true]) ob:=fun n ob h=>zx rfl rfl (by
   show(n,_,true)=(fE a,VP a,D4 a);unfold fE VP;rw[wd b,wd b,b,h];rfl)
  unfold D4 at b;rw[zh,zh,w5,w5,w5]at b;obtain⟨⟨f,k⟩,o⟩:=b;clear ha;refine zp (Ak a) (zr (by simp;omega) ?_);cases a with
  |nil=>exact zr rfl (zk (AJ ..)<|B0 [] f k o m db<|fun n ob h=>e n ob<|by rw[h];rfl)
  |cons c r=>
   have g:(c::r).getD 0 0=c:=rfl;rw[g];refine zc (by simp) (zc (by simp) (zk (Al ..)<|zj (fun d=>zc (by simp) ?_)<|fun d=>?_))
   ·have i:c=45:=by
     have:(c.toNat:Int)=45:=by simpa using d
     exact UInt8.toNat_inj.1 (by show _=45;omega)
    have j:A2 (c::r)=r:=by unfold A2;rw[g,wd i];rfl
    have q:Sp.preB (c::r)=true:=by unfold Sp.preB;rw[g];exact w4 i
    have p:List.take (Nat.sub (c::r).length 1) (List.drop 1 (c::r))=r:=yf<|zw _;unfold Ja at e;rw[j]at k o m db e;rw[q]at e;rw[p,d];exact Dl r true (by rw[zl]at f;omega) k o m db (fun n ob h=>e _ ob (by rw[h];try rfl))
   ·have i:c≠45:=by rintro rfl;exact wh d af
    have j:A2 (c::r)=c::r:=by unfold A2;rw[g,wc i]
    have q:Sp.preB (c::r)=false:=by unfold Sp.preB;rw[g];exact w8 i
    unfold Ja at e;rw[j]at k o m db e;rw[q]at e;rw[d];exact Dl (c::r) false f k o m db (fun n ob h=>e _ ob (by rw[h];try rfl))
 ·have t:D4 a=false:=by simpa using b
  have e:∀ob,Ad N4 a (.tup [.dat i64 0,.dat i64 0,.bl false]) ob:=fun ob=>zx rfl rfl (by
   show((0:Int),(0:Int),false)=(fE a,VP a,D4 a);unfold fE VP;rw[wc b,wc b,t])
  refine zp (Ak a)<|zj (fun _=>zg<|e _)<|fun f=>?_;have f:a.length<=20:=by have:=w7 f;omega
  have l:9<(AA<|A2 a).length\/9<(Sp.AS<|A2 a).length:=by
   by_cases s:(AA<|A2 a).length<=9
   ·by_cases u:(Sp.AS<|A2 a).length<=9
    ·exact wh (by unfold D4;rw[w4 f,w4 s,w4 u];rfl) b
    ·exact .inr ae
   ·exact .inl ae
  cases a with
  |nil=>exact zr rfl (zk (AJ ..) (no3 [] false f l e).2)
  |cons c r=>
   have g:(c::r).getD 0 0=c:=rfl;rw[g];refine zc (by simp) (zc (by simp)<|zk (Al ..)<|zj (fun d=>zc (by simp) ?_)<|fun d=>?_)
   ·have i:c=45:=by
     have:(c.toNat:Int)=45:=by simpa using d
     exact UInt8.toNat_inj.1 (by show _=45;omega)
    have j:A2 (c::r)=r:=by unfold A2;rw[g,wd i];rfl
    have p:List.take (Nat.sub (c::r).length 1) (List.drop 1 (c::r))=r:=yf<|zw _;rw[j]at l;rw[p];exact(no3 r _ (by rw[zl]at f;omega) l e).1
   ·have i:c≠45:=by rintro rfl;exact wh d af
    have j:A2 (c::r)=c::r:=by unfold A2;rw[g,wc i]
    rw[j]at l;exact(no3 (c::r) _ f l e).1
end T91
theorem Tn:Dg zI:=Aa T91.okG<|Aa T40.ok<|Aa (T92.ok)<|Aa T94.ok<|Aa T95.ok<|Aa T93.ok AI
theorem Wd{x y:Int}(a: -1000000000<x)(d:x<1000000000)(b: -1000000000<y)(c:y<1000000000): -1000000000000000000<=x*y/\x*y<=1000000000000000000:=by
 have h:(x*y).natAbs<=1000000000*1000000000:=by
  rw[yx];exact Nat.mul_le_mul ae ae
 omega
theorem T33.ok:Af A9 33 VL:=by
 refine BN Tn<|fun(i:Z×Z) d=>?_;obtain⟨a,b⟩:=i;have d:(B4 a&&B4 b)=true:=d;rw[zh]at d;obtain⟨ha,hb⟩:=d;obtain⟨a1,a2,a3,a4,a5,a6,a7,a8,a9⟩:=EK ha;obtain⟨b1,b2,b3,b4,b5,b6,b7,b8,b9⟩:=EK hb;have ad:=(Az a).den_pos;have H:=(Az b).den_pos;have eq:=(bG ha hb).2;have o:∀ob,Ad VL (a,b) (.dat .str<|Dp (Bc a*AN b+Bc b*AN a)<|AN a*AN b) ob:=fun ob=>zx rfl rfl eq.symm
 have c:Ends zI (T33.L1 a b) (Ad VL (a,b)):=by
  have r:BZ a=z7 (Bc a):=rfl;have m:BO a=zz (Bc a):=rfl;have j:BD a=z7 (AN a):=rfl;have p:Bt a=zz (AN a):=rfl;have g:BZ b=z7 (Bc b):=rfl;have q:BO b=zz (Bc b):=rfl;have l:BD b=z7 (AN b):=rfl;have h:Bt b=zz (AN b):=rfl;rw[r,m]at a1;rw[j,p]at a3;rw[g,q]at b1;rw[l,h]at b3;refine zk (T33.Al ..) ?_;conv=>zeta
  simp only[r,m,j,p,g,q,l,h,Rv,RE,iM,gT,O5,Fl];have f:=DO a8 b9;have e:=DO b8 a9;have s:=DO a9 b9;rw[<-yx]at f e s;have z:=Nat.lt_of_le_of_lt (Int.natAbs_add_le (Bc a*AN b)<|Bc b*AN a)<|gV (k:=4000+4000) f e;have C:=KK f af;have E:=KK e af;have x:=KK s af;have t:=KK z af;have F:AN a*AN b≠0:=yn ae ae;exact zc a7<|zc b7<|zc (Ab a1 b3)<|zc (Ab b1 a3)<|zc (Ab C E)<|zc (Ab a3 b3)<|zc (Ab (Ab t x)<|w4 F)<|zg<|o _
 refine zp (T33.Ak a b)<|zc ha<|zc hb<|zj (fun B=>zj (fun D=>?_)<|fun _=>c)<|fun _=>c;obtain⟨v,A,w,u,I,n⟩:=Gw ha B;obtain⟨y1,y2,y3,y4,y5,y6⟩:=Gw hb D;have G:=Wd w u ae y6;have K:=Wd y3 y4 ae n;have J:=Wd ae n ae y6;have y:AN a*AN b≠0:=yn ae ae;rw[v,A,y1,y2,wr (Bc a*AN b) ae ae,wr (Bc b*AN a) ae ae,wr (Bc a*AN b+Bc b*AN a) ae ae,wr (AN a*AN b) ae ae];exact zc (Ab (Ab (DZ ae ae)<|DZ ae ae)<|w4 y)<|zg<|o _
theorem T34.ok:Af A9 34 UJ:=by
 refine BN Tn<|fun(i:Z×Z) d=>?_;obtain⟨a,b⟩:=i;have d:(B4 a&&B4 b)=true:=d;rw[zh]at d;obtain⟨ha,hb⟩:=d;obtain⟨a1,a2,a3,a4,a5,a6,a7,a8,a9⟩:=EK ha;obtain⟨b1,b2,b3,b4,b5,b6,b7,b8,b9⟩:=EK hb;have ad:=(Az a).den_pos;have C:=(Az b).den_pos;have k:∀ob,Ad UJ (a,b) (.dat .str<|Dp (Bc a*Bc b)<|AN a*AN b) ob:=fun ob=>zx rfl rfl (bR).symm
 have c:Ends zI (T34.L1 a b) (Ad UJ (a,b)):=by
  have n:BZ a=z7 (Bc a):=rfl;have j:BO a=zz (Bc a):=rfl;have g:BD a=z7 (AN a):=rfl;have l:Bt a=zz (AN a):=rfl;have e:BZ b=z7 (Bc b):=rfl;have m:BO b=zz (Bc b):=rfl;have h:BD b=z7 (AN b):=rfl;have f:Bt b=zz (AN b):=rfl;rw[n,j]at a1;rw[g,l]at a3;rw[e,m]at b1;rw[h,f]at b3;refine zk (T34.Al ..) ?_;conv=>zeta
  simp only[n,j,g,l,e,m,h,f,Rv,RE,O5,Fl];have p:=DO a8 b8;have o:=DO a9 b9;rw[<-yx]at p o;have y:=KK p af;have t:=KK o af;have A:AN a*AN b≠0:=yn ae ae;exact zc a7<|zc b7<|zc (Ab a1 b1)<|zc (Ab a3 b3)<|zc (Ab (Ab y t)<|w4 A)<|zg<|k _
 refine zp (T34.Ak a b)<|zc ha<|zc hb<|zj (fun x=>zj (fun z=>?_)<|fun _=>c)<|fun _=>c;obtain⟨r,w,s,q,D,u⟩:=Gw ha x;obtain⟨y1,y2,y3,y4,y5,y6⟩:=Gw hb z;have B:=Wd s q y3 y4;have E:=Wd ae u ae y6;have v:AN a*AN b≠0:=yn ae ae;rw[r,w,y1,y2,wr _ ae ae,wr (AN a*AN b) ae ae];exact zc (Ab (Ab (DZ ae ae)<|DZ ae ae)<|w4 v)<|zg<|k _
theorem T147.ok:Af A9 147 yU:=by
 refine BN Tn<|fun(a:Z) hi=>?_;obtain⟨b,h0⟩:=Abo hi;obtain⟨a1,a2,a3,a4,a5,a6,a7,a8,a9⟩:=EK (N6 b).1;refine zp (T147.Ak a)<|zc a7<|zc (Ab (Ab a3 a1) ?_)<|zg<|zx rfl rfl ?_
 ·rw[a2];exact w4 fun e=>h0 (Rat.num_eq_zero.mp (by rw[a5,e]))
 ·show Ij _ _=qJ a;unfold Ij;rw[a2,a4];exact Z4.symm
theorem rF:Dg XR7:=Aa T147.ok<|Aa T34.ok<|Aa T33.ok<|Aa T84.ok AI
theorem oL{s:Z}(h:EE s=true):B4 (Lm s)=true/\Az (Lm s)= -Az s:=by
 obtain⟨a,c⟩:=N6 h;obtain⟨t,_⟩:=JB a;have e:Lm s=A6 (-Az s):=by
  have:=kP<|Az s;rwa [t]at this
 have r:Az (Lm s)= -Az s:=by rw[e,FU]
 refine⟨?_,r⟩;have b:(Lm s).length<=4000:=by
  unfold Lm;split
  ·omega
  ·split
   ·rw[yr];omega
   ·rw[zl];omega
 unfold B4;rw[r, <-e,w4 rfl,w4 b];rfl
theorem T37.ok:Af A9 37 fW:=by
 refine BN rF<|fun(i:Z×Z) c=>?_;obtain⟨a,b⟩:=i;have c:(B4 a&&EE b)=true:=c;rw[zh]at c;obtain⟨ha,hb⟩:=c;obtain⟨n1,n2⟩:=oL hb;have d:=(N6 hb).2;refine zp (T37.Ak a b) (zc (w4 ae)<|zc (Ab ha n1)<|zg<|zx rfl rfl ?_);show FJ a (Lm b)=LB a b;unfold FJ LB;rw[n2,Rat.sub_eq_add_neg]
theorem wN:Dg XR8:=Aa T37.ok<|Aa T38.ok<|Aa T128.ok<|Aa T144.ok<|Aa T145.ok<|Aa T146.ok AI
theorem T36.ok:Af A9 36 Wg:=by
 refine BN wN<|fun(i:Z×Z) d=>?_;obtain⟨a,b⟩:=i;have d:(B4 a&&EE b)=true:=d;have c:=d;rw[zh]at c;obtain⟨ha,hb⟩:=c;have z:=(Tp ha).sub<|Tp (N6 hb).1;refine zp (T36.Ak a b) (zc d (zc (w4<|Vo z af)<|zg<|zx rfl rfl ?_));show Ey (LB a b)=E0 a b;unfold LB;rw[Ju,fK];rfl
theorem aM{f:Aj}{q:Rat}(h:EX f q){k:Nat}(z:Gm k q)(d:k<=4000):Bb (El f.1 f.2)=true/\Sp.vI (El f.1 f.2)=q.floor:=by
 have s:=P6 z d;have b:=h.den_pos;have c:=Yl h.n (by rw[h.vn];exact yc s.1<|AM af af);have a:Sp.vI (El f.1 f.2)=q.floor:=by rw[lL b,h.vn,h.vd,Rat.floor_def]
 refine⟨Yl (Te c b) ?_,a⟩;have e:=(nD z).1;rw[yw]at e;rw[a];exact yc (Tm e) (AM af ae)
end Go.Pe
namespace Go.Sp
theorem oK(q:Rat):aX (A6 q)=max (zq q.num.natAbs).length (zq q.den).length:=by
 unfold aX;rw[(Hq q).1,(Ea q.num).2.1,oG]
theorem Aap{s:Z}(h:Am s=0):Nu (aX s) s (Az s):=by
 obtain⟨n,_⟩:=CO h;have e:=(JB n).1;have a:=oK<|Az s;rw[e]at a;exact⟨e.symm,Cd _ (by rw[a];exact Nat.le_max_left ..),Cd _<|by rw[a];exact Nat.le_max_right ..⟩
theorem Bk(x:Int)(l:List Int):first (x::l)=if x≠0 then x else first l:=by
 by_cases h:x=0
 ·subst h;rw[wc (by simp),first];rfl
 ·rw[wd h,first];simp[h]
theorem ET(b:Bool)(e:Int):Cs b e=if b=true then e else 0:=by cases b<;>rfl
theorem Dh{α:Type}{l r:List α}{x:α}{i:Nat}(h:l.drop i=x::r):l.take (i+1)=l.take i++[x]:=by
 have a:i<l.length:=by
  rcases Nat.lt_or_ge i l.length with b|b
  ·exact b
  ·rw[List.drop_eq_nil_of_le b]at h;cases h
 have c:=List.drop_eq_getElem_cons a;rw[h]at c;simp only[List.cons.injEq]at c;rw[List.take_add_one,zy a,c.1];rfl
end Go.Sp
namespace Go.Pe
open Sp
open Go.Det
section
open List Int Prod
namespace T123
def T(l:List BB):Tr:=tree XT1 false 9 123<|Ae ([zf CS]) l
def L1(c:List BB)(b a:Int):Tr:=re ((T []).L.L.L.R)<|Av 66 [(5,.nil),(23,.dat (zf CS) c),(24,.dat i64 b),(25,.dat i64 a)] [] 0
theorem Ak(l:List BB):T l=let a:=(length l:Int);.ck true (.ck true<|.ck (decide (2<=2)&&true&&decide (2<=1000000))<|.ite (zn [Cs (a==0) 12,Cs (decide (a>64)) 5] !=0) (.leaf (.tup [.nil,.dat i64<|zn [Cs (a==0) 12,Cs (decide (a>64)) 5]]) [])<|L1 l a 0):=by kernel_rfl
def L2(a:Nat)(b:List BB)(d c:Int)(e:List (Aj×Aj)):Tr:=re ((stepT XT1<|L1 [] 0 0).L.L.L.R.L.L.R.L)<|Av 66 [(5,.sl 0 8 0 a none),(23,.dat (zf CS) b),(24,.dat i64 d),(25,.dat i64 c)] [(0,.arr false 209 (zi AB AB) e)] 1
theorem Al(c:List BB)(d a:Int):stepT XT1 (L1 c d a)=let b:=getD c (toNat a) ([],[]);.di (a<d) (.ck (decide (0<=a)&&decide (a<(length c:Int)))<|.ck (decide (2<=2)&&true&&(decide (2<=1000)&&List.all [fst b,snd b] fun s=>decide (length s<=1000000)))<|.ite (Cw [fst b,snd b] !=0) (.leaf (.tup [.nil,.dat i64<|Cw [fst b,snd b]]) [])<|.ck (EB<|fst b)<|.ck (EB<|snd b)<|.di (a>0) .fail<|.ck (aa 128)<|L2 1 c d (zd .i64<|a+1)<|[((E8<|fst b),(VQ<|snd b,Vx<|snd b),TT<|snd b,Sv<|snd b)]) (.leaf (.tup [.nil,.dat i64 (0:Int)]) []):=by kernel_rfl
theorem AJ(b:Nat)(d:List BB)(e a:Int)(f:List (Aj×Aj)):stepT XT1 (L2 b d e a f)=let c:=getD d (toNat a) ([],[]);let i:=zd .i64<|a-1;let b':=fst<|getD f (toNat i) (((0,[]),0,[]),(0,[]),0,[]);let g:=E8<|fst c;let h:Tr:=.ck (ac b (length f) 128)<|L2 (z8 b 1) d e (zd .i64<|a+1)<|f++[(g,(VQ<|snd c,Vx<|snd c),TT<|snd c,Sv<|snd c)];let j:=((fst b'),fst<|snd b',snd<|snd b');.di (a<e) (.ck (decide (0<=a)&&decide (a<(length d:Int)))<|.ck (decide (2<=2)&&true&&(decide (2<=1000)&&List.all [fst c,snd c] fun s=>decide (length s<=1000000)))<|.ite (Cw [fst c,snd c] !=0) (.leaf (.tup [.nil,.dat i64<|Cw [fst c,snd c]]) [])<|.ck (EB<|fst c)<|.ck (EB<|snd c)<|.di (a>0) (.ck (decide (0<=zd .i64 (a-1))&&decide (zd .i64 (a-1)<(↑b:Int)))<|.cd (toNat i<length f)<|.ck (y7 g&&y7 j)<|.di (FN g j<=0) (.leaf (.tup [.nil,.dat i64 (11:Int)]) []) h) h) (.leaf (.tup [.sl 0 8 0 b none,.dat i64 (0:Int)])<|[(0,.arr false 209 (zi AB AB) f)]):=by kernel_rfl
end T123
namespace T54
def T(l:List BB):Tr:=tree XT2 false 9 54<|Ae ([zf CS]) l
theorem Ak(l:List BB):T l=.ck (decide (length l<=1000)&&JP 1000000 l) (.leaf (.dat i64<|BV l) []):=by kernel_rfl
end T54
namespace T60
def T(l:List BB):Tr:=tree XT4 false 9 60<|Ae ([zf CS]) l
def L1(v0:List BB)(v3:Int):Tr:=re ((T []).R.R)<|Av 55 [(0,.dat (zf CS) v0),(3,.dat i64 v3)] [] 0
theorem Ak(l:List BB):T l=.ite ((length l:Int)==0) (.leaf (.dat i64 (12:Int)) []) (.di ((length l:Int)>64) (.leaf (.dat i64 (5:Int)) [])<|L1 l 0):=by kernel_rfl
theorem Al(v0:List BB)(v3:Int):stepT XT4 (L1 v0 v3)=let a:=getD v0 (toNat v3) ([],[]);let b':=L1 v0<|zd .i64<|v3+1;let g:=fst<|getD v0 (toNat<|zd .i64<|v3-1) ([],[]);let c:=(length v0:Int);let d:Tr:=.ite (Am (snd a) !=0) (.leaf (.dat i64<|Am<|snd a) []) b';let e:Tr:=.ite (Am (fst a) !=0) (.leaf (.dat i64<|Am<|fst a) []) b';let b:=decide (0<=v3)&&decide (v3<c);let f:=decide (0<=zd .i64 (v3-1))&&decide (zd .i64 (v3-1)<c);let h':Tr:=.ite true (.leaf (.dat i64 (11:Int)) []) b';let h:=decide (E0 g (fst a)>=0);let i:=B4 g&&EE (fst a);.di (v3<c) (.ck b<|.cd (length (fst a)<=1000000)<|.ite (Am (fst a)==0) (.ck b<|.cd (length (snd a)<=1000000)<|.ite (Am (snd a)==0) (.di (v3>0) (.ck f<|.ck b<|.ck i<|.ite h h' d) d) d)<|.ite (Am (fst a)==0) (.di (v3>0) (.ck f<|.ck b<|.ck i<|.ite h h' e) e) e) (.leaf (.dat i64 (0:Int)) []):=by kernel_rfl
end T60
end
end Go.Pe
namespace Go.Sp
theorem R9{k:Nat}{t:List BB}(h:JP k t=true):∀p∈t,p.1.length<=k/\p.2.length<=k:=by
 unfold JP at h;rw[List.all_eq_true]at h;intro p hp;have:=h p hp;rw[zh,w5,w5]at this;exact this
theorem Wb(a b:Z):E0 a b<=0↔0<=E0 b a:=by
 unfold E0;rw[iP (Az a)<|Az b];omega
theorem PX(a b:Z):E0 a b<=0↔¬Az b<Az a:=by
 unfold E0;by_cases h:Az a<Az b
 ·rw[wd h];exact⟨fun _=>Rat.not_lt.2<|Rat.le_of_lt h,fun _=>by decide⟩
 ·rw[wc h];by_cases k:Az b<Az a
  ·rw[wd k];exact⟨fun x=>wh x af,fun x=>wh k x⟩
  ·rw[wc k];exact⟨fun _=>k,fun _=>by decide⟩
def Qj(t:List BB)(i:Nat):Option BB:=if i=0 then none else some<|t.getD (i-1) ([],[])
theorem FT(p:BB)(l:List BB):Ej none (p::l)=if NA p.1 p.2≠0 then NA p.1 p.2 else Ej (some p) l:=by
 rw[Ej]
theorem Hl(q p:BB)(l:List BB):Ej (some q) (p::l)=if NA p.1 p.2≠0 then NA p.1 p.2 else if E0 p.1 q.1<=0 then 11 else Ej (some p) l:=by
 rw[Ej]
theorem Wi(o:Option BB):Ej o []=0:=by rw[Ej]
theorem WQ{t:List BB}{i:Nat}{p:BB}(h:t.getD i ([],[])=p):Qj t (i+1)=some p:=by
 unfold Qj;rw[wc ae,yp,h]
end Go.Sp
namespace Go.Pe
open Sp
open Go.Det
theorem iH{s:Sh}{sz:Nat}(f:s.sz=sz){id n:Nat}{tail:Ob}{fz:Bool}{t:TypeId}{o:List s.T}{e:Int}(b:n=o.length):Ik [.list s,i64] (.tup [.sl id sz 0 n none,.dat i64 e]) ((id,.arr fz t s o)::tail)=some (true,(o,e)):=by
 subst b f;have a:AP ((id,Obj.arr fz t s o)::tail) id=some (.arr fz t s o):=by unfold AP;rw[yu];rfl
 have h0:Ew ⟨0,.leaf,(id,.arr fz t s o)::tail,0⟩ (.list s) (.sl id s.sz 0 o.length none)=some (true,o):=by
  unfold Ew;have g:Dj ⟨0,.leaf,(id,.arr fz t s o)::tail,0⟩ (PV.cells<|.sl id s.sz 0 o.length none)=some (true,[.dat (.list s) o]):=by
   show(match BS ⟨0,.leaf,(id,.arr fz t s o)::tail,0⟩ (.sl id s.sz 0 o.length none),some (true,[])with|some (c,x),some (d,xs)=>some (c&&d,x::xs)|_,_=>none)=_;have:BS ⟨0,.leaf,(id,.arr fz t s o)::tail,0⟩ (.sl id s.sz 0 o.length none)=some (true,.dat (.list s) o):=by
    unfold BS AL.obj;simp only[a,yu,we];simp
   rw[this];rfl
  simp only[Mf,Sh.QU];show(match Dj ⟨0,.leaf,(id,.arr fz t s o)::tail,0⟩ (PV.cells<|.sl id s.sz 0 o.length none)with|some (c,cs)=>_|none=>none)=_;rw[g];have:Dn (.list s) [PV.dat (.list s) o]=some o:=by
   unfold Dn Cx sD DP;simp
  simp only[P4,this,yq]
 unfold Ik HT;simp only;unfold Dy;rw[h0];rfl
theorem sU:Dg XT1:=Aa T168.ok<|Aa T169.ok<|Aa T171.ok<|Aa T55.ok<|Aa T56.ok AI
theorem ZN{a b:Z}(d:Am a=0)(c:Am b=0):FN (zG a) (zG b)=E0 a b:=by
 rw[EX.cmp (IL (CO d).1)<|IL (CO c).1];rfl
theorem Hz{a:Z}(b:Am a=0):y7 (zG a)=true/\EB a=true:=by
 obtain⟨n,z⟩:=CO b;exact⟨(IL n).De (P6 z af),(EK n).2.2.2.2.2.2.1⟩
namespace T123
theorem Adp{p:BB}{k:Nat}(h:p.1.length<=k/\p.2.length<=k)(a:k<=1000000):(decide ((2:Nat)<=2)&&true&&(decide ((2:Nat)<=1000)&&List.all [p.1,p.2] fun s=>decide (List.length s<=1000000)))=true:=by
 show(decide (p.1.length<=1000000)&&(decide (p.2.length<=1000000)&&true))=true;rw[w4 ae,w4 ae];rfl
theorem bO(t:List BB)(i:Nat)(p:BB)(h:i<t.length)(hp:t.getD i ([],[])=p):(t.take i).map EI++[(E8 p.1,E8 p.2)]=(t.take<|i+1).map EI:=by
 rw[List.take_add_one,List.map_append];congr 1;rw[zo]at hp;rw[zy h]at hp ⊢;have hp:t[i]=p:=hp;rw[hp];rfl
theorem A0(t:List BB)(s:t.length<=64)(v:JP 1000000 t=true)(a:∀e ob,e≠0->Ej none t=e->Q (.tup [.nil,.dat i64 e]) ob)
  (g:Ej none t=0->Q (.tup [.sl 0 8 0 ((t.take t.length).map EI).length none,.dat i64 0]) [(0,.arr false 209 Yy<|(t.take t.length).map EI)]):
  ∀(r:List BB) (i n:Nat) (q:BB),t.drop i=r->1<=i->i<=t.length->n=((t.take i).map EI).length->t.getD (i-1) ([],[])=q->Am q.1=0->Ej none t=Ej (some q) r->Ends XT1 (L2 n t (t.length:Int) (i:Int)<|(t.take i).map EI) Q
 |[],i,n,q,h,z,x,l,k,u,b=>by
  have:=drop_nil h x;have e:i=t.length:=ae
  subst e;rw[Wi]at b;rw[l];exact zk (AJ ..) (zr (w8 ae)<|zg<|g b)
 |p::r,i,n,q,h,z,x,l,k,u,b=>by
  obtain⟨w,o,E⟩:=drop_cons (d:=(([],[]):BB)) h;have I:p∈t:=ym (by rw[h];exact yd ..);have hp:=R9 v p I;have C:n=i:=by rw[l,yo,yi];omega
  have G:=wn (i:=i) ae;have D:zd .i64 ((i:Int)-1)=((i-1:Nat):Int):=by rw[wr _ ae ae];omega
  have F:∀d,((t.take i).map EI).getD (i-1) d=EI q:=by
   intro d;rw[zo,List.getElem?_map,List.getElem?_take_of_lt ae];rw[zo,zy ae]at k;rw[zy ae];have k:t[i-1]=q:=k;rw[k];rfl
  have B:((t.take i).map EI).length=i:=by rw[yo,yi];omega
  rw[Hl]at b;refine zk (AJ ..) ?_;conv=>zeta
  rw[G,D,zm,zm,o,F];refine zc (w4 ae) (zc (ad ae ae)<|zc (Adp hp<|zw _)<|zj (fun c=>zg ?_)<|fun c=>?_)
  ·have c:Cw [p.1,p.2]≠0:=by simpa using c
   have j:NA p.1 p.2≠0:=c;rw[wd j]at b;exact a _ _ j b
  ·have c:Cw [p.1,p.2]=0:=by simpa using c
   have j:NA p.1 p.2=0:=c;rw[wc<|by rw[j];decide]at b;obtain⟨m,J⟩:=JA j;have y:=Hz m;have A:=Hz J;have H:=Hz u;have f:FN (E8 p.1) (EI q).1=E0 p.1 q.1:=ZN m u;refine zc y.2 (zc A.2<|zc (w4 ae)<|zc (ad ae ae)<|zc (w4 ae)<|zc (Ab y.1 H.1)<|zj (fun d=>zg ?_)<|fun d=>?_)
   ·have d:=w6 d;have d:FN (E8 p.1) (EI q).1<=0:=d;rw[f]at d;rw[wd d]at b;exact a 11 _ af b
   ·have d:=w7 d;have d:¬FN (E8 p.1) (EI q).1<=0:=d;rw[f]at d;rw[wc d]at b;have go:=A0 t s v a g r (i+1) (n+1) p E ae w (by rw[yo,yi];omega) (by rw[yp];exact o) m b;rw[<-bO t i p w o]at go;refine zc (Ab (Ab (Ab rfl rfl)<|w4 ae)<|w4 ae) go
theorem ok:Af A9 123 YY:=by
 refine BN sU<|fun(t:List (Z×Z)) d=>?_;have d:(decide (t.length<=1000)&&JP 1000000 t)=true:=d;rw[zh,w5]at d;obtain⟨v,hp⟩:=d;have a:∀e ob,e≠0->BV t=e->Ad YY t (.tup [.nil,.dat i64 e]) ob:=fun e ob h k=>zx (y:=([],e)) rfl rfl (by
  show([],e)=(Ul t,BV t);unfold Ul;rw[wd (by rw[k];exact h),k])
 have s:zn [Cs ((t.length:Int)==0) 12,Cs (decide ((t.length:Int)>64)) 5]=if t=[]then 12 else if 64<t.length then 5 else 0:=by
  rw[Jo];by_cases h:t=[]
  ·rw[wd h,h];rfl
  ·have f:((t.length:Int)==0)=false:=by
    have:t.length≠0:=fun k=>h<|zu.1 k
    simp;omega
   rw[wc h,f,wc af];by_cases k:64<t.length
   ·rw[wd k,w4<|show(t.length:Int)>64 by omega];rfl
   ·rw[wc k,w8<|show ¬(t.length:Int)>64 by omega];rfl
 refine zp (Ak t) ?_;conv=>zeta
 rw[s];refine zc rfl (zc rfl (zc rfl ?_));by_cases h:t=[]
 ·rw[wd h];exact zc rfl (zg<|a 12 _ af<|by unfold BV;rw[wd h])
 ·rw[wc h];by_cases k:64<t.length
  ·rw[wd k];exact zc rfl (zg<|a 5 _ af<|by unfold BV;rw[wc h,wd k])
  ·rw[wc k];have g:BV t=Ej none t:=by unfold BV;rw[wc h,wc k]
   refine zr rfl ?_;obtain⟨p,r,rfl⟩:∃p r,t=p::r:=by
    cases t with
    |nil=>exact wh rfl h
    |cons p r=>exact⟨p,r,rfl⟩
   have o:(p::r).getD 0 ([],[])=p:=rfl;have i:=R9 hp p<|yd ..;refine zk (Al ..) ?_;conv=>zeta
   rw[show Int.toNat 0=0 from rfl,o];refine zc (w4<|by rw[zl];omega) (zc (Ab rfl (w4<|by rw[zl];omega))<|zc (Adp i<|zw _)<|zj (fun c=>zg ?_)<|fun c=>?_)
   ·have c:Cw [p.1,p.2]≠0:=by simpa using c
    have b:NA p.1 p.2≠0:=c;exact a _ _ b (by rw[g,FT,wd b];rfl)
   ·have c:Cw [p.1,p.2]=0:=by simpa using c
    have b:NA p.1 p.2=0:=c;obtain⟨j,u⟩:=JA b;have n:=Hz j;have l:=Hz u;have q:zd .i64 ((0:Int)+1)=((1:Nat):Int):=rfl;rw[q];have go:=A0 (Q:=Ad YY (p::r)) (p::r) ae hp (fun e ob f m=>a e ob f<|by rw[g];exact m) (fun h0=>zx (iH rfl rfl) rfl (by
     show(((p::r).take (p::r).length).map EI,(0:Int))=(Ul (p::r),BV (p::r));unfold Ul;rw[g,h0,wc af,List.take_length])) r 1 1 p rfl af (by rw[zl];omega) (by rw[yo,yi,zl];omega) rfl j (by rw[FT,wc<|by rw[b];decide])
    exact zc n.2<|zc l.2<|zr rfl (zc rfl go)
end T123
theorem tM:Dg XT2:=Aa T123.ok AI
theorem T54.ok:Af A9 54 Lz:=by
 refine BN tM<|fun(t:List (Z×Z)) hi=>?_;exact zp (T54.Ak t)<|zc hi<|zg<|zx rfl rfl rfl
theorem tX:Dg XT4:=Aa T62.ok<|Aa T36.ok AI
namespace T60
theorem Aq(t:List BB)(o:t.length<=64)(s:JP 1000000 t=true)(e:∀ob,Q (.dat i64<|Ej none t) ob):
  ∀(r:List BB) (i:Nat),t.drop i=r->i<=t.length->(0<i->Am (t.getD (i-1) ([],[])).1=0)->Ej none t=Ej (Qj t i) r->Ends XT4 (L1 t (i:Int)) Q
 |[],i,h,v,g,b=>by
  have:=drop_nil h v;rw[Wi]at b;rw[b]at e;exact zk (Al ..) (zr (w8 ae)<|zg<|e _)
 |p::r,i,h,v,g,b=>by
  obtain⟨z,m,A⟩:=drop_cons (d:=(([],[]):BB)) h;have D:p∈t:=ym (by rw[h];exact yd ..);obtain⟨l1,l2⟩:=R9 s p D;have C:=wn (i:=i) ae;have j:=nb (i:=i) (n:=t.length) ae;have a:=ZQ p.1 p.2;refine zk (Al ..) ?_;conv=>zeta
  rw[C,zm,m];refine zc (w4 ae)<|zc j<|zc (w4 l1)<|zj (fun c=>zc j<|zc (w4 l2)<|zj (fun d=>?_)<|fun d=>?_)<|fun c=>?_
  ·have c:Am p.1=0:=by simpa using c
   have d:Am p.2=0:=by simpa using d
   rw[wc (by rw[c];decide),d]at a;have db:(Am p.2 !=0)=false:=by rw[d];rfl
   have n1:=QQ c;have nx:∀u,u=i+1->Ej none t=Ej (some p) r->Ends XT4 (L1 t ((i+1:Nat):Int)) Q:=fun u _ B=>
    Aq t o s e r (i+1) A z (fun _=>by rw[yp,m];exact c) (by rw[WQ m];exact B)
   by_cases h0:i=0
   ·subst h0;refine zr rfl (zr db<|nx _ rfl ?_);rw[b];show Ej none (p::r)=_;rw[FT,wc<|by rw[a];decide]
   ·have w:zd .i64 ((i:Int)-1)=((i-1:Nat):Int):=by rw[wr _ ae ae];omega
    have g:=g ae;have y:Qj t i=some (t.getD (i-1) ([],[])):=by unfold Qj;rw[wc h0]
    rw[y,Hl,wc<|by rw[a];decide]at b;rw[w,zm];generalize t.getD (i-1) ([],[])=q at*;have n0:=QQ g;refine zc (w4 ae) (zc (ad ae ae)<|zc j<|zc (Ab (n0.num af)<|n1.EE af)<|zj (fun k=>zc rfl (zg ?_))<|fun k=>zr db<|nx _ rfl ?_)
    ·have k:=w6 k;rw[wd<|(Wb _ _).2 k]at b;rw[b]at e;exact e _
    ·have k:=w7 k;rw[wc<|fun x=>k<|(Wb _ _).1 x]at b;exact b
  ·have c:Am p.1=0:=by simpa using c
   have l:Am p.2≠0:=by simpa using d
   rw[wc<|by rw[c];decide]at a;refine zc (by simpa using l)<|zg ?_;have:Ej none t=Am p.2:=by
    rw[b];cases Qj t i with
    |none=>rw[FT,wd (by rw[a];exact l),a]
    |some q=>rw[Hl,wd (by rw[a];exact l),a]
   rw[<-this];exact e _
  ·have f:Am p.1≠0:=by simpa using c
   rw[wd f]at a;have:Ej none t=Am p.1:=by
    rw[b];cases Qj t i with
    |none=>rw[FT,wd (by rw[a];exact f),a]
    |some q=>rw[Hl,wd (by rw[a];exact f),a]
   refine zr (by simpa using f) (zc (by simpa using f)<|zg ?_);rw[<-this];exact e _
theorem ok:Af A9 60 Lz:=by
 refine BN tX<|fun(t:List (Z×Z)) b=>?_;have b:(decide (t.length<=1000)&&JP 1000000 t)=true:=b;rw[zh,w5]at b;have a:∀e ob,BV t=e->Ad Lz t (.dat i64 e) ob:=fun e ob h=>zx rfl rfl h.symm
 unfold BV at a;refine zp (Ak t)<|zj (fun c=>zg<|a _ _ ?_)<|fun c=>zj (fun d=>zg<|a _ _ ?_)<|fun d=>?_
 ·have:t=[]:=zu.1 (by have:(t.length:Int)=0:=(by simpa using c);omega);rw[wd this]
 ·have c:(t.length:Int)≠0:=by simpa using c
  have d:=w6 d;rw[wc (by rintro rfl;exact c rfl),wd ae]
 ·have c:(t.length:Int)≠0:=by simpa using c
  have d:=w7 d;rw[wc (by rintro rfl;exact c rfl),wc ae]at a;exact Aq t ae b.2 (fun ob=>a _ ob rfl) t 0 rfl (Nat.zero_le _) (fun h=>wh h af) rfl
end T60
end Go.Pe
namespace Go.Sp
theorem AaK{s:Z}(h:B4 s=true){k:Nat}(b:s.length<=k)(f:1<=k):Nu k s (Az s):=by
 obtain⟨a,_⟩:=JB h;have e:(A6<|Az s).length<=k:=by rw[a];exact b
 refine⟨a.symm,?_⟩;generalize Az s=q at*;have d:(zq q.num.natAbs).length<=(Lib.itoa q.num).length:=by
  unfold Lib.itoa;split
  ·rw[zl];omega
  ·rw[show q.num.toNat=q.num.natAbs by omega];exact zw _
 unfold A6 at e;split at e
 ·next c=>exact⟨Cd (k:=k) _ ae,by rw[c];exact KM k ae⟩
 ·rw[zt,zl]at e;exact⟨Cd (k:=k) _ ae,Cd (k:=k) _ ae⟩
theorem V2{s:Z}(h:Am s=0){k:Nat}(b:s.length<=k)(a:1<=k):Nu k s (Az s):=AaK (CO h).1 b a
theorem Nc{t:List BB}(h:BV t=0):t≠[]/\t.length<=64/\Ej none t=0:=by
 unfold BV at h;split at h
 ·exact wh h af
 ·next k=>
  split at h
  ·exact wh h af
  ·exact⟨k,by omega,h⟩
theorem kH{q p:BB}{l:List BB}(h:Ej (some q) (p::l)=0):Am p.1=0/\Am p.2=0/\Az q.1<Az p.1/\Ej (some p) l=0:=by
 rw[Hl]at h;split at h
 ·next k=>exact wh h k
 ·next k=>
  split at h
  ·exact wh h af
  ·next d=>
   obtain⟨e,c⟩:=JA (a:=p.1) (b:=p.2) ae;rw[PX]at d;exact⟨e,c,Classical.not_not.1 d,h⟩
theorem oB{p:BB}{l:List BB}(h:Ej none (p::l)=0):Am p.1=0/\Am p.2=0/\Ej (some p) l=0:=by
 rw[FT]at h;split at h
 ·next k=>exact wh h k
 ·next k=>
  obtain⟨d,c⟩:=JA (a:=p.1) (b:=p.2) ae;exact⟨d,c,h⟩
end Go.Sp
namespace Go.Pe
open Sp
open Go.Det
structure RS(k:Nat)(f:Aj)(q:Rat):Prop where
 r:EX f q
 z:Gm k q
theorem RS.mono{i j:Nat}{f:Aj}{q:Rat}(h:RS i f q)(k:i<=j):RS j f q:=⟨h.r,h.z.mono k⟩
theorem RS.s{k:Nat}{f:Aj}{q:Rat}(h:RS k f q)(a:k<=4000):KS 4000 q:=P6 h.z a
theorem RS.CP{k:Nat}{f:Aj}{q:Rat}(h:RS k f q)(a:k<=4000):Sp.CP f=true:=h.r.CP<|h.s a
theorem RS.De{k:Nat}{f:Aj}{q:Rat}(h:RS k f q)(a:k<=4000):y7 f=true:=h.r.De<|h.s a
theorem RS.YX{i j:Nat}{f g:Aj}{p q:Rat}(b:RS i f p)(c:RS j g q)(d:i<=4000)(a:j<=4000):(Sp.CP f&&Sp.CP g)=true:=Ab (b.CP d)<|c.CP a
theorem RS.add{i j:Nat}{f g:Aj}{p q:Rat}(a:RS i f p)(b:RS j g q)(d:i<=4000)(c:j<=4000):RS (i+j+1) (Cf f g) (p+q):=⟨EX.add a.r b.r (a.s d)<|b.s c,a.z.add b.z⟩
theorem RS.sub{i j:Nat}{f g:Aj}{p q:Rat}(a:RS i f p)(b:RS j g q)(d:i<=4000)(c:j<=4000):RS (i+j+1) (NB f g) (p-q):=⟨EX.sub a.r b.r (a.s d)<|b.s c,a.z.sub b.z⟩
theorem RS.mul{i j:Nat}{f g:Aj}{p q:Rat}(a:RS i f p)(b:RS j g q)(d:i<=4000)(c:j<=4000):RS (i+j) (Lh f g) (p*q):=⟨EX.mul a.r b.r (a.s d)<|b.s c,a.z.mul b.z⟩
theorem RS.div{i j:Nat}{f g:Aj}{p q:Rat}(b:RS i f p)(a:RS j g q)(d:i<=4000)(c:j<=4000)(h0:q≠0):RS (i+j) (Kv f g) (p/q):=⟨EX.div b.r a.r (b.s d) (a.s c) (P6 (a.z.inv h0) c) h0,b.z.div a.z h0⟩
theorem RS.ok3{i j:Nat}{f g:Aj}{p q:Rat}(c:RS i f p)(a:RS j g q)(d:i<=4000)(b:j<=4000)(h0:q≠0):(Sp.CP f&&Sp.CP g&&decide (Sp.vI g.1≠0))=true:=Ab (c.YX a d b)<|a.r.I3.trans<|w4 h0
theorem RS.cmp{i j:Nat}{f g:Aj}{p q:Rat}(a:RS i f p)(b:RS j g q):FN f g=if p<q then -1 else if q<p then 1 else 0:=EX.cmp a.r b.r
theorem RS.PX{i j:Nat}{f g:Aj}{p q:Rat}(a:RS i f p)(b:RS j g q):FN f g<=0↔p<=q:=by
 rw[a.cmp b];by_cases h:p<q
 ·rw[wd h];exact⟨fun _=>Rat.le_of_lt h,fun _=>by decide⟩
 ·rw[wc h];by_cases k:q<p
  ·rw[wd k];exact⟨fun x=>wh x af,fun x=>wh k<|Rat.not_lt.2 x⟩
  ·rw[wc k];exact⟨fun _=>Rat.not_lt.1 k,fun _=>by decide⟩
theorem RS.iX{i j:Nat}{f g:Aj}{p q:Rat}(a:RS i f p)(b:RS j g q):FN f g<0↔p<q:=by
 rw[a.cmp b];by_cases h:p<q
 ·rw[wd h];exact⟨fun _=>h,fun _=>by decide⟩
 ·rw[wc h];by_cases k:q<p
  ·rw[wd k];exact⟨fun x=>wh x af,fun x=>wh x h⟩
  ·rw[wc k];exact⟨fun x=>wh x af,fun x=>wh x h⟩
theorem RS.jD{i j:Nat}{f g:Aj}{p q:Rat}(a:RS i f p)(b:RS j g q):FN f g>0↔q<p:=by
 have h:=a.PX b;constructor
 ·intro k;exact Rat.not_le.1 fun x=>by have:=h.2 x;omega
 ·intro k;have:¬FN f g<=0:=fun x=>Rat.not_le.2 k<|h.1 x
  omega
theorem RS.Mo{k:Nat}{f:Aj}{q:Rat}(h:RS k f q):(P0 f<0↔q<0)/\(P0 f=0↔q=0):=by
 have e:P0 f=Sp.Mo q.num:=by unfold P0;rw[h.r.vn]
 have n1:=Sp.neg_num q;rw[e];unfold Sp.Mo;constructor
 ·rw[<-n1.1];split
  ·next c=>exact⟨fun _=>c,fun _=>by decide⟩
  ·next c=>
   split
   ·exact⟨fun x=>wh x af,fun x=>wh x c⟩
   ·exact⟨fun x=>wh x af,fun x=>wh x c⟩
 ·split
  ·next c=>exact⟨fun x=>wh x af,fun x=>wh (n1.1.1 c)<|by rw[x];exact Rat.lt_irrefl⟩
  ·next c=>
   split
   ·next d=>exact⟨fun x=>wh x af,fun x=>wh (n1.2.1 d)<|by rw[x];exact Rat.lt_irrefl⟩
   ·next d=>exact⟨fun _=>Rat.num_eq_zero.1 ae,fun _=>rfl⟩
theorem RS.C5{k:Nat}{f:Aj}{q:Rat}(h:RS k f q):Sp.C5 f.1=true:=h.r.n
theorem UK{s:Z}(h:Am s=0):RS (Sp.aX s) (E8 s) (Az s):=⟨IL (CO h).1,(Aap h).z⟩
theorem Kh{s:Z}(h:Am s=0){k:Nat}(b:s.length<=k)(a:1<=k):RS k (E8 s) (Az s):=⟨IL (CO h).1,(V2 h b a).z⟩
theorem R5{n:Int}{k:Nat}(h:n.natAbs<10^k)(b:1<=k)(a:k<=18):RS k ((n,CT n),(1,CT 1)) (n:Rat):=by
 have hp:10^k<=10^18:=ya af a;have c:10^1<=10^k:=ya af b;have hr:CG n=true:=by
  unfold CG;exact ad ae ae
 refine⟨Acs n hr,?_,?_⟩
 ·rw[yw];exact h
 ·rw[Rat.den_intCast];omega
theorem Sq:RS 1 ((0,CT 0),(1,CT 1)) 0:=R5 (n:=0) af af af
theorem xV{k:Nat}{f:Aj}{q:Rat}(h:RS k f q){e:Int}(a:e=0):(ON f,Qw f)=(jH e q,pC e q):=AaP h.r a
namespace T50
theorem loop{Q:PV->Ob->Prop}(l:List Int)(m:l.length<=1000000)(a:∀ob,Q (.dat i64<|zn l) ob):∀(r:List Int) (i:Nat),l.drop i=r->i<=l.length->zn l=zn r->Ends Wn (L1 l ((l.length:Int)) (i:Int)) Q
 |[],i,h,c,e=>by
  have n:=drop_nil h c;refine zk (Al ..) (zr (w8 ae)<|zg ?_);rw[e]at a;exact a _
 |x::r,i,h,c,e=>by
  obtain⟨f,j,g⟩:=drop_cons (d:=0) h;refine zk (Al ..) ?_;conv=>zeta
  have k:=wn (i:=i) ae;rw[k,zm,j];refine zc (w4 ae) (zc (ad ae ae) ?_);by_cases b:x=0
  ·subst b;refine zr rfl (loop l m a r (i+1) g f ?_);rw[e];rfl
  ·have ex:zn (x::r)=x:=by unfold zn;rw[wd b]
   refine zc (by simpa using b)<|zg ?_;rw[e,ex]at a;exact a _
theorem ok:Af A9 50 GY:=by
 refine BN TD<|fun(l:List Int) hl=>?_;exact zp (Ak l)<|loop l (w6 hl) (fun ob=>zx rfl rfl rfl) l 0 rfl (Nat.zero_le _) rfl
end T50
theorem T51.ok:Af A9 51 Ib:=by
 refine BN TD<|fun⟨c,e⟩ _=>?_;refine zp (T51.Ak c e)<|zj (fun h=>zg<|zx rfl rfl ?_)<|fun h=>zg<|zx rfl rfl ?_
 ·show e=Cs c e;rw[h];rfl
 ·show(0:Int)=Cs c e;rw[h];rfl
theorem jI:Dg AcC:=Aa T50.ok<|Aa T51.ok AI
theorem count_eq(n m:Int):zn [Cs (n==0) 12,Cs (decide (n>m)) 5]=CY n m:=by
 rw[Jo,ET,ET];unfold CY;by_cases h:n=0
 ·subst h;rfl
 ·have e:(n==0)=false:=by simpa using h
  rw[e,wc (show ¬(if false=true then(12:Int)else 0)≠0 by decide),wc h];by_cases k:m<n
  ·rw[wd k,w4<|show n>m from k];rfl
  ·rw[wc k,w8<|show ¬n>m from k];rfl
theorem T63.ok:Af A9 63 kW:=by
 refine BN jI<|fun(i:Int×Int) _=>?_;obtain⟨n,m⟩:=i;refine zp (T63.Ak n m) ?_;conv=>zeta
 rw[count_eq];exact zc rfl (zc rfl (zc rfl (zg<|zx rfl rfl rfl)))
end Go.Pe
namespace Go.Sp
theorem Qd(n:Int):GF (rN n,rW n)=A6 ((n:Int):Rat):=by rw[Pq,aW]
theorem TB{n:Int}{k:Nat}(h:n.natAbs<10^k)(a:1<=k):Nu k (A6 (n:Rat)) (n:Rat):=by
 have b:10^1<=10^k:=ya af a;refine⟨rfl,?_,?_⟩
 ·rw[yw];exact h
 ·rw[Rat.den_intCast];omega
theorem wT:Nu 1 [48] 0:=by
 refine⟨by decide+kernel,?_⟩;unfold Gm;decide+kernel
end Go.Sp
namespace Go.Pe
open Sp
open Go.Det
theorem oX:Dg AcV:=Aa T134.ok<|Aa T135.ok AI
theorem T71.ok:Af A9 71 Yq:=by
 refine BN oX<|fun(a:(Int×List Int)×(Int×List Int)) ha=>?_;refine zp (T71.Ak a)<|zc ha<|zj (fun c=>zg<|zx rfl rfl ?_)<|fun c=>zc ha<|zg<|zx rfl rfl ?_
 ·have c:IP a=true:=c;show([],(4:Int))=(ON a,Qw a);unfold ON Qw;rw[wd c,wd c]
 ·have c:IP a=false:=c;show(J3 a,(0:Int))=(ON a,Qw a);unfold ON Qw;rw[wc (by rw[c];decide),wc<|by rw[c];decide]
theorem bD:Dg yM:=Aa T97.ok<|Aa T96.ok AI
theorem T35.ok:Af A9 35 eV:=by
 refine BN bD<|fun(n:Int) a=>?_;have a:n.natAbs<9223372036854775808:=w6 a;have b:CG n=true:=ad ae ae;refine zp (T35.Ak n)<|zc b<|zc (Mb b)<|zg<|zx rfl rfl ?_;exact Qd n
end Go.Pe
namespace Go.Sp
theorem Uh(s:Z)(l:List Z):Cw (s::l)=if Am s≠0 then Am s else Cw l:=by rw[Cw]
end Go.Sp
namespace Go.Pe
open Go.Det
theorem dO:Dg Yv:=Aa T62.pP AI
namespace T32
theorem loop{Q:PV->Ob->Prop}(l:List Z)(n:l.length<=1000000)(b:∀s∈l,s.length<=9223372036854775807):∀(r:List Z) (i:Nat),l.drop i=r->i<=l.length->(∀ob,Q (.dat i64<|Sp.Cw r) ob)->Ends Yv (L1 l (i:Int)) Q
 |[],i,h,e,a=>by
  have:=drop_nil h e;exact zk (Al ..) (zr (w8 ae)<|zg<|a _)
 |x::r,i,h,e,a=>by
  obtain⟨m,j,f⟩:=drop_cons (d:=([]:Z)) h;have g:=b x (ym<|by rw[h];exact yd ..);have k:=wn (i:=i) ae;rw[Sp.Uh]at a;refine zk (Al ..) ?_;conv=>zeta
  rw[zm,j,k];refine zc (w4 ae) (zc (ad ae ae)<|zc (w4 g)<|zj (fun c=>zg ?_)<|fun c=>loop l n b r (i+1) f m ?_)
  ·have c:Sp.Am x≠0:=by simpa using c
   rw[wd c]at a;exact a _
  ·have c:Sp.Am x=0:=by simpa using c
   rw[wc<|by rw[c];decide]at a;exact a
theorem ok:Af A9 32 Aco:=by
 refine BN dO<|fun(l:List Z) a=>?_;have a:(decide (l.length<=1000000)&&l.all fun s=>decide (s.length<=9223372036854775807))=true:=a;rw[zh,w5,List.all_eq_true]at a;exact zp (Ak l)<|loop l a.1 (fun s h=>w6<|a.2 s h) l 0 rfl (Nat.zero_le _) (fun ob=>zx rfl rfl rfl)
end T32
section
open List Int Prod
namespace T90
def T(l:Z×Z×Z×List (Z×Z)×List (Z×Z))(n d:Int):Tr:=tree XT false 9 90<|Ae ([zi ze<|zi ze<|zi ze<|zi (zf<|zi ze ze)<|zf<|zi ze ze,yy yb,yy yb]) (l,n,d)
def L1(v2 e:Int)(f b c:Z)(a:List (Z×Z))(d:List (Z×Z)):Tr:=re ((T ([],([],([],([],[])))) 0 0).R.R.R.L.R.L.R)<|Av 84 [(2,.dat i64 v2),(3,.ptr 0 0),(7,.dat i64 e)] [(0,.box [.dat ze f,.dat ze b,.dat ze c,.dat (zf<|zi ze ze) a,.dat (zf<|zi ze ze) d])] 1
theorem Ak(l:Z×Z×Z×List (Z×Z)×List (Z×Z))(n d:Int):T l n d=let a:Tr:=.leaf (.bl false) [];let b':=snd<|snd<|snd l;let b:=decide (0<=d)&&decide (d<=1000);.di ((↑(length<|fst l):Int)>30) a (.di ((↑(length<|fst b'):Int)>n) a<|.di ((↑(length<|snd b'):Int)>n) a<|.ck b<|.ite (!Sp.Co (fst<|snd l) d) a<|.ck b<|.ite (!Sp.Co (fst<|snd<|snd l) d) a<|L1 d 0 (fst l) (fst<|snd l) (fst<|snd<|snd l) (fst b')<|snd b'):=by kernel_rfl
def L2(v2 e:Int)(f b c:Z)(a:List (Z×Z))(d:List (Z×Z)):Tr:=re ((stepT XT<|L1 0 0 [] [] [] [] []).R)<|Av 84 [(2,.dat i64 v2),(3,.ptr 0 0),(8,.dat i64 e)] [(0,.box [.dat ze f,.dat ze b,.dat ze c,.dat (zf<|zi ze ze) a,.dat (zf<|zi ze ze) d])] 1
theorem Al(v2 e:Int)(f b c:Z)(a:List (Z×Z))(d:List (Z×Z)):stepT XT (L1 v2 e f b c a d)=let g:=decide (e<(length a:Int));let b':=decide (0<=v2)&&decide (v2<=1000);let h:=getD a (toNat e) ([],[]);.ite g (.ck (decide (0<=e)&&g)<|.ck b'<|.ite (!Sp.Co (fst h) v2) (.leaf (.bl false) [])<|.ck (decide (0<=e)&&g)<|.ck b'<|.ite (!Sp.Co (snd h) v2) (.leaf (.bl false) [])<|L1 v2 (zd .i64<|e+1) f b c a d) (L2 v2 0 f b c a d):=by kernel_rfl
theorem AJ(v2 e:Int)(f b c:Z)(d:List (Z×Z))(a:List (Z×Z)):stepT XT (L2 v2 e f b c d a)=let g:=decide (e<(length a:Int));.ite g (.ck (decide (0<=e)&&g)<|.ck (decide (0<=v2)&&decide (v2<=1000))<|.ite (!Sp.Co (snd<|getD a (toNat e) ([],[])) v2) (.leaf (.bl false) [])<|L2 v2 (zd .i64<|e+1) f b c d a) (.leaf (.bl true) []):=by kernel_rfl
end T90
end
open Sp
section
open List Int Prod
namespace T31
def T(c:List (Z×Z×Z×Z×List (Z×Int))×List (Z×List Int)×List (Z×Z×Z×List (Z×Z)×List (Z×Z)))(n d:Int):Tr:=tree XQ false 9 31<|Ae ([zi (zf<|zi ze<|zi ze<|zi ze<|zi ze<|zf<|zi ze i64)<|zi (zf<|zi ze<|zf i64)<|zf<|zi ze<|zi ze<|zi ze<|zi (zf<|zi ze ze)<|zf<|zi ze ze,yy yb,yy yb]) (c,n,d)
def L1(v1 v2 c:Int)(d:List (Z×Z×Z×Z×List (Z×Int)))(a:List (Z×List Int))(b:List (Z×Z×Z×List (Z×Z)×List (Z×Z))):Tr:=re ((T ([],([],[])) 0 0).R.R.R)<|Av 93 [(1,.dat i64 v1),(2,.dat i64 v2),(3,.ptr 0 0),(7,.dat i64 c)] [(0,.box [.dat (zf<|zi ze<|zi ze<|zi ze<|zi ze<|zf<|zi ze i64) d,.dat (zf<|zi ze<|zf i64) a,.dat (zf<|zi ze<|zi ze<|zi ze<|zi (zf<|zi ze ze)<|zf<|zi ze ze) b])] 1
theorem Ak(c:List (Z×Z×Z×Z×List (Z×Int))×List (Z×List Int)×List (Z×Z×Z×List (Z×Z)×List (Z×Z)))(n d:Int):T c n d=let a:Tr:=.leaf (.bl false) [];.di ((↑(length<|fst c):Int)>n) a (.di ((↑(length<|fst<|snd c):Int)>n) a<|.di ((↑(length<|snd<|snd c):Int)>n) a<|L1 n d 0 (fst c) (fst<|snd c)<|snd<|snd c):=by kernel_rfl
def L2(v1 v2 v9:Int)(c:List (Z×Z×Z×Z×List (Z×Int)))(a:List (Z×List Int))(b:List (Z×Z×Z×List (Z×Z)×List (Z×Z))):Tr:=re ((stepT XQ<|L1 0 0 0 [] [] []).R)<|Av 93 [(1,.dat i64 v1),(2,.dat i64 v2),(3,.ptr 0 0),(9,.dat i64 v9)] [(0,.box [.dat (zf<|zi ze<|zi ze<|zi ze<|zi ze<|zf<|zi ze i64) c,.dat (zf<|zi ze<|zf i64) a,.dat (zf<|zi ze<|zi ze<|zi ze<|zi (zf<|zi ze ze)<|zf<|zi ze ze) b])] 1
theorem Al(v1 v2 c:Int)(e:List (Z×Z×Z×Z×List (Z×Int)))(a:List (Z×List Int))(b:List (Z×Z×Z×List (Z×Z)×List (Z×Z))):stepT XQ (L1 v1 v2 c e a b)=let f:=getD e (toNat c) ([],[],[],[],[]);let b':=decide (0<=v2)&&decide (v2<=1000);let d:Tr:=.leaf (.bl false) [];let h:=decide (c<(length e:Int));let g:=snd<|snd f;.ite h (.ck (decide (0<=c)&&h)<|.di ((↑(length<|snd<|snd g):Int)>v1) d<|.ck b'<|.ite (!Co (fst f) v2) d<|.ck b'<|.ite (!Co (fst<|snd f) v2) d<|.ck b'<|.ite (!Co (fst g) v2) d<|.ck b'<|.ite (!Co (fst<|snd g) v2) d<|L1 v1 v2 (zd .i64<|c+1) e a b) (L2 v1 v2 0 e a b):=by kernel_rfl
theorem AJ(v1 v2 v9:Int)(c:List (Z×Z×Z×Z×List (Z×Int)))(b:List (Z×List Int))(a:List (Z×Z×Z×List (Z×Z)×List (Z×Z))):stepT XQ (L2 v1 v2 v9 c b a)=let e:=getD a (toNat v9) ([],[],[],[],[]);let b':=decide (v9<(length a:Int));let d:=snd<|snd e;.ite b' (.ck (decide (0<=v9)&&b')<|.ck (Zi v1 v2)<|.ite (!Fm (fst e,fst<|snd e,fst d,fst<|snd d,snd<|snd d) v1 v2) (.leaf (.bl false) [])<|L2 v1 v2 (zd .i64<|v9+1) c b a) (.ck (dZ (c,b,a))<|.leaf (.dat yj<|Od (c,b,a)==0) []):=by kernel_rfl
end T31
namespace T12
def T(l:BT):Tr:=tree IB false 9 12<|Ae ([CF]) l
def L1(v4:Int)(j e a:Z)(b:List BB)(o1 g f k c d:Z)(h i:List BB):Tr:=re ((T ([],([],([],([],[]))))))<|Av 40 [(1,.ptr 0 0),(2,.ptr 1 0),(3,.ptr 2 0),(4,.dat i64 v4)] [(2,.box [.dat ze j,.dat ze e,.dat ze a,.dat (zf CS) b,.nil]),(1,.box [.dat ze o1,.dat ze g,.dat ze f,.nil,.nil]),(0,.box [.dat ze k,.dat ze c,.dat ze d,.dat (zf CS) h,.dat (zf CS) i])] 3
theorem Ak(l:BT):T l=L1 0 (fst l) (fst<|snd l) (fst<|snd<|snd l) (fst<|snd<|snd<|snd l) [] [] [] (fst l) (fst<|snd l) (fst<|snd<|snd l) (fst<|snd<|snd<|snd l) (snd<|snd<|snd<|snd l):=by kernel_rfl
def L2(v4:Int)(m:List BB)(k e a:Z)(b:List BB)(j:Nat)(o1 g f l c d:Z)(i h:List BB):Tr:=re ((stepT IB<|L1 0 [] [] [] [] [] [] [] [] [] [] [] []).L.L.L.L)<|Av 40 [(1,.ptr 0 0),(2,.ptr 1 0),(3,.ptr 2 0),(4,.dat i64 v4)] [(3,.arr false 101 CS m),(2,.box [.dat ze k,.dat ze e,.dat ze a,.dat (zf CS) b,.sl 3 2 0 j none]),(1,.box [.dat ze o1,.dat ze g,.dat ze f,.nil,.nil]),(0,.box [.dat ze l,.dat ze c,.dat ze d,.dat (zf CS) i,.dat (zf CS) h])] 4
theorem Al(v4:Int)(j d b:Z)(c:List BB)(o1 h g l e f:Z)(i a:List BB):stepT IB (L1 v4 j d b c o1 h g l e f i a)=let k:=decide (v4<(length a:Int));.ite k (.ck (decide (0<=v4)&&k)<|.ck (decide (0<=v4)&&k)<|.ck (aa 32)<|L2 (zd .i64<|v4+1) ([(getD a (toNat v4) ([],[]))]) j d b c 1 o1 h g l e f i a) (.leaf (yv [.dat ze j,.dat ze d,.dat ze b,.dat (zf CS) c,.nil]) []):=by kernel_rfl
theorem AJ(v4:Int)(l:List BB)(k c a:Z)(b:List BB)(e:Nat)(o1 j i m f g:Z)(h d:List BB):stepT IB (L2 v4 l k c a b e o1 j i m f g h d)=let n:=decide (v4<(length d:Int));let b':=zf CS;.ite n (.ck (decide (0<=v4)&&n)<|.ck (decide (0<=v4)&&n)<|.ck (ac e (length l) 32)<|L2 (zd .i64<|v4+1) (l++[(getD d (toNat v4) ([],[]))]) k c a b (z8 e 1) o1 j i m f g h d) (.leaf (yv [.dat ze k,.dat ze c,.dat ze a,.dat b' b,.sl 3 2 0 e none])<|[(3,.arr false 101 CS l),(2,.box [.dat ze k,.dat ze c,.dat ze a,.dat b' b,.sl 3 2 0 e none]),(1,.box [.dat ze k,.dat ze c,.dat ze a,.dat b' b,.sl 3 2 0 e none]),(0,.box [.dat ze m,.dat ze f,.dat ze g,.dat b' h,.dat b' d])]):=by kernel_rfl
end T12
namespace T10
def T(c:AW):Tr:=tree BK false 9 10<|Ae ([BX]) c
def L1(v1:AW):Tr:=re ((T ([],([],[]))))<|Av 128 [(1,PV.BF BX v1 0),(2,.ptr 0 0),(3,.ptr 1 0)] [(1,.box [.nil,.nil,.nil]),(0,.box [.nil,.nil,.nil])] 2
theorem Ak(c:AW):T c=L1 c:=by kernel_rfl
def L2(v1:AW)(v4:Int):Tr:=re ((stepT BK<|L1 ([],([],[]))))<|Av 128 [(1,PV.BF BX v1 0),(2,.ptr 0 0),(3,.ptr 1 0),(4,.dat i64 v4)] [(1,.box [.nil,.nil,.nil]),(0,.box [.nil,.nil,.nil])] 2
theorem Al(v1:AW):stepT BK (L1 v1)=L2 v1 0:=by kernel_rfl
def L3(v1:AW)(v4 e:Int)(d c a b:Z):Tr:=re ((stepT BK<|L2 ([],([],[])) 0).L.L.L.L.L)<|Av 128 [(1,PV.BF BX v1 0),(2,.ptr 0 0),(3,.ptr 1 0),(4,.dat i64 v4),(5,.ptr 2 0),(6,.dat i64 e)] [(2,.box [.dat ze d,.dat ze c,.dat ze a,.dat ze b,.nil]),(1,.box [.nil,.nil,.nil]),(0,.box [.nil,.nil,.nil])] 3
def L4(v1:AW)(a:Int):Tr:=re ((stepT BK<|L2 ([],([],[])) 0).R)<|Av 128 [(1,PV.BF BX v1 0),(2,.ptr 0 0),(3,.ptr 1 0),(7,.dat i64 a)] [(1,.box [.nil,.nil,.nil]),(0,.box [.nil,.nil,.nil])] 2
theorem AJ(v1:AW)(v4:Int):stepT BK (L2 v1 v4)=let b':=getD (fst v1) (toNat v4) ([],[],[],[],[]);let b:=decide (v4<(↑(length<|fst v1):Int));let a:=decide (0<=v4)&&b;.ite b (.ck a<|.ck a<|.ck a<|.ck a<|L3 v1 v4 0 (fst b') (fst<|snd b') (fst<|snd<|snd b')<|fst<|snd<|snd<|snd b') (L4 v1 0):=by kernel_rfl
def L5(v1:AW)(v4 f:Int)(g:List Hw)(e c a b:Z)(d:Nat):Tr:=re ((stepT BK<|L3 ([],([],[])) 0 0 [] [] [] []).L.L.L.L.L.L.L)<|Av 128 [(1,PV.BF BX v1 0),(2,.ptr 0 0),(3,.ptr 1 0),(4,.dat i64 v4),(5,.ptr 2 0),(6,.dat i64 f)] [(3,.arr false 99 kZ g),(2,.box [.dat ze e,.dat ze c,.dat ze a,.dat ze b,.sl 3 2 0 d none]),(1,.box [.nil,.nil,.nil]),(0,.box [.nil,.nil,.nil])] 4
def L6(v1:AW)(v4:Int)(b:List BR)(a:Nat):Tr:=re ((stepT BK<|L3 ([],([],[])) 0 0 [] [] [] []).L.R.L)<|Av 128 [(1,PV.BF BX v1 0),(2,.ptr 0 0),(3,.ptr 1 0),(4,.dat i64 v4)] [(2,.arr false 97 Ce b),(1,.box [.sl 2 5 0 a none,.nil,.nil]),(0,.box [.nil,.nil,.nil])] 3
theorem Ca(v1:AW)(v4 d:Int)(f c a b:Z):stepT BK (L3 v1 v4 d f c a b)=let g:=snd<|snd<|snd<|snd<|getD (fst v1) (toNat v4) ([],[],[],[],[]);let b':=decide (0<=v4)&&decide (v4<(↑(length<|fst v1):Int));let e:=decide (d<(↑(length g):Int));.ck b' (.ite e (.ck b'<|.ck (decide (0<=d)&&e)<|.ck b'<|.ck (decide (0<=d)&&e)<|.ck (aa 24)<|L5 v1 v4 (zd .i64<|d+1) ([(getD g (toNat d) ([],0))]) f c a b 1)<|.ck (aa 88)<|L6 v1 (zd .i64<|v4+1) ([(f,c,a,b,[])]) 1):=by kernel_rfl
def L7(v1:AW)(b:Int)(c:List CB)(a:Nat):Tr:=re ((stepT BK<|L4 ([],([],[])) 0).L.L.L.L)<|Av 128 [(1,PV.BF BX v1 0),(2,.ptr 0 0),(3,.ptr 1 0),(7,.dat i64 b)] [(2,.arr false 98 Ek c),(1,.box [.nil,.sl 2 2 0 a none,.nil]),(0,.box [.nil,.nil,.nil])] 3
def L8(v1:AW)(a:Int):Tr:=re ((stepT BK<|L4 ([],([],[])) 0).R)<|Av 128 [(1,PV.BF BX v1 0),(2,.ptr 0 0),(3,.ptr 1 0),(8,.dat i64 a)] [(1,.box [.nil,.nil,.nil]),(0,.box [.nil,.nil,.nil])] 2
theorem CD(v1:AW)(a:Int):stepT BK (L4 v1 a)=let b:=decide (a<(↑(length<|fst<|snd v1):Int));.ite b (.ck (decide (0<=a)&&b)<|.ck (decide (0<=a)&&b)<|.ck (aa 40)<|L7 v1 (zd .i64<|a+1) ([(getD (fst<|snd v1) (toNat a) ([],[]))]) 1) (L8 v1 0):=by kernel_rfl
theorem Eu(v1:AW)(v4 e:Int)(f:List Hw)(g d b c:Z)(a:Nat):stepT BK (L5 v1 v4 e f g d b c a)=let i:=snd<|snd<|snd<|snd<|getD (fst v1) (toNat v4) ([],[],[],[],[]);let b':=decide (0<=v4)&&decide (v4<(↑(length<|fst v1):Int));let h:=decide (e<(↑(length i):Int));.ck b' (.ite h (.ck b'<|.ck (decide (0<=e)&&h)<|.ck b'<|.ck (decide (0<=e)&&h)<|.ck (ac a (length f) 24)<|L5 v1 v4 (zd .i64<|e+1) (f++[(getD i (toNat e) ([],0))]) g d b c<|z8 a 1)<|.ck (decide (0+a<=length f)&&true)<|.ck (aa 88)<|L6 v1 (zd .i64<|v4+1) ([(g,d,b,c,take a f)]) 1):=by kernel_rfl
def L9(v1:AW)(v4 f:Int)(g:List BR)(e c a b:Z)(d:Nat):Tr:=re ((stepT BK<|L6 ([],([],[])) 0 [] 0).L.L.L.L.L)<|Av 128 [(1,PV.BF BX v1 0),(2,.ptr 0 0),(3,.ptr 1 0),(4,.dat i64 v4),(5,.ptr 2 0),(6,.dat i64 f)] [(3,.arr false 97 Ce g),(2,.box [.dat ze e,.dat ze c,.dat ze a,.dat ze b,.nil]),(1,.box [.sl 3 5 0 d none,.nil,.nil]),(0,.box [.nil,.nil,.nil])] 4
def zN(v1:AW)(b:Int)(c:List BR)(a:Nat):Tr:=re ((stepT BK<|L6 ([],([],[])) 0 [] 0).R)<|Av 128 [(1,PV.BF BX v1 0),(2,.ptr 0 0),(3,.ptr 1 0),(7,.dat i64 b)] [(2,.arr false 97 Ce c),(1,.box [.sl 2 5 0 a none,.nil,.nil]),(0,.box [.nil,.nil,.nil])] 3
theorem EP(v1:AW)(v4:Int)(c:List BR)(a:Nat):stepT BK (L6 v1 v4 c a)=let b':=getD (fst v1) (toNat v4) ([],[],[],[],[]);let d:=decide (v4<(↑(length<|fst v1):Int));let b:=decide (0<=v4)&&d;.ite d (.ck b<|.ck b<|.ck b<|.ck b<|L9 v1 v4 0 c (fst b') (fst<|snd b') (fst<|snd<|snd b') (fst<|snd<|snd<|snd b') a) (zN v1 0 c a):=by kernel_rfl
def L11(v1:AW)(b:Int)(c:List CB)(a:Nat):Tr:=re ((stepT BK<|L7 ([],([],[])) 0 [] 0).R)<|Av 128 [(1,PV.BF BX v1 0),(2,.ptr 0 0),(3,.ptr 1 0),(8,.dat i64 b)] [(2,.arr false 98 Ek c),(1,.box [.nil,.sl 2 2 0 a none,.nil]),(0,.box [.nil,.nil,.nil])] 3
theorem DT(v1:AW)(b:Int)(c:List CB)(a:Nat):stepT BK (L7 v1 b c a)=let d:=decide (b<(↑(length<|fst<|snd v1):Int));.ite d (.ck (decide (0<=b)&&d)<|.ck (decide (0<=b)&&d)<|.ck (ac a (length c) 40)<|L7 v1 (zd .i64<|b+1) (c++[(getD (fst<|snd v1) (toNat b) ([],[]))])<|z8 a 1) (L11 v1 0 c a):=by kernel_rfl
def L12(v1:AW)(b:Int)(c:List BT)(a:Nat):Tr:=re ((stepT BK<|L8 ([],([],[])) 0).L.L.L.L)<|Av 128 [(1,PV.BF BX v1 0),(2,.ptr 0 0),(3,.ptr 1 0),(8,.dat i64 b)] [(2,.arr false 43 CF c),(1,.box [.nil,.nil,.sl 2 5 0 a none]),(0,.box [.nil,.nil,.nil])] 3
theorem Hu(v1:AW)(a:Int):stepT BK (L8 v1 a)=let b:=getD (snd<|snd v1) (toNat a) ([],[],[],[],[]);let b':=decide (a<(↑(length<|snd<|snd v1):Int));.ite b' (.ck (decide (0<=a)&&b')<|.ck (eF b)<|.ck (aa 96)<|L12 v1 (zd .i64<|a+1) ([b]) 1) (.leaf (yv [.nil,.nil,.nil]) []):=by kernel_rfl
def L13(v1:AW)(v4 g:Int)(h:List Hw)(i:List BR)(f c a b:Z)(d e:Nat):Tr:=re ((stepT BK<|L9 ([],([],[])) 0 0 [] [] [] [] [] 0).L.L.L.L.L.L.L)<|Av 128 [(1,PV.BF BX v1 0),(2,.ptr 0 0),(3,.ptr 1 0),(4,.dat i64 v4),(5,.ptr 2 0),(6,.dat i64 g)] [(4,.arr false 99 kZ h),(3,.arr false 97 Ce i),(2,.box [.dat ze f,.dat ze c,.dat ze a,.dat ze b,.sl 4 2 0 d none]),(1,.box [.sl 3 5 0 e none,.nil,.nil]),(0,.box [.nil,.nil,.nil])] 5
theorem lH(v1:AW)(v4 e:Int)(f:List BR)(g d a c:Z)(b:Nat):stepT BK (L9 v1 v4 e f g d a c b)=let i:=snd<|snd<|snd<|snd<|getD (fst v1) (toNat v4) ([],[],[],[],[]);let b':=decide (0<=v4)&&decide (v4<(↑(length<|fst v1):Int));let h:=decide (e<(↑(length i):Int));.ck b' (.ite h (.ck b'<|.ck (decide (0<=e)&&h)<|.ck b'<|.ck (decide (0<=e)&&h)<|.ck (aa 24)<|L13 v1 v4 (zd .i64<|e+1) ([(getD i (toNat e) ([],0))]) f g d a c 1 b)<|.ck (ac b (length f) 88)<|L6 v1 (zd .i64<|v4+1) (f++[(g,d,a,c,[])])<|z8 b 1):=by kernel_rfl
def L14(v1:AW)(c:Int)(e:List CB)(d:List BR)(b a:Nat):Tr:=re ((stepT BK<|zN ([],([],[])) 0 [] 0).L.L.L.L)<|Av 128 [(1,PV.BF BX v1 0),(2,.ptr 0 0),(3,.ptr 1 0),(7,.dat i64 c)] [(3,.arr false 98 Ek e),(2,.arr false 97 Ce d),(1,.box [.sl 2 5 0 b none,.sl 3 2 0 a none,.nil]),(0,.box [.nil,.nil,.nil])] 4
def L15(v1:AW)(b:Int)(c:List BR)(a:Nat):Tr:=re ((stepT BK<|zN ([],([],[])) 0 [] 0).R)<|Av 128 [(1,PV.BF BX v1 0),(2,.ptr 0 0),(3,.ptr 1 0),(8,.dat i64 b)] [(2,.arr false 97 Ce c),(1,.box [.sl 2 5 0 a none,.nil,.nil]),(0,.box [.nil,.nil,.nil])] 3
theorem TV(v1:AW)(b:Int)(c:List BR)(a:Nat):stepT BK (zN v1 b c a)=let d:=decide (b<(↑(length<|fst<|snd v1):Int));.ite d (.ck (decide (0<=b)&&d)<|.ck (decide (0<=b)&&d)<|.ck (aa 40)<|L14 v1 (zd .i64<|b+1) ([(getD (fst<|snd v1) (toNat b) ([],[]))]) c a 1) (L15 v1 0 c a):=by kernel_rfl
def L16(v1:AW)(c:Int)(e:List BT)(d:List CB)(b a:Nat):Tr:=re ((stepT BK<|L11 ([],([],[])) 0 [] 0).L.L.L.L)<|Av 128 [(1,PV.BF BX v1 0),(2,.ptr 0 0),(3,.ptr 1 0),(8,.dat i64 c)] [(3,.arr false 43 CF e),(2,.arr false 98 Ek d),(1,.box [.nil,.sl 2 2 0 b none,.sl 3 5 0 a none]),(0,.box [.nil,.nil,.nil])] 4
theorem iJ(v1:AW)(b:Int)(c:List CB)(a:Nat):stepT BK (L11 v1 b c a)=let d:=getD (snd<|snd v1) (toNat b) ([],[],[],[],[]);let b':=decide (b<(↑(length<|snd<|snd v1):Int));.ite b' (.ck (decide (0<=b)&&b')<|.ck (eF d)<|.ck (aa 96)<|L16 v1 (zd .i64<|b+1) ([d]) c a 1) (.leaf (yv [.nil,.sl 2 2 0 a none,.nil])<|[(2,.arr false 98 Ek c),(1,.box [.nil,.sl 2 2 0 a none,.nil]),(0,.box [.nil,.sl 2 2 0 a none,.nil])]):=by kernel_rfl
theorem gE(v1:AW)(b:Int)(c:List BT)(a:Nat):stepT BK (L12 v1 b c a)=let d:=getD (snd<|snd v1) (toNat b) ([],[],[],[],[]);let b':=decide (b<(↑(length<|snd<|snd v1):Int));.ite b' (.ck (decide (0<=b)&&b')<|.ck (eF d)<|.ck (ac a (length c) 96)<|L12 v1 (zd .i64<|b+1) (c++[d])<|z8 a 1) (.leaf (yv [.nil,.nil,.sl 2 5 0 a none])<|[(2,.arr false 43 CF c),(1,.box [.nil,.nil,.sl 2 5 0 a none]),(0,.box [.nil,.nil,.sl 2 5 0 a none])]):=by kernel_rfl
theorem kX(v1:AW)(v4 f:Int)(g:List Hw)(h:List BR)(i e b d:Z)(a c:Nat):stepT BK (L13 v1 v4 f g h i e b d a c)=let k:=snd<|snd<|snd<|snd<|getD (fst v1) (toNat v4) ([],[],[],[],[]);let b':=decide (0<=v4)&&decide (v4<(↑(length<|fst v1):Int));let j:=decide (f<(↑(length k):Int));.ck b' (.ite j (.ck b'<|.ck (decide (0<=f)&&j)<|.ck b'<|.ck (decide (0<=f)&&j)<|.ck (ac a (length g) 24)<|L13 v1 v4 (zd .i64<|f+1) (g++[(getD k (toNat f) ([],0))]) h i e b d (z8 a 1) c)<|.ck (decide (0+a<=length g)&&true)<|.ck (ac c (length h) 88)<|L6 v1 (zd .i64<|v4+1) (h++[(i,e,b,d,take a g)])<|z8 c 1):=by kernel_rfl
def L17(v1:AW)(c:Int)(e:List CB)(d:List BR)(b a:Nat):Tr:=re ((stepT BK<|L14 ([],([],[])) 0 [] [] 0 0).R)<|Av 128 [(1,PV.BF BX v1 0),(2,.ptr 0 0),(3,.ptr 1 0),(8,.dat i64 c)] [(3,.arr false 98 Ek e),(2,.arr false 97 Ce d),(1,.box [.sl 2 5 0 b none,.sl 3 2 0 a none,.nil]),(0,.box [.nil,.nil,.nil])] 4
theorem nI(v1:AW)(c:Int)(d:List CB)(e:List BR)(b a:Nat):stepT BK (L14 v1 c d e b a)=let f:=decide (c<(↑(length<|fst<|snd v1):Int));.ite f (.ck (decide (0<=c)&&f)<|.ck (decide (0<=c)&&f)<|.ck (ac a (length d) 40)<|L14 v1 (zd .i64<|c+1) (d++[(getD (fst<|snd v1) (toNat c) ([],[]))]) e b<|z8 a 1) (L17 v1 0 d e b a):=by kernel_rfl
def L18(v1:AW)(c:Int)(e:List BT)(d:List BR)(b a:Nat):Tr:=re ((stepT BK<|L15 ([],([],[])) 0 [] 0).L.L.L.L)<|Av 128 [(1,PV.BF BX v1 0),(2,.ptr 0 0),(3,.ptr 1 0),(8,.dat i64 c)] [(3,.arr false 43 CF e),(2,.arr false 97 Ce d),(1,.box [.sl 2 5 0 b none,.nil,.sl 3 5 0 a none]),(0,.box [.nil,.nil,.nil])] 4
theorem eO(v1:AW)(b:Int)(c:List BR)(a:Nat):stepT BK (L15 v1 b c a)=let d:=getD (snd<|snd v1) (toNat b) ([],[],[],[],[]);let b':=decide (b<(↑(length<|snd<|snd v1):Int));.ite b' (.ck (decide (0<=b)&&b')<|.ck (eF d)<|.ck (aa 96)<|L18 v1 (zd .i64<|b+1) ([d]) c a 1) (.leaf (yv [.sl 2 5 0 a none,.nil,.nil])<|[(2,.arr false 97 Ce c),(1,.box [.sl 2 5 0 a none,.nil,.nil]),(0,.box [.sl 2 5 0 a none,.nil,.nil])]):=by kernel_rfl
theorem kY(v1:AW)(c:Int)(d:List BT)(e:List CB)(b a:Nat):stepT BK (L16 v1 c d e b a)=let f:=getD (snd<|snd v1) (toNat c) ([],[],[],[],[]);let b':=decide (c<(↑(length<|snd<|snd v1):Int));.ite b' (.ck (decide (0<=c)&&b')<|.ck (eF f)<|.ck (ac a (length d) 96)<|L16 v1 (zd .i64<|c+1) (d++[f]) e b<|z8 a 1) (.leaf (yv [.nil,.sl 2 2 0 b none,.sl 3 5 0 a none])<|[(3,.arr false 43 CF d),(2,.arr false 98 Ek e),(1,.box [.nil,.sl 2 2 0 b none,.sl 3 5 0 a none]),(0,.box [.nil,.sl 2 2 0 b none,.sl 3 5 0 a none])]):=by kernel_rfl
def L19(v1:AW)(d:Int)(f:List BT)(g:List CB)(e:List BR)(c b a:Nat):Tr:=re ((stepT BK<|L17 ([],([],[])) 0 [] [] 0 0).L.L.L.L)<|Av 128 [(1,PV.BF BX v1 0),(2,.ptr 0 0),(3,.ptr 1 0),(8,.dat i64 d)] [(4,.arr false 43 CF f),(3,.arr false 98 Ek g),(2,.arr false 97 Ce e),(1,.box [.sl 2 5 0 c none,.sl 3 2 0 b none,.sl 4 5 0 a none]),(0,.box [.nil,.nil,.nil])] 5
theorem oQ(v1:AW)(c:Int)(e:List CB)(d:List BR)(b a:Nat):stepT BK (L17 v1 c e d b a)=let f:=getD (snd<|snd v1) (toNat c) ([],[],[],[],[]);let b':=decide (c<(↑(length<|snd<|snd v1):Int));.ite b' (.ck (decide (0<=c)&&b')<|.ck (eF f)<|.ck (aa 96)<|L19 v1 (zd .i64<|c+1) ([f]) e d b a 1) (.leaf (yv [.sl 2 5 0 b none,.sl 3 2 0 a none,.nil])<|[(3,.arr false 98 Ek e),(2,.arr false 97 Ce d),(1,.box [.sl 2 5 0 b none,.sl 3 2 0 a none,.nil]),(0,.box [.sl 2 5 0 b none,.sl 3 2 0 a none,.nil])]):=by kernel_rfl
theorem jZ(v1:AW)(c:Int)(d:List BT)(e:List BR)(b a:Nat):stepT BK (L18 v1 c d e b a)=let f:=getD (snd<|snd v1) (toNat c) ([],[],[],[],[]);let b':=decide (c<(↑(length<|snd<|snd v1):Int));.ite b' (.ck (decide (0<=c)&&b')<|.ck (eF f)<|.ck (ac a (length d) 96)<|L18 v1 (zd .i64<|c+1) (d++[f]) e b<|z8 a 1) (.leaf (yv [.sl 2 5 0 b none,.nil,.sl 3 5 0 a none])<|[(3,.arr false 43 CF d),(2,.arr false 97 Ce e),(1,.box [.sl 2 5 0 b none,.nil,.sl 3 5 0 a none]),(0,.box [.sl 2 5 0 b none,.nil,.sl 3 5 0 a none])]):=by kernel_rfl
theorem lX(v1:AW)(d:Int)(e:List BT)(f:List CB)(g:List BR)(c b a:Nat):stepT BK (L19 v1 d e f g c b a)=let h:=getD (snd<|snd v1) (toNat d) ([],[],[],[],[]);let b':=decide (d<(↑(length<|snd<|snd v1):Int));.ite b' (.ck (decide (0<=d)&&b')<|.ck (eF h)<|.ck (ac a (length e) 96)<|L19 v1 (zd .i64<|d+1) (e++[h]) f g c b<|z8 a 1) (.leaf (yv [.sl 2 5 0 c none,.sl 3 2 0 b none,.sl 4 5 0 a none])<|[(4,.arr false 43 CF e),(3,.arr false 98 Ek f),(2,.arr false 97 Ce g),(1,.box [.sl 2 5 0 c none,.sl 3 2 0 b none,.sl 4 5 0 a none]),(0,.box [.sl 2 5 0 c none,.sl 3 2 0 b none,.sl 4 5 0 a none])]):=by kernel_rfl
end T10
namespace T59
def T(a:Z)(lo b:Int):Tr:=tree Acr false 9 59<|Ae ([ze,yy yb,yy yb]) (a,lo,b)
theorem Ak(a:Z)(lo b:Int):T a lo b=let e:Tr:=.leaf (.dat i64<|Am a) [];let b':=GF (z7 lo,zz lo);let c:=GF (z7 b,zz b);let d:Tr:=.leaf (.dat i64 (3:Int)) [];.cd (length a<=1000000) (.ite (Am a==0) (.ck (CG lo)<|.ck (CW (z7 lo,zz lo))<|.ck (B4 a&&EE b')<|.di (E0 a b'<0) d<|.ck (CG b)<|.ck (CW (z7 b,zz b))<|.ck (B4 a&&EE c)<|.di (E0 a c>0) d e) e):=by kernel_rfl
end T59
namespace T61
def T(s:Z)(l:List Z):Tr:=tree qT false 9 61<|Ae ([ze,zf ze]) (s,l)
def L1(v0:Z)(v1:List Z)(v5:Int):Tr:=re ((T [] []).L.R)<|Av 21 [(0,.dat ze v0),(1,.dat (zf ze) v1),(5,.dat i64 v5)] [] 0
theorem Ak(s:Z)(l:List Z):T s l=.ck true (.ite (!ye s) (.leaf (.dat i64 (8:Int)) [])<|L1 s l 0):=by kernel_rfl
theorem Al(v0:Z)(v1:List Z)(v5:Int):stepT qT (L1 v0 v1 v5)=let a:=decide (v5<(length v1:Int));.ite a (.ck (decide (0<=v5)&&a)<|.ite (getD v1 (toNat v5) []==v0) (.leaf (.dat i64 (9:Int)) [])<|L1 v0 v1<|zd .i64<|v5+1) (.leaf (.dat i64 (0:Int)) []):=by kernel_rfl
end T61
namespace T14
def T(l:BT):Tr:=tree QZ false 9 14<|Ae ([CF]) l
def L1(v4:Int)(e b c:Z)(a d:List BB):Tr:=re ((T ([],([],([],([],[]))))).L.R.L.L.L.L.L.R)<|Av 101 [(1,.ptr 0 0),(4,.dat i64 v4)] [(0,.box [.dat ze e,.dat ze b,.dat ze c,.dat (zf CS) a,.dat (zf CS) d])] 1
theorem Ak(l:BT):T l=let a:=fst<|snd<|snd<|snd l;let b:=fst<|snd<|snd l;let c:=BA (fst<|snd l) 1 10000==0;let b':=L1 1 (fst l) (fst<|snd l) b a<|snd<|snd<|snd<|snd l;let d:Tr:=.ck (decide (length a<=1000)&&JP 1000000 a)<|.ite (BV a !=0) (.leaf (.dat i64<|BV a) []) b';.ck true (.ite (!ye (fst l)) (.leaf (.dat i64 (8:Int)) [])<|.ck (decide (length (fst<|snd l)<=1000000)&&GB 1&&GB 10000)<|.ite c (.ck (decide (length b<=1000000)&&GB 1&&GB 10000)<|.ite (BA b 1 10000==0) d<|.ite (BA b 1 10000 !=0) (.leaf (.dat i64<|BA b 1 10000) []) b')<|.ite c d<|.ite (BA (fst<|snd l) 1 10000 !=0) (.leaf (.dat i64<|BA (fst<|snd l) 1 10000) []) b'):=by kernel_rfl
def L2(f:Int)(e b c:Z)(a d:List BB):Tr:=re ((stepT QZ<|L1 0 [] [] [] [] []).R.R)<|Av 101 [(1,.ptr 0 0),(5,.nil),(6,.dat i64 f)] [(0,.box [.dat ze e,.dat ze b,.dat ze c,.dat (zf CS) a,.dat (zf CS) d])] 1
theorem Al(v4:Int)(f c d:Z)(a b:List BB):stepT QZ (L1 v4 f c d a b)=let g:=snd<|getD a (toNat<|zd .i64<|v4-1) ([],[]);let b':=snd<|getD a (toNat v4) ([],[]);let e:=(length a:Int);.di (v4<e) (.ck (decide (0<=v4)&&decide (v4<e))<|.ck (decide (0<=zd .i64 (v4-1))&&decide (zd .i64 (v4-1)<e))<|.ck (B4 b'&&EE g)<|.di (E0 b' g<0) (.leaf (.dat i64 (11:Int)) [])<|L1 (zd .i64<|v4+1) f c d a b) (.di ((length b:Int)>16) (.leaf (.dat i64 (5:Int)) [])<|L2 0 f c d a b):=by kernel_rfl
def L3(e:Nat)(g:Int)(o1:List Z)(f b c:Z)(a d:List BB):Tr:=re ((stepT QZ<|L2 0 [] [] [] [] []).L.L.L.L.L.L.L.L.L.L.R.L.L)<|Av 101 [(1,.ptr 0 0),(5,.sl 1 1 0 e none),(6,.dat i64 g)] [(1,.arr false 9 ze o1),(0,.box [.dat ze f,.dat ze b,.dat ze c,.dat (zf CS) a,.dat (zf CS) d])] 2
theorem AJ(f:Int)(j b c:Z)(d a:List BB):stepT QZ (L2 f j b c d a)=let b':=getD a (toNat f) ([],[]);let m:=decide (f<(length a:Int));let e:=decide (0<=f)&&m;let g:=decide (length (snd b')<=1000000);let h':=decide (Ey (snd b')<0);let h:Tr:=.ck e<|.ck (aa 16)<|L3 1 (zd .i64<|f+1) ([fst b']) j b c d a;let k:Tr:=.ite (Am (snd b') !=0) (.leaf (.dat i64<|Am<|snd b') []) h;let l:Tr:=.ite (JU (fst b') [] !=0) (.leaf (.dat i64<|JU (fst b') []) []) h;let i:Tr:=.ite true (.leaf (.dat i64 (3:Int)) []) h;.ite m (.ck e<|.cd (0<=1000)<|.ite (JU (fst b') []==0) (.ck e<|.ck g<|.ite (Am (snd b')==0) (.ck e<|.ck g<|.ite h' i k) k)<|.ite (JU (fst b') []==0) (.ck e<|.ck g<|.ite h' i l) l) (.leaf (.dat i64 (0:Int)) []):=by kernel_rfl
theorem Ca(a:Nat)(g:Int)(o1:List Z)(j c d:Z)(e b:List BB):stepT QZ (L3 a g o1 j c d e b)=let b':=getD b (toNat g) ([],[]);let o:=decide (g<(length b:Int));let f:=decide (0<=g)&&o;let h:=decide (length (snd b')<=1000000);let h':=JU (fst b') (take a o1)==0;let m:=decide (Ey (snd b')<0);let i:Tr:=.ck f<|.ck (ac a (length o1) 16)<|L3 (z8 a 1) (zd .i64<|g+1) (o1++[fst b']) j c d e b;let k:Tr:=.ite (JU (fst b') (take a o1) !=0) (.leaf (.dat i64<|JU (fst b')<|take a o1) []) i;let l:Tr:=.ite (Am (snd b') !=0) (.leaf (.dat i64<|Am<|snd b') []) i;let n:Tr:=.ite true (.leaf (.dat i64 (3:Int)) []) i;.ite o (.ck f<|.ck (decide (0+a<=length o1)&&true&&decide (length (take a o1)<=1000))<|.ite h' (.ck f<|.ck h<|.ite (Am (snd b')==0) (.ck f<|.ck h<|.ite m n l) l)<|.ite h' (.ck f<|.ck h<|.ite m n k) k) (.leaf (.dat i64 (0:Int)) []):=by kernel_rfl
end T14
namespace T67
def T(s:BR):Tr:=tree wH false 9 67<|Ae ([Ce]) s
def L1(v4:Int)(e b c a:Z)(d:List Hw):Tr:=re ((T ([],([],([],([],[]))))).L.L.L.L.L.L.L.R.R)<|Av 61 [(1,.ptr 0 0),(4,.dat i64 v4)] [(0,.box [.dat ze e,.dat ze b,.dat ze c,.dat ze a,.dat (zf kZ) d])] 1
theorem Ak(s:BR):T s=let a:=snd<|snd<|snd s;let b:=fst<|snd<|snd s;let d:=BA (fst s) (-10000) 10000==0;let e:=BA (fst<|snd s) (-10000) 10000==0;let c:Tr:=.di ((↑(length<|snd a):Int)>16) (.leaf (.dat i64 (5:Int)) [])<|L1 0 (fst s) (fst<|snd s) b (fst a)<|snd a;let b':Tr:=.ck (decide (length (fst a)<=1000000)&&GB 0&&GB 10000)<|.ite (BA (fst a) 0 10000 !=0) (.leaf (.dat i64<|BA (fst a) 0 10000) []) c;let f:Tr:=.ck (decide (length b<=1000000)&&GB 0&&GB 10000)<|.ite (BA b 0 10000==0) b'<|.ite (BA b 0 10000 !=0) (.leaf (.dat i64<|BA b 0 10000) []) c;.ck (decide (length (fst s)<=1000000)&&GB (-10000)&&GB 10000) (.ite d (.ck (decide (length (fst<|snd s)<=1000000)&&GB (-10000)&&GB 10000)<|.ite e f<|.ite e b'<|.ite (BA (fst<|snd s) (-10000) 10000 !=0) (.leaf (.dat i64<|BA (fst<|snd s) (-10000) 10000) []) c)<|.ite d f<|.ite d b'<|.ite (BA (fst s) (-10000) 10000 !=0) (.leaf (.dat i64<|BA (fst s) (-10000) 10000) []) c):=by kernel_rfl
theorem Al(v4:Int)(g b c d:Z)(a:List Hw):stepT wH (L1 v4 g b c d a)=let b':=getD a (toNat v4) ([],0);let f:=decide (v4<(length a:Int));let h:Tr:=.leaf (.dat i64 (3:Int)) [];let e:=decide (0<=v4)&&f;.ite f (.ck e<|.ck true<|.ite (!ye (fst b')) (.leaf (.dat i64 (8:Int)) [])<|.ck e<|.di (snd b'<0) h<|.ck e<|.di (snd b'>10) h<|L1 (zd .i64<|v4+1) g b c d a) (.leaf (.dat i64 (0:Int)) []):=by kernel_rfl
end T67
namespace T16
def T(c:AW):Tr:=tree ES false 9 16<|Ae ([BX]) c
def L1(v3:Int)(c:List BR)(a:List CB)(b:List BT):Tr:=re ((T ([],([],[]))).R.R)<|Av 147 [(1,.ptr 0 0),(3,.dat i64 v3)] [(0,.box [.dat (zf Ce) c,.dat (zf Ek) a,.dat (zf CF) b])] 1
theorem Ak(c:AW):T c=.ite ((↑(length<|fst c):Int)==0) (.leaf (.dat i64 (12:Int)) []) (.di ((↑(length<|fst c):Int)>36) (.leaf (.dat i64 (5:Int)) [])<|L1 0 (fst c) (fst<|snd c)<|snd<|snd c):=by kernel_rfl
def L2(c:Int)(d:List BR)(a:List CB)(b:List BT):Tr:=re ((stepT ES<|L1 0 [] [] []).R.R.R)<|Av 147 [(1,.ptr 0 0),(5,.nil),(6,.dat i64 c)] [(0,.box [.dat (zf Ce) d,.dat (zf Ek) a,.dat (zf CF) b])] 1
theorem Al(v3:Int)(c:List BR)(a:List CB)(b:List BT):stepT ES (L1 v3 c a b)=let d:=getD c (toNat v3) ([],[],[],[],[]);let b':=decide (v3<(length c:Int));.ite b' (.ck (decide (0<=v3)&&b')<|.ck (Sp.Ce d)<|.ite (KQ d !=0) (.leaf (.dat i64<|KQ d) [])<|L1 (zd .i64<|v3+1) c a b) (.ite ((length a:Int)==0) (.leaf (.dat i64 (12:Int)) [])<|.di ((length a:Int)>8) (.leaf (.dat i64 (5:Int)) [])<|L2 0 c a b):=by kernel_rfl
def L3(f d v9:Int)(o1:Z)(a:List Int)(e:List BR)(b:List CB)(c:List BT):Tr:=re ((stepT ES<|L2 0 [] [] []).L.L.L.L.L)<|Av 147 [(1,.ptr 0 0),(5,.nil),(6,.dat i64 f),(7,.ptr 1 0),(8,.dat i64 d),(9,.dat i64 v9)] [(1,.box [.dat ze o1,.dat (zf i64) a]),(0,.box [.dat (zf Ce) e,.dat (zf Ek) b,.dat (zf CF) c])] 2
def L4(c:Int)(d:List BR)(a:List CB)(b:List BT):Tr:=re ((stepT ES<|L2 0 [] [] []).R.R.R)<|Av 147 [(1,.ptr 0 0),(5,.nil),(10,.dat i64 c)] [(0,.box [.dat (zf Ce) d,.dat (zf Ek) a,.dat (zf CF) b])] 1
theorem AJ(d:Int)(e:List BR)(a:List CB)(b:List BT):stepT ES (L2 d e a b)=let c:=getD a (toNat d) ([],[]);let f:=decide (d<(length a:Int));let b':=L3 d (JU (fst c) []) 0 (fst c) (snd c) e a b;.ite f (.ck (decide (0<=d)&&f)<|.cd (0<=1000)<|.ite (JU (fst c) []==0) (.ite ((↑(length<|snd c):Int) !=(length e:Int)) (L3 d 2 0 (fst c) (snd c) e a b) b') b') (.ite ((length b:Int)==0) (.leaf (.dat i64 (12:Int)) [])<|.di ((length b:Int)>8) (.leaf (.dat i64 (5:Int)) [])<|L4 0 e a b):=by kernel_rfl
def L5(c:Nat)(e:Int)(o1:List Z)(d:List BR)(a:List CB)(b:List BT):Tr:=re ((stepT ES<|L3 0 0 0 [] [] [] [] []).L.R.R.L)<|Av 147 [(1,.ptr 0 0),(5,.sl 1 1 0 c none),(6,.dat i64 e)] [(1,.arr false 9 ze o1),(0,.box [.dat (zf Ce) d,.dat (zf Ek) a,.dat (zf CF) b])] 2
theorem Ca(f d v9:Int)(o1:Z)(a:List Int)(e:List BR)(b:List CB)(c:List BT):stepT ES (L3 f d v9 o1 a e b c)=let i:Tr:=.ite (d !=0) (.leaf (.dat i64 d) [])<|.ck (aa 16)<|L5 1 (zd .i64<|f+1) [o1] e b c;let g:=decide (v9<(length a:Int));let h:=zd .i64<|v9+1;let b':=L3 f 3 h o1 a e b c;.ite g (.ite (d==0) (.ck (decide (0<=v9)&&g)<|.di (getD a (toNat v9) 0<1) b'<|.ck (decide (0<=v9)&&g)<|.di (getD a (toNat v9) 0>10000) b'<|L3 f d h o1 a e b c) i) i:=by kernel_rfl
def L6(c:Nat)(d:Int)(o1:List Z)(e:List BR)(a:List CB)(b:List BT):Tr:=re ((stepT ES<|L4 0 [] [] []).L.L.L.L.L.L.R.L.L)<|Av 147 [(1,.ptr 0 0),(5,.sl 1 1 0 c none),(10,.dat i64 d)] [(1,.arr false 9 ze o1),(0,.box [.dat (zf Ce) e,.dat (zf Ek) a,.dat (zf CF) b])] 2
theorem CD(b:Int)(f:List BR)(c:List CB)(a:List BT):stepT ES (L4 b f c a)=let d:=getD a (toNat b) ([],[],[],[],[]);let g:=decide (b<(length a:Int));let e:=decide (0<=b)&&g;let b':Tr:=.ck e<|.ck (aa 16)<|L6 1 (zd .i64<|b+1) ([fst d]) f c a;.ite g (.ck e<|.ck (MW d)<|.ite (Iq d==0) (.ck e<|.cd (0<=1000)<|.ite (JU (fst d) [] !=0) (.leaf (.dat i64<|JU (fst d) []) []) b')<|.ite (Iq d !=0) (.leaf (.dat i64<|Iq d) []) b') (.leaf (.dat i64 (0:Int)) []):=by kernel_rfl
def L7(d:Nat)(h e v9:Int)(f:Z)(c:List Int)(o1:List Z)(g:List BR)(a:List CB)(b:List BT):Tr:=re ((stepT ES<|L5 0 0 [] [] [] []).L.L.L.L.L)<|Av 147 [(1,.ptr 0 0),(5,.sl 1 1 0 d none),(6,.dat i64 h),(7,.ptr 2 0),(8,.dat i64 e),(9,.dat i64 v9)] [(2,.box [.dat ze f,.dat (zf i64) c]),(1,.arr false 9 ze o1),(0,.box [.dat (zf Ce) g,.dat (zf Ek) a,.dat (zf CF) b])] 3
theorem Eu(c:Nat)(e:Int)(o1:List Z)(f:List BR)(a:List CB)(b:List BT):stepT ES (L5 c e o1 f a b)=let d:=getD a (toNat e) ([],[]);let g:=decide (e<(length a:Int));let b':=L7 c e (JU (fst d)<|take c o1) 0 (fst d) (snd d) o1 f a b;.ite g (.ck (decide (0<=e)&&g)<|.ck (decide (0+c<=length o1)&&true&&decide (length (take c o1)<=1000))<|.ite (JU (fst d) (take c o1)==0) (.ite ((↑(length<|snd d):Int) !=(length f:Int)) (L7 c e 2 0 (fst d) (snd d) o1 f a b) b') b') (.ite ((length b:Int)==0) (.leaf (.dat i64 (12:Int)) [])<|.di ((length b:Int)>8) (.leaf (.dat i64 (5:Int)) [])<|L4 0 f a b):=by kernel_rfl
theorem EP(a:Nat)(c:Int)(o1:List Z)(g:List BR)(d:List CB)(b:List BT):stepT ES (L6 a c o1 g d b)=let b':=getD b (toNat c) ([],[],[],[],[]);let h:=decide (c<(length b:Int));let e:=decide (0<=c)&&h;let f:Tr:=.ck e<|.ck (ac a (length o1) 16)<|L6 (z8 a 1) (zd .i64<|c+1) (o1++[fst b']) g d b;.ite h (.ck e<|.ck (MW b')<|.ite (Iq b'==0) (.ck e<|.ck (decide (0+a<=length o1)&&true&&decide (length (take a o1)<=1000))<|.ite (JU (fst b') (take a o1) !=0) (.leaf (.dat i64<|JU (fst b')<|take a o1) []) f)<|.ite (Iq b' !=0) (.leaf (.dat i64<|Iq b') []) f) (.leaf (.dat i64 (0:Int)) []):=by kernel_rfl
theorem DT(d:Nat)(h e v9:Int)(f:Z)(a:List Int)(o1:List Z)(g:List BR)(b:List CB)(c:List BT):stepT ES (L7 d h e v9 f a o1 g b c)=let k:Tr:=.ite (e !=0) (.leaf (.dat i64 e) [])<|.ck (ac d (length o1) 16)<|L5 (z8 d 1) (zd .i64<|h+1) (o1++[f]) g b c;let i:=decide (v9<(length a:Int));let j:=zd .i64<|v9+1;let b':=L7 d h 3 j f a o1 g b c;.ite i (.ite (e==0) (.ck (decide (0<=v9)&&i)<|.di (getD a (toNat v9) 0<1) b'<|.ck (decide (0<=v9)&&i)<|.di (getD a (toNat v9) 0>10000) b'<|L7 d h e j f a o1 g b c) k) k:=by kernel_rfl
end T16
namespace T15
def T(c:AW):Tr:=tree Lq false 9 15<|Ae ([BX]) c
def L1(c:List BR)(e d:Int)(f:List BR)(a:List CB)(b:List BT):Tr:=re ((T ([],([],[]))).L.R)<|Av 116 [(1,.ptr 0 0),(26,.dat (zf Ce) c),(27,.dat i64 e),(28,.dat i64 d)] [(0,.box [.dat (zf Ce) f,.dat (zf Ek) a,.dat (zf CF) b])] 1
theorem Ak(c:AW):T c=let a:=(↑(length<|fst c):Int);.ck true (.ite (CY a 36 !=0) (.leaf (.dat i64<|CY a 36) [])<|L1 (fst c) a 0 (fst c) (fst<|snd c)<|snd<|snd c):=by kernel_rfl
def L2(d:List CB)(e c:Int)(o1:List (Z×Bool))(f:List BR)(a:List CB)(b:List BT):Tr:=re ((stepT Lq<|L1 [] 0 0 [] [] []).R.L.R)<|Av 116 [(1,.ptr 0 0),(8,PV.mp 1),(47,.dat (zf Ek) d),(48,.dat i64 e),(49,.dat i64 c)] [(1,Obj.map ze yj o1),(0,.box [.dat (zf Ce) f,.dat (zf Ek) a,.dat (zf CF) b])] 2
theorem Al(d:List BR)(e b:Int)(f:List BR)(a:List CB)(c:List BT):stepT Lq (L1 d e b f a c)=let g:=getD d (toNat b) ([],[],[],[],[]);let b':=(length a:Int);.di (b<e) (.ck (decide (0<=b)&&decide (b<(length d:Int)))<|.ck (Sp.Ce g)<|.ite (KQ g !=0) (.leaf (.dat i64<|KQ g) [])<|L1 d e (zd .i64<|b+1) f a c) (.ck true<|.ite (CY b' 8 !=0) (.leaf (.dat i64<|CY b' 8) [])<|L2 a b' 0 [] f a c):=by kernel_rfl
def L3(j:List CB)(h i:Int)(o1:List (Z×Bool))(n:List BR)(c:List CB)(d:List BT)(v0:List Int)(k l:Int)(m:Z)(e:List Int)(g:List (Z×Bool))(f:List BR)(b:List CB)(a:List BT):Tr:=re ((stepT Lq<|L2 j h i o1 n c d).L.L)<|Av 19 [(0,.dat (zf i64) v0),(1,PV.fn (Go.Fn.func 66) [] []),(7,.dat i64 k),(8,.dat i64 l)] [(2,.box [.dat ze m,.dat (zf i64) e]),(1,Obj.map ze yj g),(0,.box [.dat (zf Ce) f,.dat (zf Ek) b,.dat (zf CF) a])] 3
def L4(b:List BT)(a c:Int)(d:List (Z×Bool)):Tr:=re ((stepT Lq<|L2 [] 0 0 [] [] [] []).R.L.R)<|Av 116 [(14,PV.mp 0),(94,.dat (zf CF) b),(95,.dat i64 a),(96,.dat i64 c)] [(0,Obj.map ze yj d)] 1
theorem AJ(d:List CB)(e b:Int)(o1:List (Z×Bool))(g:List BR)(c:List CB)(a:List BT):stepT Lq (L2 d e b o1 g c a)=let f:=getD d (toNat b) ([],[]);let b':=(length a:Int);.di (b<e) (.ck (decide (0<=b)&&decide (b<(length d:Int)))<|L3 d e b o1 g c a (snd f) ((↑(length<|snd f):Int)) 0 (fst f) (snd f) o1 g c a) (.ck true<|.ite (CY b' 8 !=0) (.leaf (.dat i64<|CY b' 8) [])<|L4 a b' 0 []):=by kernel_rfl
theorem Ca(k:List CB)(i j:Int)(o1:List (Z×Bool))(r:List BR)(g:List CB)(h:List BT)(v0:List Int)(o d:Int)(l:Z)(c:List Int)(f:List (Z×Bool))(e:List BR)(b:List CB)(a:List BT):stepT Lq (L3 k i j o1 r g h v0 o d l c f e b a)=let b':=Option.getD (EJ ze yj l f) false;let m:=(length c:Int) !=(↑(length e):Int);let s:=L2 k i (zd .i64<|j+1) (Io ze yj l true f) e b a;let n:=!ye l;let p:=decide (4<=4)&&true&&decide (4<=1000000);let q:Tr:=.ck true<|.ck true<|.ck true<|.ck true<|.ck true<|.ck p<|.ite (zn [Cs n 8,Cs b' 9,Cs m 2,Cs (decide (d>=0)) 3] !=0) (.leaf (.dat i64<|zn [Cs n 8,Cs b' 9,Cs m 2,Cs (decide (d>=0)) 3]) []) s;.di (d<o) (.ck (decide (0<=d)&&decide (d<(length v0:Int)))<|.di (getD v0 (toNat d) 0<1) q<|.di (getD v0 (toNat d) 0>10000) q<|L3 k i j o1 r g h v0 o (zd .i64<|d+1) l c f e b a) (.ck true<|.ck true<|.ck true<|.ck true<|.ck true<|.ck p<|.ite (zn [Cs n 8,Cs b' 9,Cs m 2,Cs false 3] !=0) (.leaf (.dat i64<|zn [Cs n 8,Cs b' 9,Cs m 2,Cs false 3]) []) s):=by kernel_rfl
theorem CD(b:List BT)(c a:Int)(e:List (Z×Bool)):stepT Lq (L4 b c a e)=let d:=getD b (toNat a) ([],[],[],[],[]);let b':=Option.getD (EJ ze yj (fst d) e) false;.di (a<c) (.ck (decide (0<=a)&&decide (a<(length b:Int)))<|.ck (Sp.CF d)<|.ck true<|.ck (decide (2<=2)&&true&&decide (2<=1000000))<|.ite (zn [Iq d,Cs b' 9] !=0) (.leaf (.dat i64<|zn [Iq d,Cs b' 9]) [])<|L4 b c (zd .i64<|a+1)<|Io ze yj (fst d) true e) (.leaf (.dat i64 (0:Int)) []):=by kernel_rfl
end T15
namespace T68
def T(c:AW)(l:List (Int×Int)):Tr:=tree tN false 9 68<|Ae ([BX,zf<|zi i64 i64]) (c,l)
def L1(c:AW)(l:List (Int×Int))(v0:List (Int×Int))(d e:Int)(f:List BR)(a:List CB)(b:List BT):Tr:=re ((T c l).L.R)<|Av 19 [(0,.dat (zf<|zi i64 i64) v0),(1,PV.fn (Go.Fn.func 133) [] []),(7,.dat i64 d),(8,.dat i64 e)] [(0,.box [.dat (zf Ce) f,.dat (zf Ek) a,.dat (zf CF) b])] 1
theorem Ak(c:AW)(l:List (Int×Int)):T c l=.ck (Kq c) (.ite (Od c !=0) (.leaf (.dat i64<|Od c) [])<|L1 c l l ((length l:Int)) 0 (fst c) (fst<|snd c)<|snd<|snd c):=by kernel_rfl
theorem Al(c:AW)(l:List (Int×Int))(v0:List (Int×Int))(e d:Int)(f:List BR)(a:List CB)(b:List BT):stepT tN (L1 c l v0 e d f a b)=let g:Tr:=.ck true<|.leaf (.dat i64<|Cs (decide (d>=0)) 10) [];let b':=getD v0 (toNat d) (0,0);.di (d<e) (.ck (decide (0<=d)&&decide (d<(length v0:Int)))<|.di (fst b'<0) g<|.di (fst b'>=snd b') g<|L1 c l v0 e (zd .i64<|d+1) f a b) (.ck true<|.leaf (.dat i64<|Cs false 10) []):=by kernel_rfl
end T68
namespace T53
def T(a:Z)(lo b:Int):Tr:=tree Adr false 9 53<|Ae ([ze,yy yb,yy yb]) (a,lo,b)
theorem Ak(a:Z)(lo b:Int):T a lo b=let c:=((lo,CT lo),1,CT 1);let b':=((b,CT b),1,CT 1);.cd (length a<=1000000) (.ite (Am a !=0) (.leaf (.dat i64<|Am a) [])<|.ck (EB a)<|.ck true<|.ck (y7 (E8 a)&&y7 c)<|.di (FN (E8 a) c<0) (.ck true<|.leaf (.dat i64<|Cs true 3) [])<|.ck true<|.ck (y7 (E8 a)&&y7 b')<|.ck true<|.leaf (.dat i64<|Cs (decide (FN (E8 a) b'>0)) 3) []):=by kernel_rfl
end T53
namespace T57
def T(l:List BB):Tr:=tree sC false 9 57<|Ae ([zf CS]) l
def L1(b:List BB)(c a:Int)(d:List (Z×Bool)):Tr:=re ((T []).R)<|Av 44 [(3,PV.mp 0),(11,.dat (zf CS) b),(12,.dat i64 c),(13,.dat i64 a)] [(0,Obj.map ze yj d)] 1
theorem Ak(l:List BB):T l=.di ((length l:Int)>16) (.leaf (.dat i64 (5:Int)) []) (L1 l ((length l:Int)) 0 []):=by kernel_rfl
theorem Al(c:List BB)(d a:Int)(e:List (Z×Bool)):stepT sC (L1 c d a e)=let b:=getD c (toNat a) ([],[]);let b':=Option.getD (EJ ze yj (fst b) e) false;.di (a<d) (.ck (decide (0<=a)&&decide (a<(length c:Int)))<|.ck true<|.ck true<|.ck true<|.cd (length (snd b)<=1000000)<|.ck (decide (3<=3)&&true&&decide (3<=1000000))<|.ite (zn [Cs (!ye (fst b)) 8,Cs b' 9,Am<|snd b] !=0) (.leaf (.dat i64<|zn [Cs (!ye (fst b)) 8,Cs b' 9,Am<|snd b]) [])<|.ck (EB<|snd b)<|.ck (Sp.C5 (VQ<|snd b,Vx<|snd b))<|.di (P0 (E8<|snd b)<0) (.leaf (.dat i64 (3:Int)) [])<|L1 c d (zd .i64<|a+1)<|Io ze yj (fst b) true e) (.leaf (.dat i64 (0:Int)) []):=by kernel_rfl
end T57
namespace T13
def T(l:BT):Tr:=tree vZ false 9 13<|Ae ([CF]) l
def L1(v4:Int)(e b c:Z)(a d:List BB):Tr:=re ((T ([],([],([],([],[]))))).L.L.L.L.L.L.R)<|Av 51 [(1,.ptr 0 0),(4,.dat i64 v4)] [(0,.box [.dat ze e,.dat ze b,.dat ze c,.dat (zf CS) a,.dat (zf CS) d])] 1
theorem Ak(l:BT):T l=let a:=fst<|snd<|snd<|snd l;let b':=fst<|snd<|snd l;.ck true (.ck true<|.ck (decide (length (fst<|snd l)<=1000000)&&GB 1&&GB 10000)<|.ck (decide (length b'<=1000000)&&GB 1&&GB 10000)<|.ck (decide (length a<=1000)&&JP 1000000 a)<|.ck (decide (4<=4)&&true&&decide (4<=1000000))<|.ite (zn [Cs (!ye (fst l)) 8,BA (fst<|snd l) 1 10000,BA b' 1 10000,BV a] !=0) (.leaf (.dat i64<|zn [Cs (!ye (fst l)) 8,BA (fst<|snd l) 1 10000,BA b' 1 10000,BV a]) [])<|L1 1 (fst l) (fst<|snd l) b' a<|snd<|snd<|snd<|snd l):=by kernel_rfl
theorem Al(v4:Int)(g c d:Z)(a b:List BB):stepT vZ (L1 v4 g c d a b)=let f:=snd<|getD a (toNat<|zd .i64<|v4-1) ([],[]);let b':=snd<|getD a (toNat v4) ([],[]);let e:=(length a:Int);.di (v4<e) (.ck (decide (0<=v4)&&decide (v4<e))<|.ck (decide (0<=zd .i64 (v4-1))&&decide (zd .i64 (v4-1)<e))<|.ck (EB b')<|.ck (EB f)<|.ck (y7 (E8 b')&&y7 (E8 f))<|.di (FN (E8 b') (E8 f)<0) (.leaf (.dat i64 (11:Int)) [])<|L1 (zd .i64<|v4+1) g c d a b) (.ck (KP b 40 20)<|.leaf (.dat i64<|Mz b) []):=by kernel_rfl
end T13
namespace T64
def T(s:BR):Tr:=tree wR false 9 64<|Ae ([Ce]) s
def L1(c:List Hw)(b a:Int):Tr:=re ((T ([],([],([],([],[]))))).L.L.L.L.L.L.R)<|Av 56 [(30,.dat (zf kZ) c),(31,.dat i64 b),(32,.dat i64 a)] [] 0
theorem Ak(s:BR):T s=let a:=snd<|snd<|snd s;let b:=fst<|snd<|snd s;let b':=(↑(length<|snd a):Int);.ck (decide (length (fst s)<=1000000)&&GB (-10000)&&GB 10000) (.ck (decide (length (fst<|snd s)<=1000000)&&GB (-10000)&&GB 10000)<|.ck (decide (length b<=1000000)&&GB 0&&GB 10000)<|.ck (decide (length (fst a)<=1000000)&&GB 0&&GB 10000)<|.ck true<|.ck (decide (5<=5)&&true&&decide (5<=1000000))<|.ite (zn [BA (fst s) (-10000) 10000,BA (fst<|snd s) (-10000) 10000,BA b 0 10000,BA (fst a) 0 10000,Cs (decide (b'>16)) 5] !=0) (.leaf (.dat i64<|zn [BA (fst s) (-10000) 10000,BA (fst<|snd s) (-10000) 10000,BA b 0 10000,BA (fst a) 0 10000,Cs (decide (b'>16)) 5]) [])<|L1 (snd a) b' 0):=by kernel_rfl
theorem Al(b:List Hw)(c a:Int):stepT wR (L1 b c a)=let d:=getD b (toNat a) ([],0);let e:=decide (2<=2)&&true&&decide (2<=1000000);let f:=L1 b c<|zd .i64<|a+1;let b':=!ye (fst d);.di (a<c) (.ck (decide (0<=a)&&decide (a<(length b:Int)))<|.ck true<|.ck true<|.di (snd d<0) (.ck true<|.ck e<|.ite (zn [Cs b' 8,Cs true 3] !=0) (.leaf (.dat i64<|zn [Cs b' 8,Cs true 3]) []) f)<|.ck true<|.ck e<|.ite (zn [Cs b' 8,Cs (decide (snd d>10)) 3] !=0) (.leaf (.dat i64<|zn [Cs b' 8,Cs (decide (snd d>10)) 3]) []) f) (.leaf (.dat i64 (0:Int)) []):=by kernel_rfl
end T64
end
end Go.Pe
