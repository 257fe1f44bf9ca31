import Derived.Test.YtlohiljbghionaaGreatDoorX14
/- A part of a proof; no law is stated here. -/
noncomputable section
set_option maxRecDepth 10000
open Go.Pe.Ends renaming tt -> zc, leaf -> ze, ite -> zf, Ai -> zm, eq -> zo, ff -> zx
open Bool renaming and_eq_true -> zd, or_eq_false_iff -> z8, true_and -> yg
open Go.IntKind renaming wrap -> zg, i64 -> zh
open List renaming length_cons -> zi, all_eq_true -> zk, getD_eq_getElem?_getD -> zn, length_append -> zp, mem_cons_self -> zr, length_eq_zero_iff -> zt, getElem?_eq_getElem -> zy, length_singleton -> yc, mem_cons_of_mem -> ye, take_of_length_le -> yk, getElem?_eq_none -> ym, length_take -> yn, mem_cons -> yo, mem_of_mem_drop -> yq, length_map -> yt, length_drop -> y8
open Go.Lib renaming decDigits -> zj, itoa -> yy
open Int renaming toNat_natCast -> zl, mul_ne_zero -> yr, lt_of_lt_of_le -> yw, tdiv_eq_ediv_of_dvd -> y9, natAbs_mul -> qg, le_of_lt -> qk
open Go.Sp renaming CQ -> zq, rW -> yb, rN -> yf, B9 -> yi, first -> y7, Cw -> qc, vR -> qh, okO -> qj
open Go.Pe.Ad renaming of -> zu
open Go.Pe.Sh renaming int -> zw, str -> z6, bool -> yp, list -> yv
open Nat renaming le_refl -> zz, pow_le_pow_right -> yd, add_sub_cancel -> yh, lt_of_le_of_lt -> yx, beq_refl -> qd
open Classical renaming not_not -> z7, propDecidable -> yj
open Rat renaming divInt -> ya, not_lt -> yz, zero_add -> qe, num_eq_zero -> qf, lt_irrefl -> qi
open Go.Pe.PV renaming agg -> yu
namespace Go.Sp
theorem VA:∀(f n l:Nat) (a:Z),(HO f n l a).length<=a.length+f
 |0,_,_,a=>zz _
 |f+1,n,l,a=>by
  unfold HO;split
  ·omega
  ·have:=VA f (n/10) l (UInt8.ofNat (48+n % 10)::a);rw[zi]at this;omega
theorem Rb(n l:Int):(IG n l).length<=64:=by
 have:=VA 64 n.toNat l.toNat [];rw[List.length_nil,Nat.zero_add]at this;exact this
theorem V0{v:Int}{k:Nat}(h:v<(B9:Int)^k)(b:1<=k):(zj v.toNat).length<=9*k:=by
 rw[Yo]at h;have a:((10^(9*k):Nat):Int)=(10:Int)^(9*k):=Int.natCast_pow ..;rw[<-a]at h;refine En (k:=9*k) ?_ ae;have hp:0<10^(9*k):=Nat.pow_pos af;generalize 10^(9*k)=P at*;omega
end Go.Sp
variable {Q:Go.Pe.PV->Go.Pe.Ob->Prop}
namespace Go.Pe
open Sp
open Go.Det
theorem Acm{s:Sh}(f:s.sz=1){id n:Nat}{tail:Ob}{fz:Bool}{t:TypeId}{o:List s.T}(e:n=o.length):EB ⟨0,.leaf,(id,.arr fz t s o)::tail,0⟩ (.list s) (.sl id 1 0 n none)=some (true,o):=by
 subst e;have b:AR ((id,Obj.arr fz t s o)::tail) id=some (.arr fz t s o):=by unfold AR;rw[qd];rfl
 unfold EB;have a:Dl ⟨0,.leaf,(id,.arr fz t s o)::tail,0⟩ (PV.cells<|.sl id 1 0 o.length none)=some (true,[.dat (.list s) o]):=by
  show(match B3 ⟨0,.leaf,(id,.arr fz t s o)::tail,0⟩ (.sl id 1 0 o.length none),some (true,[])with|some (c,x),some (d,xs)=>some (c&&d,x::xs)|_,_=>none)=_;have:B3 ⟨0,.leaf,(id,.arr fz t s o)::tail,0⟩ (.sl id 1 0 o.length none)=some (true,.dat (.list s) o):=by
   unfold B3 AM.obj;simp only[b,f,qd,we];simp
  rw[this];rfl
 simp only[Ma,Sh.Rt];show(match Dl ⟨0,.leaf,(id,.arr fz t s o)::tail,0⟩ (PV.cells<|.sl id 1 0 o.length none)with|some (c,cs)=>_|none=>none)=_;rw[a];have:Dr (.list s) [PV.dat (.list s) o]=some o:=by
  unfold Dr CE wQ D6;simp
 simp only[Pc,this,yg]
theorem vQ{s:Sh}(b:s.sz=1){id n:Nat}{tail:Ob}{fz:Bool}{t:TypeId}{o:List s.T}(a:n=o.length):Iw [.list s] (.sl id 1 0 n none) ((id,.arr fz t s o)::tail)=some (true,o):=Acm b a
theorem HU(a:List Int)(i:Nat):IB a (i:Int)=a.getD i 0:=by unfold IB;rw[zl]
theorem xM:CX XR0:=fun g sp h=>by cases h
theorem T195.ok:Af A8 195 Xs:=by
 refine BR xM<|fun(i:List Int×Int) hi=>?_;obtain⟨a,i⟩:=i;have h0:0<=i:=w6 hi;have b:∀v ob,v=IB a i->Ad Xs (a,i) (.dat i64 v) ob:=fun v ob h=>zu rfl rfl h
 refine zo (T195.Aj a i)<|zf (fun c=>zc (Ab (w4 h0) c)<|ze<|b _ _ rfl)<|fun c=>ze<|b _ _ ?_;have c:=w7 c;unfold IB;rw[zn,ym ae];rfl
theorem ZZ:CX WR:=Aa T195.ok<|Aa T193.ok AE
theorem SH{x y c:Int}(d:0<=x/\x<1000000000)(b:0<=y/\y<1000000000)(a:0<=c/\c<=1):
  zg .i64 (zg .i64 (x+y)+c)=x+y+c/\Int.tmod (x+y+c) 1000000000=(x+y+c) % 1000000000/\zg .i64 (Int.tdiv (x+y+c) 1000000000)=(x+y+c)/1000000000:=by
 refine⟨?_,Int.tmod_eq_emod_of_nonneg ae,?_⟩
 ·rw[wr (x+y) ae ae];exact wr _ ae ae
 ·rw[Int.tdiv_eq_ediv_of_nonneg ae];exact wr _ ae ae
theorem pG{a b:List Int}(h:kR a b=true):Bb a=true/\Bb b=true/\a.length<=9000/\b.length<=9000:=by
 unfold kR at h;rw[zd,zd,zd,w5,w5]at h;exact⟨h.1.1.1,h.1.1.2,h.1.2,h.2⟩
theorem Yc{a b:List Int}(d:Bb a=true)(e:Bb b=true)(c:a.length<=9000)(f:b.length<=9000):kR a b=true:=by
 unfold kR;rw[d,e,w4 c,w4 f];rfl
namespace T156
theorem done(a b o:List Int)(i:Nat)(d:a.length<=i)(e:b.length<=i)(c:Q (.sl 0 1 0 o.length none) [(0,.arr false 3 (.int .i64) o)]):Ends WR (L2 a b o.length 0 i o) Q:=
 zm (AG ..) (zx (w8 ae)<|zx (w8 ae)<|zx af<|ze c)
theorem A2(a b:List Int)(j:Bb a=true)(l:Bb b=true)(z:a.length<=9000)(y:b.length<=9000)(t:Q (.sl 0 1 0 (Io a b).length none) [(0,.arr false 3 (.int .i64)<|Io a b)]):∀(k i:Nat) (o:List Int) (c:Int),i+k=max a.length b.length->Gg a b i o c->Ends WR (L2 a b o.length c i o) Q:=by
 have d:∀(i:Nat) (o:List Int),a.length<=i->b.length<=i->Gg a b i o 0->Ends WR (L2 a b o.length 0 i o) Q:=fun i o q e h=>by
  have:=h.fin q e;exact done a b o i q e (by rw[this];exact t)
 have next:∀(i:Nat) (o:List Int) (c:Int),i<=9000->Gg a b i o c->(i<a.length\/i<b.length\/0<c->Ends WR (L2 a b (o++[(a.getD i 0+b.getD i 0+c) % 1000000000]).length ((a.getD i 0+b.getD i 0+c)/1000000000) ((i+1:Nat):Int)<|o++[(a.getD i 0+b.getD i 0+c) % 1000000000]) Q)->Ends WR (L2 a b o.length c i o) Q:=fun i o c r h go=>by
  obtain⟨s1,s2,s3⟩:=SH (BI j i) (BI l i) h.c01;have g:=wn (i:=i) ae;have x:=h.len;have cap:(decide ((1:Nat)<=(1:Nat))&&true&&decide (o.length=o.length)&&decide ((3*(o.length+1)+2000)*8<=562949953421312))=true:=by
   rw[w4<|zz 1,w4 (p:=o.length=o.length) rfl,Bool.and_true,yg];exact w4 ae
  have h0:decide ((0:Int)<=(i:Int))=true:=w4 ae;rw[zp]at go;by_cases f:(i:Int)<(a.length:Int)
  ·refine zm (AG ..) ?_;conv=>zeta
   rw[HU,HU,s1,s2,s3,g];exact zc (w4 f) (zc h0<|zc h0<|zc rfl (zc cap<|zc rfl (go<|.inl ae)))
  ·by_cases s:(i:Int)<(b.length:Int)
   ·refine zm (AG ..) ?_;conv=>zeta
    rw[HU,HU,s1,s2,s3,g];exact zx (w8 f) (zc (w4 s)<|zc h0 (zc h0<|zc rfl (zc cap<|zc rfl (go<|.inr<|.inl ae))))
   ·by_cases n:c>0
    ·refine zm (AG ..) ?_;conv=>zeta
     rw[HU,HU,s1,s2,s3,g];exact zx (w8 f)<|zx (w8 s)<|zc (w4 n)<|zc h0<|zc h0<|zc rfl (zc cap<|zc rfl (go<|.inr<|.inr n))
    ·obtain rfl:c=0:=by have:=h.c01;omega
     exact d i o ae ae h
 intro k;induction k with
 |zero=>
  intro i o c r h;refine next i o c ae h (fun m=>?_);have e:=h.step j l m;have v:a.getD i 0=0:=by rw[zn,ym ae];rfl
  have z2:b.getD i 0=0:=by rw[zn,ym ae];rfl
  have u:=h.c01;have z3:(a.getD i 0+b.getD i 0+c)/1000000000=0:=by rw[v,z2];omega
  rw[z3]at e ⊢;exact d (i+1) _ ae ae e
 |succ k w=>
  intro i o c r h;exact next i o c ae h (fun m=>w (i+1) _ _ ae<|h.step j l m)
theorem ok:Af A8 156 Xl:=by
 refine BR ZZ<|fun(i:List Int×List Int) hi=>?_;obtain⟨a,b⟩:=i;obtain⟨ha,hb,la,lb⟩:=pG hi;obtain⟨s1,s2,s3⟩:=SH (BI ha 0) (BI hb 0) (c:=0) af;have h0:=Gg.start a b;have l:(0:Int)=((0:Nat):Int):=rfl;have go:(0<a.length\/0<b.length)->Ends WR (L2 a b 1 ((a.getD 0 0+b.getD 0 0+0)/1000000000) ((1:Nat):Int) [(a.getD 0 0+b.getD 0 0+0) % 1000000000]) (Ad Xl (a,b)):=fun f=>
  A2 a b ha hb la lb (zu (vQ rfl rfl) rfl rfl) (max a.length b.length-1) 1 _ _ ae (h0.step ha hb<|by rcases f with h|h<;>omega)
 refine zo (Aj a b)<|zm (Al ..) ?_;have g:IB a 0=a.getD 0 0:=rfl;have k:IB b 0=b.getD 0 0:=rfl;have j:zg .i64 ((0:Int)+1)=((1:Nat):Int):=rfl;rw[g,k,s1,s2,s3,j];refine zf (fun c=>?_)<|fun e=>zf (fun c=>?_)<|fun d=>zx rfl (ze<|zu (y:=[]) rfl rfl ?_)
 ·exact zc rfl (zc rfl (zc rfl (zc rfl (zc rfl (go<|.inl (by have:=w6 c;omega))))))
 ·exact zc rfl (zc rfl (zc rfl (zc rfl (zc rfl (go<|.inr (by have:=w6 c;omega))))))
 ·have e:=w7 e;have d:=w7 d;exact h0.fin ae ae
end T156
namespace T158
theorem Hn{x y c:Int}(d:0<=x/\x<1000000000)(b:0<=y/\y<1000000000)(a:0<=c/\c<=1):
  zg .i64 (zg .i64 (x-y)-c)=x-y-c/\zg .i64 (x-y-c+1000000000)=x-y-c+1000000000:=by
 refine⟨?_,wr _ ae ae⟩;rw[wr (x-y) ae ae];exact wr _ ae ae
theorem A2(a b:List Int)(g:Bb a=true)(f:Bb b=true)(m:a.length<=9000)(e:An b<=An a)(j:∀ob,Q (.dat li<|I5 a b) ob):∀(k i:Nat) (o:List Int) (c:Int),i+k=a.length->Hf a b i o c->Ends WR (L2 a b o.length c i o) Q
 |0,i,o,c,l,h=>by
  have l:i=a.length:=ae
  subst l;have q:=h.len;refine zm (AG ..) (zx (w8 ae) ?_);rw[yk<|zz _];refine zc (Ab (Ab (w4 ae) rfl)<|w4 ae)<|ze ?_;rw[h.fin f e];exact j _
 |k+1,i,o,c,l,h=>by
  obtain⟨s1,s2⟩:=Hn (BI g i) (BI f i) h.c01;have n:=wn (i:=i) ae;have q:=h.len;have cap:(decide ((1:Nat)<=(1:Nat))&&true&&decide (o.length=o.length)&&decide ((3*(o.length+1)+2000)*8<=562949953421312))=true:=by
   rw[w4<|zz 1,w4 (p:=o.length=o.length) rfl,Bool.and_true,yg];exact w4 ae
  refine zm (AG ..) ?_;conv=>zeta
  rw[HU,zl,s1,s2,n];refine zc (w4 ae) (zc (ad ae ae) (zc (w4 ae)<|zf (fun d=>zc cap ?_)<|fun d=>zc cap ?_))
  ·have:=A2 a b g f m e j k (i+1) _ _ ae<|h.step g f _ 1<|.inl ⟨w6 d,rfl,rfl⟩;rw[zp]at this;exact this
  ·have:=A2 a b g f m e j k (i+1) _ _ ae<|h.step g f _ 0<|.inr ⟨w7 d,rfl,rfl⟩;rw[zp]at this;exact this
theorem ok:Af A8 158 Xb:=by
 refine BR ZZ<|fun(i:List Int×List Int) e=>?_;obtain⟨a,b⟩:=i;have e:(kR a b&&decide (An b<=An a))=true:=e;rw[zd,w5]at e;obtain⟨e,hle⟩:=e;obtain⟨ha,hb,la,lb⟩:=pG e;have h0:=Hf.start a b;have f:∀ob,Ad Xb (a,b) (.dat li<|I5 a b) ob:=fun ob=>zu rfl rfl rfl
 refine zo (Aj a b)<|zm (Al ..) ?_;obtain⟨s1,s2⟩:=Hn (BI ha 0) (BI hb 0) (c:=0) af;have j:IB b 0=b.getD 0 0:=rfl;have g:zg .i64 ((0:Int)+1)=((1:Nat):Int):=rfl;rw[j,show Int.toNat 0=0 from rfl,s1,s2,g];refine zf (fun c=>?_)<|fun c=>?_
 ·have k:=w6 c;refine zc (Ab rfl c)<|zc rfl (zf (fun d=>zc rfl ?_)<|fun d=>zc rfl ?_)
  ·exact A2 a b ha hb la hle f (a.length-1) 1 _ _ ae<|h0.step ha hb _ 1<|.inl ⟨w6 d,rfl,rfl⟩
  ·exact A2 a b ha hb la hle f (a.length-1) 1 _ _ ae<|h0.step ha hb _ 0<|.inr ⟨w7 d,rfl,rfl⟩
 ·have c:=w7 c;have h:a=[]:=zt.1 ae;subst h;refine zc rfl (ze ?_);rw[Hf.fin h0 hb hle];exact f _
end T158
theorem OH:CX XR2:=Aa T155.ok<|Aa T156.ok<|Aa T157.ok<|Aa T158.ok<|Aa T159.ok<|Aa T154.ok AE
theorem H9{n:Int}{k:Nat}(h0:0<=n)(h:n<(yi:Int)^k):(BS n).length<=k:=OB h0 h
theorem JU{a:Bool×List Int}(h:CA a=true):0<=An a.2/\An a.2<(yi:Int)^3000:=by
 obtain⟨c,d,_⟩:=Dk h;refine⟨(E3 h).2,yw (Bz (b:=yi) af (Bu c).2.1)<|AQ af d⟩
theorem QB{x y:Int}{k:Nat}(c:x<(yi:Int)^k)(a:y<(yi:Int)^k):x+y<(yi:Int)^(k+1):=by
 have:(yi:Int)^(k+1)=(yi:Int)^k*1000000000:=Int.pow_succ ..;have hp:=AU (b:=(yi:Int)) af k;rw[this];omega
theorem T94.ok:Af A8 94 mZ:=by
 refine BR OH<|fun(i:(Bool×List Int)×(Bool×List Int)) f=>?_;obtain⟨a,b⟩:=i;have f:(CA a&&CA b)=true:=f;rw[zd]at f;obtain⟨ha,hb⟩:=f;obtain⟨a1,a2,_⟩:=Dk ha;obtain⟨b1,b2,_⟩:=Dk hb;obtain⟨va,wa⟩:=JU ha;obtain⟨vb,wb⟩:=JU hb;have pl:=Yc a1 b1 ae ae;have g:=Yc b1 a1 ae ae;refine zo (T94.Aj a b)<|zf (fun c=>?_)<|fun c=>zc (Ab a1 b1)<|zf (fun d=>?_)<|fun d=>?_
 ·have h:(Io a.2 b.2).length<=3001:=H9 ae<|QB wa wb;exact zc pl (zc (w4 ae)<|ze<|zu rfl rfl (cO ha hb<|by simpa using c))
 ·have e:An b.2<=An a.2:=by
   have d:=w6 d;unfold Ck at d;split at d
   ·omega
   ·omega
  have h:(I5 a.2 b.2).length<=3000:=H9 ae ae;exact zc (Ab pl<|w4 e) (zc (w4 ae)<|ze (zu rfl rfl (Zg hb (by simpa using c) e)))
 ·have e:An a.2<=An b.2:=by
   have d:=w7 d;unfold Ck at d;split at d
   ·omega
   ·split at d<;>omega
  have h:(I5 b.2 a.2).length<=3000:=H9 ae ae;exact zc (Ab g<|w4 e) (zc (w4 ae)<|ze<|zu rfl rfl (uK ha (by simpa using c) e))
theorem T95.ok:Af A8 95 ZF:=by
 refine BR OH<|fun(i:(Bool×List Int)×(Bool×List Int)) c=>?_;obtain⟨a,b⟩:=i;have c:(CA a&&CA b)=true:=c;rw[zd]at c;obtain⟨ha,hb⟩:=c;obtain⟨a1,a2,_⟩:=Dk ha;obtain⟨b1,b2,_⟩:=Dk hb;obtain⟨va,wa⟩:=JU ha;obtain⟨vb,wb⟩:=JU hb;have d:An a.2*An b.2<(yi:Int)^(3000+3000):=by
  rw[Int.pow_add];have hp:(0:Int)<(yi:Int)^3000:=AU af 3000;exact Int.lt_of_le_of_lt (Int.mul_le_mul_of_nonneg_left (qk wb) va)<|Int.mul_lt_mul_of_pos_right wa hp
 have e:=H9 (Int.mul_nonneg va vb) d;exact zo (T95.Aj a b) (zc (Ab (Ss ae (Bu a1).2.1)<|Ss ae (Bu b1).2.1) (zc (w4 ae)<|ze<|zu rfl rfl (iJ ha hb)))
theorem T153.ok:Af A8 153 aD:=by
 refine BR OH<|fun(a:Bool×List Int) b=>?_;have b:CA a=true:=b;have:=(Dk b).2.1;exact zo (T153.Aj a) (zc (w4 ae)<|ze<|zu rfl rfl (gM b))
theorem T150.ok:Af A8 150 Zy:=by
 refine BR OH<|fun(i:(Bool×List Int)×(Bool×List Int)) f=>?_;obtain⟨a,b⟩:=i;have f:(CA a&&CA b&&decide (0<qh b))=true:=f;rw[zd,zd,w5]at f;obtain⟨⟨ha,hb⟩,h0⟩:=f;obtain⟨a1,a2,_⟩:=Dk ha;obtain⟨b1,b2,_⟩:=Dk hb;obtain⟨va,wa⟩:=JU ha;have j:=(MO hb h0).2;have hp:0<An b.2:=by rw[<-j];exact h0
 have q0:=Int.ediv_nonneg va<|qk hp;have q1:An a.2/An b.2<(yi:Int)^3000:=Int.lt_of_le_of_lt (Int.ediv_le_self _ va) wa;have l:=Int.emod_nonneg (An a.2) (show An b.2≠0 by omega);have m:=H9 q0 q1;have k:=(F9 q0 q1 af).1;have g:(BS<|An a.2 % An b.2).length=0↔An a.2 % An b.2=0:=by
  rw[zt];exact oD (b:=yi) af l
 refine zo (T150.Aj a b) (zc (Ab (Ab (Ab (Ab a1 b1)<|w4 ae)<|w4 ae)<|w4 hp)<|zf (fun c=>zf (fun d=>?_)<|fun d=>?_)<|fun c=>?_)
 ·have d:=w6 d;have hr:An a.2 % An b.2≠0:=fun e=>by have:=g.2 e;omega
  have h:(Io (BS<|An a.2/An b.2) [1]).length<=3001:=by
   refine H9 ?_ ?_
   ·rw[(EF q0).1];show 0<=_+(1:Int);omega
   ·rw[(EF q0).1];exact QB q1 (yw (show(1:Int)<(yi:Int)^1 by decide)<|AQ af af)
  exact zc (Yc k rfl ae af) (zc (w4 ae)<|ze<|zu rfl rfl (WY ha hb h0 c hr))
 ·have d:=w7 d;exact zc (w4 ae) (ze<|zu rfl rfl (Q4 ha hb h0<|.inr<|g.1 ae))
 ·exact zc (w4 ae)<|ze<|zu rfl rfl (Q4 ha hb h0<|.inl c)
theorem rV:CX XR3:=Aa T99.ok AE
namespace T96
theorem Ar(neg:Bool)(w:List Int)(f:Bb w=true)(m:w.length<=3000)(e:∀ob,Q (.dat .str (if neg=true then 45::zj (An w).toNat else zj (An w).toNat)) ob):∀(i:Nat),i<=w.length->0<Sp.val yi (w.drop i)->Ends XR3 (L1 (zj (Sp.val yi<|w.drop i).toNat) ((i:Int)-1) neg w) Q:=by
 have a:∀i,(zj (Sp.val yi<|w.drop i).toNat).length<=27000:=fun i=>by
  have l:=Bz (b:=yi) af<|E9 (Bu f).2.1 i;have h:(yi:Int)^(w.drop i).length<=(yi:Int)^3000:=AQ af (by rw[y8];omega);exact V0 (k:=3000) (yw l h) af
 intro i;induction i with
 |zero=>
  intro _ _;have d:=a 0;rw[List.drop_zero]at d ⊢;have d:(zj (An w).toNat).length<=27000:=d;refine zm (Al ..) (zx af (zf (fun c=>zc (w4<|by show 1+(zj (An w).toNat).length<=_;omega)<|ze ?_)<|fun c=>ze ?_))
  ·rw[wd c]at e;exact e _
  ·rw[wc<|by rw[c];decide]at e;exact e _
 |succ i n=>
  intro p h0;have g:=BI f i;have j:(((i+1:Nat):Int)-1)=(i:Int):=ae
  have d:=a<|i+1;have o:(IG (w.getD i 0) 9).length<=64:=by
   have:=Rb (w.getD i 0) 9;exact this
  obtain⟨s1,s2⟩:=bT f i h0;rw[j];refine zm (Al ..) ?_;conv=>zeta
  rw[zl,s1,wr ((i:Int)-1) ae ae];exact zc (w4 ae) (zc (ad ae ae)<|zc (Ab (Ab (Ab (w4 g.1)<|w4 ae) rfl) rfl) (zc (w4 ae)<|n ae s2))
theorem ok:Af A8 96 Rh:=by
 refine BR rV<|fun(a:Bool×List Int) b=>?_;have b:CA a=true:=b;obtain⟨a1,a2,_⟩:=Dk b;refine zo (Aj a)<|zf (fun c=>ze<|zu rfl rfl (nX ?_))<|fun c=>?_
 ·exact zt.1 (by have:(a.2.length:Int)=0:=(by simpa using c);omega)
 ·have c:(a.2.length:Int)≠0:=by simpa using c
  obtain⟨i,d⟩:∃i,a.2.length=i+1:=⟨a.2.length-1,by omega⟩;have g:=BI a1 i;obtain⟨s1,s2⟩:=XY a1 d;have f:zg .i64 ((a.2.length:Int)-1)=(i:Int):=by rw[wr _ ae ae];omega
  have e:zg .i64 ((a.2.length:Int)-2)=(i:Int)-1:=by rw[wr _ ae ae];omega
  rw[f,e,zl,s1];refine zc (ad ae ae) (zc (Ab (Ab (Ab (w4 g.1)<|w4 ae) rfl) rfl)<|Ar a.1 a.2 a1 a2 (fun ob=>zu rfl rfl ?_) i ae s2);exact mH b (by intro h;rw[h]at d;cases d)
end T96
end Go.Pe
namespace Go.Sp
theorem mS{a k m:Nat}(h:a<10^k)(b:k<=m):a<10^m:=Nat.lt_of_lt_of_le h (yd af b)
theorem lR{a b k:Nat}(c:a<10^k)(d:b<10^k):a+b<10^(k+1):=by rw[Nat.pow_succ];omega
theorem KY{n:Int}{k:Nat}(h:n.natAbs<10^k)(a:k<=27000):CA (rN n,rW n)=true:=TV<|mS (m:=27000) h a
theorem Hx{m n:Int}(h:CA (rN n,rW n)=true)(a:m.natAbs<=n.natAbs):CA (rN m,rW m)=true:=by
 have:=AaI h;rw[Ft]at this;exact TV<|yx a this
theorem LJ{n:Int}(h:Cn n=true):CA (rN n,rW n)=true:=by
 have h:=Go.Pe.EG h;exact KY (k:=20) (by have:10^20=100000000000000000000:=rfl;omega) af
theorem UZ{n:Int}(h:CA (rN n,rW n)=true):Bb (rW n)=true/\(rW n).length<=3000/\Ah n<(B9:Int)^3000:=by
 obtain⟨b,a,_⟩:=Dk h;refine⟨b,a,?_⟩;have:=(Go.Pe.JU h).2;rwa [show An (rN n,rW n).2=Ah n from KO n]at this
theorem WK{n:Int}(h:CA (rN n,rW n)=true):(AY n).length<=27001:=by
 have b:=(UZ h).2.2;have a:=V0 b af;have e:(Ah n).toNat=n.natAbs:=by rw[Ak];omega
 rw[e]at a;unfold AY yy;split
 ·rw[zi];omega
 ·rw[show n.toNat=n.natAbs by omega];omega
theorem Mf(n:Int):FQ (rN n,rW n)=AY n:=by unfold FQ;rw[Ft]
theorem Xv{N D:Int}(a:0<D):Int.tdiv N (gI (Ah N) D)=(ya N D).num/\Int.tdiv D (gI (Ah N) D)=((ya N D).den:Int):=by
 have e:D.sign=1:=Int.sign_eq_one_of_pos a;have b:gI (Ah N) D=(Int.gcd N D:Int):=by rw[Gx,Ak];rfl
 have c:(Int.gcd N D:Int)∣N:=Int.gcd_dvd_left ..;have d:(Int.gcd N D:Int)∣D:=Int.gcd_dvd_right ..;rw[b,y9 c,y9 d];refine⟨?_,(HY (N:=N) a).2.2.1▸?_⟩
 ·rw[Rat.num_divInt,e,Int.one_mul,Int.gcd_comm]
 ·rw[b]
theorem Sg(x y:Int):HQ (rN x,rW x) (rN y,rW y)=rN (x*y):=by unfold HQ;rw[Ft,Ft]
theorem SI(x y:Int):H3 (rN x,rW x) (rN y,rW y)=rW (x*y):=by unfold H3;rw[Ft,Ft]
theorem nB(x y:Int):Nx (rN x,rW x) (rN y,rW y)=rN (x+y):=by unfold Nx;rw[Ft,Ft]
theorem lZ(x y:Int):NW (rN x,rW x) (rN y,rW y)=rW (x+y):=by unfold NW;rw[Ft,Ft]
theorem QE(x y:Int):IA (rN x,rW x) (rN y,rW y)=CT x y:=by unfold IA;rw[Ft,Ft]
theorem Wf{a b:Nat}(h:a<=b):(zj a).length<=(zj b).length:=by
 have c:=Lib.lt_pow_nDigits b;have d:1<=(zj b).length:=List.length_pos_iff.2<|Tu b;rw[<-Lib.decDigits_length]at c;exact En (yx h c) d
theorem neg_num(x:Rat):(x.num<0↔x<0)/\(x.num>0↔0<x):=by
 rw[Rat.lt_iff,Rat.lt_iff];have:(0:Rat).num=0:=rfl;have a:((0:Rat).den:Int)=1:=rfl;rw[this,a];omega
theorem lC(p q:Rat):NQ (p-q).num=if p<q then -1 else if q<p then 1 else 0:=by
 obtain⟨b,a⟩:=neg_num<|p-q;have d:p-q<0↔p<q:=by rw[Rat.sub_lt_iff,qe]
 have c:0<p-q↔q<p:=(Rat.lt_iff_sub_pos q p).symm;unfold NQ;simp only[b,a,d,c]
end Go.Sp
namespace Go.Pe
open Sp
open Go.Det
theorem sZ:CX qU:=Aa T153.ok<|Aa T130.ok<|Aa T154.ok<|Aa T155.ok<|Aa T96.ok AE
namespace T93
theorem Dp(n d:Int)(i:CA (yf n,yb n)=true)(a:CA (yf d,yb d)=true)(b:0<=d)(f:∀ob,Q (.dat .str (AY n++47::AY d)) ob):Ends qU (L3 (BS d)<|AY n) Q:=by
 have l1:=WK i;have j:=WK a;have e:yb d=BS d:=by unfold yb;rw[Ak,Int.natAbs_of_nonneg b]
 have h:=(UZ a).2.1;rw[e]at h;obtain⟨g,c⟩:=EF b;have hp:(CM false<|BS d,Ay<|BS d)=(yf d,yb d):=KI c ae (fun k=>(by cases k))<|fun _=>g.symm;refine zm (BA ..) ?_;conv=>zeta
 rw[hp,Mf];refine zc (w4 ae) (zc (w4 ae)<|zc a<|zc (w4<|by rw[zp,yc];omega)<|ze ?_);rw[List.append_assoc];exact f _
theorem A2(n d:Int)(k:CA (yf n,yb n)=true)(j:CA (yf d,yb d)=true)(l:0<d)(a:d=1->∀ob,Q (.dat .str<|AY n) ob)(i:d≠1->∀ob,Q (.dat .str (AY n++47::AY d)) ob):Ends qU (L2 (BS d)<|AY n) Q:=by
 have b:=uY (n:=d) ae;by_cases h:d=1
 ·rw[b.2 h];exact zm (AG ..)<|zc rfl (zc rfl (zc rfl (ze<|a h _)))
 ·have g:=Dp n d k j ae<|i h;refine zm (AG ..)<|zf (fun c=>zc ?_<|zf (fun e=>?_)<|fun _=>g)<|fun _=>g
  ·have c:((BS d).length:Int)=1:=by simpa using c
   exact w4 ae
  ·exfalso;have c:((BS d).length:Int)=1:=by simpa using c
   have e:(BS d).getD 0 0=1:=by simpa using e
   refine h<|b.1 ?_;cases f:BS d with
   |nil=>rw[f]at c;cases c
   |cons x r=>
    rw[f]at c e;have hr:r=[]:=zt.1 (by have:((r.length+1:Nat):Int)=1:=c;omega);have e:x=1:=e;rw[hr,e]
theorem Ar(N D:Int)(i:CA (yf N,yb N)=true)(f:CA (yf D,yb D)=true)(h0:0<D)(j:∀ob,Q (.dat .str<|CT N D) ob):Ends qU (L1 (yf D) (yb D) (yf N)<|yb N) Q:=by
 obtain⟨n1,v,w⟩:=UZ i;obtain⟨d1,d2,d3⟩:=UZ f;obtain⟨g0,f1,f2,f3⟩:=HY (N:=N) h0;have c:Ah D=D:=by rw[Ak,Int.natAbs_of_nonneg<|qk h0]
 have l:CF (yb N) (yb D)=BS (Sp.gI (Ah N) D):=by
  unfold CF;rw[KO,KO,c]
 have s:Sp.gI (Ah N) D<=D:=by
  have q:Sp.gI (Ah N) D=(Int.gcd N D:Int):=by rw[Gx,Ak];rfl
  rw[q];exact Int.le_of_dvd h0<|Int.gcd_dvd_right ..
 have fn:=hH h0 (neg:=yf N) rfl;have o:(ya N D).num.natAbs<=N.natAbs:=(Ga (n:=N) (d:=D) ae).1;have p:(ya N D).den<=D.natAbs:=(Ga (n:=N) (d:=D) ae).2;have CQ:=Hx (m:=(ya N D).num) i o;have a:=Hx (m:=((ya N D).den:Int)) f (by rw[Int.natAbs_natCast];exact p);have r:Ah (ya N D).num<(yi:Int)^3000:=(UZ CQ).2.2;have e:=Sq (N:=N) (D:=D);have u:=(ya N D).den_pos;have a0:=OO (ya N D).num;rw[c]at d3;refine zm (Al ..) ?_;conv=>zeta
 rw[l,KO,KO,c];generalize Sp.gI (Ah N) D=g at*;have b:=F9 (n:=g) (k:=3000) ae ae af;rw[b.2.2.1,fn,f1,f2,Mf];have t:=H9 a0 r;refine zc (Ab (Ab (Ab n1 d1)<|w4 ae)<|w4 ae) (zc (Ab (Ab (Ab (Ab n1 b.1)<|w4 ae)<|w4 ae)<|w4 g0) (zc (Ab (Ab (Ab (Ab d1 b.1)<|w4 ae)<|w4 ae)<|w4 g0)<|zc (w4 ae)<|zc CQ<|A2 _ _ CQ a ae (fun h ob=>?_)<|fun h ob=>?_))
 ·have:=j ob;rw[e,wd ae]at this;exact this
 ·have:=j ob;rw[e,wc ae]at this;exact this
theorem ok:Af A8 93 Nk:=by
 refine BR sZ<|fun(i:(Bool×List Int)×(Bool×List Int)) g=>?_;obtain⟨a,b⟩:=i;have g:(CA a&&CA b&&decide (qh b≠0))=true:=g;rw[zd,zd,w5]at g;obtain⟨⟨ha,hb⟩,h0⟩:=g;have k:=Aaj ha;have l:=Aaj hb;have h:∀ob,Ad Nk (a,b) (.dat .str<|CT (qh a)<|qh b) ob:=fun ob=>zu rfl rfl rfl
 have e:=ha;have d:=hb;rw[k]at e;rw[l]at d;refine zo (Aj a b)<|zf (fun c=>zc ha<|zc hb ?_)<|fun c=>?_
 ·have j:qh b<0:=by
   have:=QP hb;rw[c]at this;exact w6 this.symm
  have:=Ar (Q:=Ad Nk (a,b)) (-qh a) (-qh b) (Hx e<|by rw[Int.natAbs_neg];exact zz _) (Hx d<|by rw[Int.natAbs_neg];exact zz _) ae (fun ob=>by rw[V9];exact h ob);exact this
 ·have f:0<qh b:=by
   have:=QP hb;rw[c]at this;have:=w7 this.symm;omega
  have:=Ar (Q:=Ad Nk (a,b)) (qh a) (qh b) e d f h;rw[<-QP ha, <-AbX ha, <-QP hb, <-AbX hb]at this;exact this
end T93
theorem uM:CX fC:=Aa T97.ok<|Aa T93.ok<|Aa T98.ok<|Aa T99.ok AE
namespace T40
theorem U1{n:Int}(a: -9000000000000000000<=n)(b:n<=9000000000000000000):imax n (zg .i64<|0-n)=Ah n:=by
 rw[wr _ ae ae];unfold imax Ah;split<;>split<;>omega
theorem Cb(n d:Int)(v:Z)(b:v=AY n)(h:v.length<=27001)(i:0<d)(g:d<9000000000000000000)(a:d=1->∀ob,Q (.dat .str<|AY n) ob)(f:d≠1->∀ob,Q (.dat .str (AY n++47::AY d)) ob):Ends fC (L4 d v) Q:=by
 have j:=Rb d 1;have e:IG d 1=AY d:=by
  rw[QK ae ae];unfold AY yy;rw[wc ae]
 refine zm (Ci ..) (zf (fun c=>zc (w4 ae)<|zc (Ab (Ab (ad ae ae) rfl) rfl)<|zc (w4<|by rw[zp,yc];omega)<|ze ?_)<|fun c=>ze ?_)
 ·have c:=w6 c;rw[b,e,List.append_assoc];exact f ae _
 ·have c:=w7 c;rw[b];exact a ae _
theorem Dp(n d:Int)(n1: -9000000000000000000<n)(i:n<9000000000000000000)(h:0<d)(f:d<9000000000000000000)(a:d=1->∀ob,Q (.dat .str<|AY n) ob)(g:d≠1->∀ob,Q (.dat .str (AY n++47::AY d)) ob):Ends fC (L3 n d) Q:=by
 have j:=Rb (Ah n) 1;have k:=Ak n;have e:IG (Ah n) 1=zj n.natAbs:=by
  rw[QK ae ae];congr 1;omega
 have b:=aW n;refine zm (BA ..) ?_;conv=>zeta
 rw[U1 ae ae];have hr:(decide (0<=Ah n)&&decide (Ah n<9223372036854775808)&&decide ((0:Int)<=1)&&decide ((1:Int)<=20))=true:=Ab (Ab (ad ae ae) rfl) rfl;refine zf (fun c=>zc hr<|zc (w4 ae)<|Cb n d _ ?_ ?_ h f a g) (fun c=>zc hr<|zc (w4 ae)<|Cb n d _ ?_ ?_ h f a g)
 ·have c:=w6 c;rw[wd c]at b;rw[e];exact b.symm
 ·rw[zp,yc];omega
 ·have c:=w7 c;rw[wc c]at b;rw[e];exact b.symm
 ·rw[List.nil_append];omega
theorem A2(n d:Int)(n1: -9000000000000000000<n)(i:n<9000000000000000000)(c:0<d)(f:d<9000000000000000000)(a:∀ob,Q (.dat .str<|CT n d) ob):Ends fC (L2 n d) Q:=by
 obtain⟨j,_⟩:=HY (N:=n) c;obtain⟨q1,q2⟩:=Xv (N:=n) c;obtain⟨l1,l2⟩:=Ga (n:=n) (d:=d) ae;have k:=Ak n;have g:=(ya n d).den_pos;have e:=Sq (N:=n) (D:=d);refine zm (AG ..) ?_;conv=>zeta
 rw[U1 ae ae,q1,q2,wr _ ae ae,wr _ ae ae];have b:decide (Sp.gI (Ah n) d≠0)=true:=w4 ae;refine zc (Ab (Ab (ad ae ae)<|w4 ae)<|w4 ae) (zc b<|zc b<|Dp _ _ ae ae ae ae (fun h ob=>?_)<|fun h ob=>?_)
 ·have:=a ob;rw[e,wd ae]at this;exact this
 ·have:=a ob;rw[e,wc ae]at this;exact this
theorem ok:Af A8 40 YU:=by
 refine BR uM<|fun(i:Int×Int) e=>?_;obtain⟨n,d⟩:=i;have e:(Cn n&&Cn d&&decide (d≠0))=true:=e;rw[zd,zd,w5]at e;obtain⟨⟨hn,hd⟩,h0⟩:=e;have b:∀ob,Ad YU (n,d) (.dat .str<|CT n d) ob:=fun ob=>zu rfl rfl rfl
 have a:(CA (yf n,yb n)&&CA (yf d,yb d)&&decide (qh (yf d,yb d)≠0))=true:=Ab (Ab (LJ hn)<|LJ hd) (by rw[Ft];exact w4 h0);refine zo (Aj n d) ?_;conv=>zeta
 rw[QE];refine zf (fun _=>zc hn<|zc hd<|zc a<|ze<|b _)<|fun j=>zf (fun _=>zc hn<|zc hd<|zc a<|ze<|b _)<|fun h=>zf (fun _=>zc hn<|zc hd<|zc a<|ze<|b _)<|fun g=>zf (fun _=>zc hn<|zc hd<|zc a<|ze<|b _)<|fun f=>?_;have j:=w7 j;have h:=w7 h;have g:=w7 g;have f:=w7 f;refine zm (Al ..)<|zf (fun c=>?_)<|fun c=>?_
 ·have c:=w6 c;rw[wr (0-n) ae ae,wr (0-d) ae ae,Int.zero_sub,Int.zero_sub];exact A2 (-n) (-d) ae ae ae ae (fun ob=>by rw[V9];exact b ob)
 ·have c:=w7 c;exact A2 n d ae ae ae ae b
end T40
namespace T91
theorem no3{Q:PV->Ob->Prop}(s:Z)(neg:Bool)(l:s.length<=20)(h:9<(AB s).length\/9<(Sp.AV s).length)(a:∀ob,Q (.tup [.dat i64 0,.dat i64 0,.bl false]) ob):Ends Oq (L3 s neg) Q/\Ends Oq (L4 s) Q:=by
 obtain⟨k,j,g⟩:=BW s;have es:A0 s=((AB s).length:Int):=rfl;have i:=(T122.DH s).1;have e:9<(Sp.AV s).length->(s.length:Int)-(AB s).length>10:=fun h=>by
  cases d:Bs s with
  |true=>
   have f:=wi List.length (j d).2;rw[y8]at f;omega
  |false=>rw[(g d).2]at h;cases h
 refine⟨zm (BA ..) (zc (w4 ae)<|zf (fun _=>ze<|a _)<|fun c=>?_),zm (Ci ..)<|zc (w4 ae)<|zf (fun _=>ze<|a _)<|fun c=>?_⟩
 ·have c:=w7 c;rw[es]at c;have b:=e ae;refine zc ?_<|ze<|a _;rw[es,wr _ ae ae];exact w4 b
 ·have c:=w7 c;rw[es]at c;have b:=e ae;refine zc ?_<|ze<|a _;rw[es,wr _ ae ae];exact w4 b
theorem okG:Af A8 91 Ow:=by
 refine BR xY<|fun(a:Z) ha=>?_;obtain⟨_,_,o,db⟩:=Qk ha;by_cases b:Eo a=true
 ·have e:∀n ob,n=Ji a->Ad Ow a (.tup [.dat i64 n,.dat i64<|if Bs (A9 a)=true then AF 0 (Sp.AV<|A9 a)else 1,.bl true]) ob:=fun n ob h=>zu rfl rfl (by
   show(n,_,true)=(gX a,UW a,Eo a);unfold gX UW;rw[wd b,wd b,b,h];rfl)
  unfold Eo at b;rw[zd,zd,w5,w5,w5]at b;obtain⟨⟨f,m⟩,l⟩:=b;clear ha;refine zo (Aj a) (zx (by simp;omega) ?_);cases a with
  |nil=>exact zx rfl (zm (AG ..)<|Cb [] f m l o db<|fun n ob h=>e n ob<|by rw[h];rfl)
  |cons c r=>
   have g:(c::r).getD 0 0=c:=rfl;rw[g];refine zc (by simp) (zc (by simp) (zm (Al ..)<|zf (fun d=>zc (by simp) ?_)<|fun d=>?_))
   ·have i:c=45:=by
     have:(c.toNat:Int)=45:=by simpa using d
     exact UInt8.toNat_inj.1 (by show _=45;omega)
    have j:A9 (c::r)=r:=by unfold A9;rw[g,wd i];rfl
    have p:Sp.preB (c::r)=true:=by unfold Sp.preB;rw[g];exact w4 i
    have q:List.take (Nat.sub (c::r).length 1) (List.drop 1 (c::r))=r:=yk<|zz _;unfold Ji at e;rw[j]at m l o db e;rw[p]at e;rw[q,d];exact Dp r true (by rw[zi]at f;omega) m l o db (fun n ob h=>e _ ob (by rw[h];try rfl))
   ·have i:c≠45:=by rintro rfl;exact wh d af
    have j:A9 (c::r)=c::r:=by unfold A9;rw[g,wc i]
    have p:Sp.preB (c::r)=false:=by unfold Sp.preB;rw[g];exact w8 i
    unfold Ji at e;rw[j]at m l o db e;rw[p]at e;rw[d];exact Dp (c::r) false f m l o db (fun n ob h=>e _ ob (by rw[h];try rfl))
 ·have u:Eo a=false:=by simpa using b
  have e:∀ob,Ad Ow a (.tup [.dat i64 0,.dat i64 0,.bl false]) ob:=fun ob=>zu rfl rfl (by
   show((0:Int),(0:Int),false)=(gX a,UW a,Eo a);unfold gX UW;rw[wc b,wc b,u])
  refine zo (Aj a)<|zf (fun _=>ze<|e _)<|fun f=>?_;have f:a.length<=20:=by have:=w7 f;omega
  have k:9<(AB<|A9 a).length\/9<(Sp.AV<|A9 a).length:=by
   by_cases t:(AB<|A9 a).length<=9
   ·by_cases s:(Sp.AV<|A9 a).length<=9
    ·exact wh (by unfold Eo;rw[w4 f,w4 t,w4 s];rfl) b
    ·exact .inr ae
   ·exact .inl ae
  cases a with
  |nil=>exact zx rfl (zm (AG ..) (no3 [] false f k e).2)
  |cons c r=>
   have g:(c::r).getD 0 0=c:=rfl;rw[g];refine zc (by simp) (zc (by simp)<|zm (Al ..)<|zf (fun d=>zc (by simp) ?_)<|fun d=>?_)
   ·have i:c=45:=by
     have:(c.toNat:Int)=45:=by simpa using d
     exact UInt8.toNat_inj.1 (by show _=45;omega)
    have j:A9 (c::r)=r:=by unfold A9;rw[g,wd i];rfl
    have q:List.take (Nat.sub (c::r).length 1) (List.drop 1 (c::r))=r:=yk<|zz _;rw[j]at k;rw[q];exact(no3 r _ (by rw[zi]at f;omega) k e).1
   ·have i:c≠45:=by rintro rfl;exact wh d af
    have j:A9 (c::r)=c::r:=by unfold A9;rw[g,wc i]
    rw[j]at k;exact(no3 (c::r) _ f k e).1
end T91
theorem SY:CX yS:=Aa T91.okG<|Aa T40.ok<|Aa (T92.ok)<|Aa T94.ok<|Aa T95.ok<|Aa T93.ok AE
theorem VR{x y:Int}(c: -1000000000<x)(b:x<1000000000)(a: -1000000000<y)(d:y<1000000000): -1000000000000000000<=x*y/\x*y<=1000000000000000000:=by
 have h:(x*y).natAbs<=1000000000*1000000000:=by
  rw[qg];exact Nat.mul_le_mul ae ae
 omega
theorem T33.ok:Af A8 33 LN:=by
 refine BR SY<|fun(i:Z×Z) d=>?_;obtain⟨a,b⟩:=i;have d:(Be a&&Be b)=true:=d;rw[zd]at d;obtain⟨ha,hb⟩:=d;obtain⟨a1,a2,a3,a4,a5,a6,a7,a8,a9⟩:=D7 ha;obtain⟨b1,b2,b3,b4,b5,b6,b7,b8,b9⟩:=D7 hb;have ad:=(Au a).den_pos;have G:=(Au b).den_pos;have eq:=(dI ha hb).2;have o:∀ob,Ad LN (a,b) (.dat .str<|CT (Bf a*AN b+Bf b*AN a)<|AN a*AN b) ob:=fun ob=>zu rfl rfl eq.symm
 have c:Ends yS (T33.L1 a b) (Ad LN (a,b)):=by
  have l:BY a=yf (Bf a):=rfl;have h:BN a=yb (Bf a):=rfl;have q:Bv a=yf (AN a):=rfl;have p:Bm a=yb (AN a):=rfl;have j:BY b=yf (Bf b):=rfl;have g:BN b=yb (Bf b):=rfl;have s:Bv b=yf (AN b):=rfl;have r:Bm b=yb (AN b):=rfl;rw[l,h]at a1;rw[q,p]at a3;rw[j,g]at b1;rw[s,r]at b3;refine zm (T33.Al ..) ?_;conv=>zeta
  simp only[l,h,q,p,j,g,s,r,Sg,SI,nB,lZ,QE,Ft];have e:=D1 a8 b9;have f:=D1 b8 a9;have m:=D1 a9 b9;rw[<-qg]at e f m;have C:=yx (Int.natAbs_add_le (Bf a*AN b)<|Bf b*AN a)<|lR (k:=4000+4000) e f;have v:=KY e af;have y:=KY f af;have E:=KY m af;have A:=KY C af;have w:AN a*AN b≠0:=yr ae ae;exact zc a7<|zc b7<|zc (Ab a1 b3)<|zc (Ab b1 a3)<|zc (Ab v y)<|zc (Ab a3 b3)<|zc (Ab (Ab A E)<|w4 w)<|ze<|o _
 refine zo (T33.Aj a b)<|zc ha<|zc hb<|zf (fun x=>zf (fun B=>?_)<|fun _=>c)<|fun _=>c;obtain⟨t,F,u,D,K,n⟩:=GV ha x;obtain⟨y1,y2,y3,y4,y5,y6⟩:=GV hb B;have H:=VR u D ae y6;have J:=VR y3 y4 ae n;have I:=VR ae n ae y6;have z:AN a*AN b≠0:=yr ae ae;rw[t,F,y1,y2,wr (Bf a*AN b) ae ae,wr (Bf b*AN a) ae ae,wr (Bf a*AN b+Bf b*AN a) ae ae,wr (AN a*AN b) ae ae];exact zc (Ab (Ab (Eb ae ae)<|Eb ae ae)<|w4 z)<|ze<|o _
theorem T34.ok:Af A8 34 Pz:=by
 refine BR SY<|fun(i:Z×Z) d=>?_;obtain⟨a,b⟩:=i;have d:(Be a&&Be b)=true:=d;rw[zd]at d;obtain⟨ha,hb⟩:=d;obtain⟨a1,a2,a3,a4,a5,a6,a7,a8,a9⟩:=D7 ha;obtain⟨b1,b2,b3,b4,b5,b6,b7,b8,b9⟩:=D7 hb;have ad:=(Au a).den_pos;have B:=(Au b).den_pos;have l:∀ob,Ad Pz (a,b) (.dat .str<|CT (Bf a*Bf b)<|AN a*AN b) ob:=fun ob=>zu rfl rfl (cB).symm
 have c:Ends yS (T34.L1 a b) (Ad Pz (a,b)):=by
  have h:BY a=yf (Bf a):=rfl;have f:BN a=yb (Bf a):=rfl;have n:Bv a=yf (AN a):=rfl;have m:Bm a=yb (AN a):=rfl;have g:BY b=yf (Bf b):=rfl;have e:BN b=yb (Bf b):=rfl;have p:Bv b=yf (AN b):=rfl;have o:Bm b=yb (AN b):=rfl;rw[h,f]at a1;rw[n,m]at a3;rw[g,e]at b1;rw[p,o]at b3;refine zm (T34.Al ..) ?_;conv=>zeta
  simp only[h,f,n,m,g,e,p,o,Sg,SI,QE,Ft];have j:=D1 a8 b8;have k:=D1 a9 b9;rw[<-qg]at j k;have s:=KY j af;have z:=KY k af;have t:AN a*AN b≠0:=yr ae ae;exact zc a7<|zc b7<|zc (Ab a1 b1)<|zc (Ab a3 b3)<|zc (Ab (Ab s z)<|w4 t)<|ze<|l _
 refine zo (T34.Aj a b)<|zc ha<|zc hb<|zf (fun u=>zf (fun x=>?_)<|fun _=>c)<|fun _=>c;obtain⟨q,A,r,y,E,w⟩:=GV ha u;obtain⟨y1,y2,y3,y4,y5,y6⟩:=GV hb x;have C:=VR r y y3 y4;have D:=VR ae w ae y6;have v:AN a*AN b≠0:=yr ae ae;rw[q,A,y1,y2,wr _ ae ae,wr (AN a*AN b) ae ae];exact zc (Ab (Ab (Eb ae ae)<|Eb ae ae)<|w4 v)<|ze<|l _
theorem T147.ok:Af A8 147 zU:=by
 refine BR SY<|fun(a:Z) hi=>?_;obtain⟨b,h0⟩:=qE hi;obtain⟨a1,a2,a3,a4,a5,a6,a7,a8,a9⟩:=D7 (JE b).1;refine zo (T147.Aj a)<|zc a7<|zc (Ab (Ab a3 a1) ?_)<|ze<|zu rfl rfl ?_
 ·rw[a2];exact w4 fun e=>h0 (qf.mp (by rw[a5,e]))
 ·show IA _ _=RJ a;unfold IA;rw[a2,a4];exact dQ.symm
theorem aR:CX XR7:=Aa T147.ok<|Aa T34.ok<|Aa T33.ok<|Aa T84.ok AE
theorem lS{s:Z}(h:Df s=true):Be (Lx s)=true/\Au (Lx s)= -Au s:=by
 obtain⟨b,c⟩:=JE h;obtain⟨t,_⟩:=F5 b;have e:Lx s=AP (-Au s):=by
  have:=iS<|Au s;rwa [t]at this
 have r:Au (Lx s)= -Au s:=by rw[e,DI]
 refine⟨?_,r⟩;have a:(Lx s).length<=4000:=by
  unfold Lx;split
  ·omega
  ·split
   ·rw[y8];omega
   ·rw[zi];omega
 unfold Be;rw[r, <-e,w4 rfl,w4 a];rfl
theorem T37.ok:Af A8 37 ZP:=by
 refine BR aR<|fun(i:Z×Z) c=>?_;obtain⟨a,b⟩:=i;have c:(Be a&&Df b)=true:=c;rw[zd]at c;obtain⟨ha,hb⟩:=c;obtain⟨n1,n2⟩:=lS hb;have d:=(JE hb).2;refine zo (T37.Aj a b) (zc (w4 ae)<|zc (Ab ha n1)<|ze<|zu rfl rfl ?_);show CC a (Lx b)=G7 a b;unfold CC G7;rw[n2,Rat.sub_eq_add_neg]
theorem nC{s:Z}(h:aE s=true):Be (RJ s)=true:=by
 obtain⟨a,h0⟩:=qE h;obtain⟨a,h2⟩:=JE a;obtain⟨t,_⟩:=F5 a;have b:(AP<|Au s).length<=3000:=by rw[t];exact h2
 unfold RJ;generalize Au s=q at*;have l1:(zj q.num.natAbs).length<=(yy q.num).length:=by
  unfold yy;split
  ·rw[zi];omega
  ·rw[show q.num.toNat=q.num.natAbs by omega];exact zz _
 have key:(AP q⁻¹).length<=(zj q.num.natAbs).length+(zj q.den).length+2:=by
  have f:=Rat.inv_def q;have g:q.num≠0:=fun e=>h0<|qf.mp e
  have j:=q.den_pos;have m:=Ga (n:=(q.den:Int)) (d:=q.num) g;rw[<-f,Int.natAbs_natCast]at m;have i:=Wf m.1;have k:=Wf m.2;have l:(yy q⁻¹.num).length<=(zj q⁻¹.num.natAbs).length+1:=by
   unfold yy;split
   ·rw[zi];omega
   ·rw[show q⁻¹.num.toNat=q⁻¹.num.natAbs by omega];omega
  unfold AP;split
  ·omega
  ·rw[zp,zi];omega
 have o:(zj q.num.natAbs).length+(zj q.den).length<=3001:=by
  unfold AP at b;split at b
  ·next c=>rw[c,Lib.decDigits_one (show 1<10 by decide),yc];omega
  ·rw[zp,zi]at b;omega
 unfold Be;rw[DI,w4 rfl,w4 ae];rfl
theorem T82.ok:Af A8 82 mF:=by
 refine BR aR<|fun(i:Z×Z) c=>?_;obtain⟨a,b⟩:=i;have c:(Be a&&aE b)=true:=c;rw[zd]at c;obtain⟨ha,hb⟩:=c;refine zo (T82.Aj a b)<|zc hb<|zc (Ab ha<|nC hb)<|ze<|zu rfl rfl ?_;show FH a (RJ b)=K0 a b;unfold FH K0 RJ;rw[DI,Rat.div_def]
theorem SK:CX XR8:=Aa T37.ok<|Aa T38.ok<|Aa T128.ok<|Aa T144.ok<|Aa T145.ok<|Aa T146.ok AE
theorem T36.ok:Af A8 36 Qr:=by
 refine BR SK<|fun(i:Z×Z) d=>?_;obtain⟨a,b⟩:=i;have d:(Be a&&Df b)=true:=d;have c:=d;rw[zd]at c;obtain⟨ha,hb⟩:=c;have z:=(Tx ha).sub<|Tx (JE hb).1;refine zo (T36.Aj a b) (zc d (zc (w4<|Qp z af)<|ze<|zu rfl rfl ?_));show FT (G7 a b)=EI a b;unfold G7;rw[No,lC];rfl
theorem T148.ok:Af A8 148 T8:=by
 refine BR SK<|fun(a:Z) ha=>?_;refine zo (T148.Aj a)<|zc ha<|ze<|zu rfl rfl ?_;show(A0 a==(a.length:Int))=KL a;obtain⟨g,d,c⟩:=BW a;have es:A0 a=((AB a).length:Int):=rfl;unfold KL;cases b:Bs a with
 |false=>rw[es,(c b).1];simp
 |true=>
  obtain⟨e,f⟩:=d b;rw[es];simp;omega
theorem T80.ok:Af A8 80 T7:=by
 refine BR SK<|fun(a:Z) ha=>?_;have f:a.length<=1000000:=w6 ha;have e:=(T122.DH a).1;have b:∀v ob,v=FM a->Ad T7 a (.dat i64 v) ob:=fun v ob h=>zu rfl rfl h
 unfold FM at b;refine zo (T80.Aj a) (zc ha<|zc (w4 ae)<|zf (fun c=>ze<|b _ _ ?_)<|fun c=>zc ha<|zf (fun d=>ze<|b _ _ ?_)<|fun d=>ze<|b _ _ ?_)
 ·have c:=w6 c;rw[wd<|.inl ae]
 ·have d:=w6 d;rw[wd<|.inr ae]
 ·have c:=w7 c;have d:=w7 d;rw[wc ae]
theorem xS:CX XR9:=Aa T92.ok<|Aa T150.ok<|Aa T96.ok<|Aa T148.ok AE
theorem T85.ok:Af A8 85 ZI:=by
 refine BR xS<|fun(a:Z) ha=>?_;obtain⟨a1,a2,a3,a4,a5,e,f,h,a9⟩:=D7 ha;obtain⟨t,hl⟩:=F5 ha;have g:=(Au a).den_pos;refine zo (T85.Aj a) (zc (w4 ae) (zf (fun c=>ze<|zu rfl rfl ?_) (fun c=>zc f<|zc (Ab (Ab a1 a3)<|by rw[a4];exact w4 ae)<|zc ?_<|ze<|zu rfl rfl ?_)))
 ·show a=AY (Au a).floor;have b:(Au a).den=1:=by
   have d:=(Fj<|Au a).2.2;rw[t]at d;unfold KL at c;rw[d]at c;simpa using c
  rw[Rat.floor_def,b];have:(Au a).num/((1:Nat):Int)=(Au a).num:=Int.ediv_one _;rw[this];conv=>lhs;rw[<-t]
  unfold AP;rw[wd b];rfl
 ·show CA (Ju _ _,Jo _ _)=true;unfold Ju Jo;rw[a2,a4];exact Hx a1<|Int.natAbs_ediv_le_natAbs _ _
 ·show FQ (Ju _ _,Jo _ _)=AY (Au a).floor;unfold Ju Jo;rw[a2,a4,Mf,Rat.floor_def,a5,e]
end Go.Pe
namespace Go.Sp
theorem Mh{k:Nat}{t:List A1}(h:GC k t=true):∀p∈t,p.1.length<=k/\p.2.length<=k:=by
 unfold GC at h;rw[zk]at h;intro p hp;have:=h p hp;rw[zd,w5,w5]at this;exact this
theorem Vc(a b:Z):EI a b<=0↔0<=EI b a:=by
 unfold EI;rw[iY (Au a)<|Au b];omega
theorem HT(a b:Z):EI a b<=0↔¬Au b<Au a:=by
 unfold EI;by_cases h:Au a<Au b
 ·rw[wd h];exact⟨fun _=>yz.2<|Rat.le_of_lt h,fun _=>by decide⟩
 ·rw[wc h];by_cases k:Au b<Au a
  ·rw[wd k];exact⟨fun x=>wh x af,fun x=>wh k x⟩
  ·rw[wc k];exact⟨fun _=>k,fun _=>by decide⟩
def Q9(t:List A1)(i:Nat):Option A1:=if i=0 then none else some<|t.getD (i-1) ([],[])
theorem Gc(p:A1)(l:List A1):DM none (p::l)=if NZ p.1 p.2≠0 then NZ p.1 p.2 else DM (some p) l:=by
 rw[DM]
theorem HB(q p:A1)(l:List A1):DM (some q) (p::l)=if NZ p.1 p.2≠0 then NZ p.1 p.2 else if EI p.1 q.1<=0 then 11 else DM (some p) l:=by
 rw[DM]
theorem Wk(o:Option A1):DM o []=0:=by rw[DM]
theorem W5{t:List A1}{i:Nat}{p:A1}(h:t.getD i ([],[])=p):Q9 t (i+1)=some p:=by
 unfold Q9;rw[wc ae,yh,h]
end Go.Sp
namespace Go.Pe
open Sp
open Go.Det
theorem lH{s:Sh}{sz:Nat}(g:s.sz=sz){id n:Nat}{tail:Ob}{fz:Bool}{t:TypeId}{o:List s.T}{e:Int}(f:n=o.length):Iw [.list s,i64] (.tup [.sl id sz 0 n none,.dat i64 e]) ((id,.arr fz t s o)::tail)=some (true,(o,e)):=by
 subst f g;have a:AR ((id,Obj.arr fz t s o)::tail) id=some (.arr fz t s o):=by unfold AR;rw[qd];rfl
 have h0:EB ⟨0,.leaf,(id,.arr fz t s o)::tail,0⟩ (.list s) (.sl id s.sz 0 o.length none)=some (true,o):=by
  unfold EB;have b:Dl ⟨0,.leaf,(id,.arr fz t s o)::tail,0⟩ (PV.cells<|.sl id s.sz 0 o.length none)=some (true,[.dat (.list s) o]):=by
   show(match B3 ⟨0,.leaf,(id,.arr fz t s o)::tail,0⟩ (.sl id s.sz 0 o.length none),some (true,[])with|some (c,x),some (d,xs)=>some (c&&d,x::xs)|_,_=>none)=_;have:B3 ⟨0,.leaf,(id,.arr fz t s o)::tail,0⟩ (.sl id s.sz 0 o.length none)=some (true,.dat (.list s) o):=by
    unfold B3 AM.obj;simp only[a,qd,we];simp
   rw[this];rfl
  simp only[Ma,Sh.Rt];show(match Dl ⟨0,.leaf,(id,.arr fz t s o)::tail,0⟩ (PV.cells<|.sl id s.sz 0 o.length none)with|some (c,cs)=>_|none=>none)=_;rw[b];have:Dr (.list s) [PV.dat (.list s) o]=some o:=by
   unfold Dr CE wQ D6;simp
  simp only[Pc,this,yg]
 unfold Iw Iq;simp only;unfold DD;rw[h0];rfl
theorem wL:CX XT1:=Aa T168.ok<|Aa T169.ok<|Aa T171.ok<|Aa T55.ok<|Aa T56.ok AE
theorem ZJ{a b:Z}(c:Ao a=0)(d:Ao b=0):Dm (zL a) (zL b)=EI a b:=by
 rw[Fk.cmp (IZ (CU c).1)<|IZ (CU d).1];rfl
theorem Ih{a:Z}(b:Ao a=0):qc (zL a)=true/\DR a=true:=by
 obtain⟨n,z⟩:=CU b;exact⟨(IZ n).Cw (YA z af),(D7 n).2.2.2.2.2.2.1⟩
namespace T123
theorem AcH{p:A1}{k:Nat}(h:p.1.length<=k/\p.2.length<=k)(a:k<=1000000):(decide ((2:Nat)<=2)&&true&&(decide ((2:Nat)<=1000)&&List.all [p.1,p.2] fun s=>decide (List.length s<=1000000)))=true:=by
 show(decide (p.1.length<=1000000)&&(decide (p.2.length<=1000000)&&true))=true;rw[w4 ae,w4 ae];rfl
theorem eX(t:List A1)(i:Nat)(p:A1)(h:i<t.length)(hp:t.getD i ([],[])=p):(t.take i).map ED++[(Cs p.1,Cs p.2)]=(t.take<|i+1).map ED:=by
 rw[List.take_add_one,List.map_append];congr 1;rw[zn]at hp;rw[zy h]at hp ⊢;have hp:t[i]=p:=hp;rw[hp];rfl
theorem A2(t:List A1)(o:t.length<=64)(v:GC 1000000 t=true)(b:∀e ob,e≠0->DM none t=e->Q (.tup [.nil,.dat i64 e]) ob)
  (g:DM none t=0->Q (.tup [.sl 0 8 0 ((t.take t.length).map ED).length none,.dat i64 0]) [(0,.arr false 209 Z5<|(t.take t.length).map ED)]):
  ∀(r:List A1) (i n:Nat) (q:A1),t.drop i=r->1<=i->i<=t.length->n=((t.take i).map ED).length->t.getD (i-1) ([],[])=q->Ao q.1=0->DM none t=DM (some q) r->Ends XT1 (L2 n t (t.length:Int) (i:Int)<|(t.take i).map ED) Q
 |[],i,n,q,h,F,y,s,j,u,a=>by
  have:=drop_nil h y;have e:i=t.length:=ae
  subst e;rw[Wk]at a;rw[s];exact zm (AG ..) (zx (w8 ae)<|ze<|g a)
 |p::r,i,n,q,h,F,y,s,j,u,a=>by
  obtain⟨w,m,H⟩:=drop_cons (d:=(([],[]):A1)) h;have D:p∈t:=yq (by rw[h];exact zr ..);have hp:=Mh v p D;have G:n=i:=by rw[s,yt,yn];omega
  have B:=wn (i:=i) ae;have z:zg .i64 ((i:Int)-1)=((i-1:Nat):Int):=by rw[wr _ ae ae];omega
  have C:∀d,((t.take i).map ED).getD (i-1) d=ED q:=by
   intro d;rw[zn,List.getElem?_map,List.getElem?_take_of_lt ae];rw[zn,zy ae]at j;rw[zy ae];have j:t[i-1]=q:=j;rw[j];rfl
  have I:((t.take i).map ED).length=i:=by rw[yt,yn];omega
  rw[HB]at a;refine zm (AG ..) ?_;conv=>zeta
  rw[B,z,zl,zl,m,C];refine zc (w4 ae) (zc (ad ae ae)<|zc (AcH hp<|zz _)<|zf (fun c=>ze ?_)<|fun c=>?_)
  ·have c:EY [p.1,p.2]≠0:=by simpa using c
   have k:NZ p.1 p.2≠0:=c;rw[wd k]at a;exact b _ _ k a
  ·have c:EY [p.1,p.2]=0:=by simpa using c
   have k:NZ p.1 p.2=0:=c;rw[wc<|by rw[k];decide]at a;obtain⟨l,A⟩:=JH k;have x:=Ih l;have E:=Ih A;have J:=Ih u;have f:Dm (Cs p.1) (ED q).1=EI p.1 q.1:=ZJ l u;refine zc x.2 (zc E.2<|zc (w4 ae)<|zc (ad ae ae)<|zc (w4 ae)<|zc (Ab x.1 J.1)<|zf (fun d=>ze ?_)<|fun d=>?_)
   ·have d:=w6 d;have d:Dm (Cs p.1) (ED q).1<=0:=d;rw[f]at d;rw[wd d]at a;exact b 11 _ af a
   ·have d:=w7 d;have d:¬Dm (Cs p.1) (ED q).1<=0:=d;rw[f]at d;rw[wc d]at a;have go:=A2 t o v b g r (i+1) (n+1) p H ae w (by rw[yt,yn];omega) (by rw[yh];exact m) l a;rw[<-eX t i p w m]at go;refine zc (Ab (Ab (Ab rfl rfl)<|w4 ae)<|w4 ae) go
theorem ok:Af A8 123 ZE:=by
 refine BR wL<|fun(t:List (Z×Z)) d=>?_;have d:(decide (t.length<=1000)&&GC 1000000 t)=true:=d;rw[zd,w5]at d;obtain⟨v,hp⟩:=d;have a:∀e ob,e≠0->BH t=e->Ad ZE t (.tup [.nil,.dat i64 e]) ob:=fun e ob h k=>zu (y:=([],e)) rfl rfl (by
  show([],e)=(Wa t,BH t);unfold Wa;rw[wd (by rw[k];exact h),k])
 have u:y7 [Cq ((t.length:Int)==0) 12,Cq (decide ((t.length:Int)>64)) 5]=if t=[]then 12 else if 64<t.length then 5 else 0:=by
  rw[JS];by_cases h:t=[]
  ·rw[wd h,h];rfl
  ·have i:((t.length:Int)==0)=false:=by
    have:t.length≠0:=fun k=>h<|zt.1 k
    simp;omega
   rw[wc h,i,wc af];by_cases k:64<t.length
   ·rw[wd k,w4<|show(t.length:Int)>64 by omega];rfl
   ·rw[wc k,w8<|show ¬(t.length:Int)>64 by omega];rfl
 refine zo (Aj t) ?_;conv=>zeta
 rw[u];refine zc rfl (zc rfl (zc rfl ?_));by_cases h:t=[]
 ·rw[wd h];exact zc rfl (ze<|a 12 _ af<|by unfold BH;rw[wd h])
 ·rw[wc h];by_cases k:64<t.length
  ·rw[wd k];exact zc rfl (ze<|a 5 _ af<|by unfold BH;rw[wc h,wd k])
  ·rw[wc k];have f:BH t=DM none t:=by unfold BH;rw[wc h,wc k]
   refine zx rfl ?_;obtain⟨p,r,rfl⟩:∃p r,t=p::r:=by
    cases t with
    |nil=>exact wh rfl h
    |cons p r=>exact⟨p,r,rfl⟩
   have m:(p::r).getD 0 ([],[])=p:=rfl;have g:=Mh hp p<|zr ..;refine zm (Al ..) ?_;conv=>zeta
   rw[show Int.toNat 0=0 from rfl,m];refine zc (w4<|by rw[zi];omega) (zc (Ab rfl (w4<|by rw[zi];omega))<|zc (AcH g<|zz _)<|zf (fun c=>ze ?_)<|fun c=>?_)
   ·have c:EY [p.1,p.2]≠0:=by simpa using c
    have b:NZ p.1 p.2≠0:=c;exact a _ _ b (by rw[f,Gc,wd b];rfl)
   ·have c:EY [p.1,p.2]=0:=by simpa using c
    have b:NZ p.1 p.2=0:=c;obtain⟨j,n⟩:=JH b;have s:=Ih j;have q:=Ih n;have o:zg .i64 ((0:Int)+1)=((1:Nat):Int):=rfl;rw[o];have go:=A2 (Q:=Ad ZE (p::r)) (p::r) ae hp (fun e ob i l=>a e ob i<|by rw[f];exact l) (fun h0=>zu (lH rfl rfl) rfl (by
     show(((p::r).take (p::r).length).map ED,(0:Int))=(Wa (p::r),BH (p::r));unfold Wa;rw[f,h0,wc af,List.take_length])) r 1 1 p rfl af (by rw[zi];omega) (by rw[yt,yn,zi];omega) rfl j (by rw[Gc,wc<|by rw[b];decide])
    exact zc s.2<|zc q.2<|zx rfl (zc rfl go)
end T123
theorem sA:CX XT2:=Aa T123.ok AE
theorem T54.ok:Af A8 54 Lv:=by
 refine BR sA<|fun(t:List (Z×Z)) hi=>?_;exact zo (T54.Aj t)<|zc hi<|ze<|zu rfl rfl rfl
theorem tJ:CX XT4:=Aa T62.ok<|Aa T36.ok AE
namespace T60
theorem Ar(t:List A1)(m:t.length<=64)(u:GC 1000000 t=true)(e:∀ob,Q (.dat i64<|DM none t) ob):
  ∀(r:List A1) (i:Nat),t.drop i=r->i<=t.length->(0<i->Ao (t.getD (i-1) ([],[])).1=0)->DM none t=DM (Q9 t i) r->Ends XT4 (L1 t (i:Int)) Q
 |[],i,h,v,g,b=>by
  have:=drop_nil h v;rw[Wk]at b;rw[b]at e;exact zm (Al ..) (zx (w8 ae)<|ze<|e _)
 |p::r,i,h,v,g,b=>by
  obtain⟨C,j,D⟩:=drop_cons (d:=(([],[]):A1)) h;have B:p∈t:=yq (by rw[h];exact zr ..);obtain⟨l1,l2⟩:=Mh u p B;have z:=wn (i:=i) ae;have l:=nb (i:=i) (n:=t.length) ae;have a:=ZW p.1 p.2;refine zm (Al ..) ?_;conv=>zeta
  rw[z,zl,j];refine zc (w4 ae)<|zc l<|zc (w4 l1)<|zf (fun c=>zc l<|zc (w4 l2)<|zf (fun d=>?_)<|fun d=>?_)<|fun c=>?_
  ·have c:Ao p.1=0:=by simpa using c
   have d:Ao p.2=0:=by simpa using d
   rw[wc (by rw[c];decide),d]at a;have db:(Ao p.2 !=0)=false:=by rw[d];rfl
   have n1:=Mx c;have nx:∀s,s=i+1->DM none t=DM (some p) r->Ends XT4 (L1 t ((i+1:Nat):Int)) Q:=fun s _ w=>
    Ar t m u e r (i+1) D C (fun _=>by rw[yh,j];exact c) (by rw[W5 j];exact w)
   by_cases h0:i=0
   ·subst h0;refine zx rfl (zx db<|nx _ rfl ?_);rw[b];show DM none (p::r)=_;rw[Gc,wc<|by rw[a];decide]
   ·have y:zg .i64 ((i:Int)-1)=((i-1:Nat):Int):=by rw[wr _ ae ae];omega
    have g:=g ae;have A:Q9 t i=some (t.getD (i-1) ([],[])):=by unfold Q9;rw[wc h0]
    rw[A,HB,wc<|by rw[a];decide]at b;rw[y,zl];generalize t.getD (i-1) ([],[])=q at*;have n0:=Mx g;refine zc (w4 ae) (zc (ad ae ae)<|zc l<|zc (Ab (n0.num af)<|n1.Df af)<|zf (fun k=>zc rfl (ze ?_))<|fun k=>zx db<|nx _ rfl ?_)
    ·have k:=w6 k;rw[wd<|(Vc _ _).2 k]at b;rw[b]at e;exact e _
    ·have k:=w7 k;rw[wc<|fun x=>k<|(Vc _ _).1 x]at b;exact b
  ·have c:Ao p.1=0:=by simpa using c
   have o:Ao p.2≠0:=by simpa using d
   rw[wc<|by rw[c];decide]at a;refine zc (by simpa using o)<|ze ?_;have:DM none t=Ao p.2:=by
    rw[b];cases Q9 t i with
    |none=>rw[Gc,wd (by rw[a];exact o),a]
    |some q=>rw[HB,wd (by rw[a];exact o),a]
   rw[<-this];exact e _
  ·have f:Ao p.1≠0:=by simpa using c
   rw[wd f]at a;have:DM none t=Ao p.1:=by
    rw[b];cases Q9 t i with
    |none=>rw[Gc,wd (by rw[a];exact f),a]
    |some q=>rw[HB,wd (by rw[a];exact f),a]
   refine zx (by simpa using f) (zc (by simpa using f)<|ze ?_);rw[<-this];exact e _
theorem ok:Af A8 60 Lv:=by
 refine BR tJ<|fun(t:List (Z×Z)) b=>?_;have b:(decide (t.length<=1000)&&GC 1000000 t)=true:=b;rw[zd,w5]at b;have a:∀e ob,BH t=e->Ad Lv t (.dat i64 e) ob:=fun e ob h=>zu rfl rfl h.symm
 unfold BH at a;refine zo (Aj t)<|zf (fun c=>ze<|a _ _ ?_)<|fun c=>zf (fun d=>ze<|a _ _ ?_)<|fun d=>?_
 ·have:t=[]:=zt.1 (by have:(t.length:Int)=0:=(by simpa using c);omega);rw[wd this]
 ·have c:(t.length:Int)≠0:=by simpa using c
  have d:=w6 d;rw[wc (by rintro rfl;exact c rfl),wd ae]
 ·have c:(t.length:Int)≠0:=by simpa using c
  have d:=w7 d;rw[wc (by rintro rfl;exact c rfl),wc ae]at a;exact Ar t ae b.2 (fun ob=>a _ ob rfl) t 0 rfl (Nat.zero_le _) (fun h=>wh h af) rfl
end T60
end Go.Pe
namespace Go.Sp
theorem Aay{s:Z}(h:Be s=true){k:Nat}(b:s.length<=k)(f:1<=k):Nu k s (Au s):=by
 obtain⟨a,_⟩:=F5 h;have e:(AP<|Au s).length<=k:=by rw[a];exact b
 refine⟨a.symm,?_⟩;generalize Au s=q at*;have d:(zj q.num.natAbs).length<=(yy q.num).length:=by
  unfold yy;split
  ·rw[zi];omega
  ·rw[show q.num.toNat=q.num.natAbs by omega];exact zz _
 unfold AP at e;split at e
 ·next c=>exact⟨Cj (k:=k) _ ae,by rw[c];exact KK k ae⟩
 ·rw[zp,zi]at e;exact⟨Cj (k:=k) _ ae,Cj (k:=k) _ ae⟩
theorem HI{s:Z}(h:Ao s=0){k:Nat}(a:s.length<=k)(b:1<=k):Nu k s (Au s):=Aay (CU h).1 a b
def pt(p:A1):Rat×Rat:=(Au p.1,Au p.2)
theorem fU(t:List A1)(x:Z):LH t x=Rw none (t.map pt) (Au x):=rfl
theorem V1(p:Rat×Rat)(l:List (Rat×Rat))(x:Rat):Rw none (p::l) x=if p.1<x then Rw (some p) l x else p.2:=by rw[Rw]
theorem Vg(a b:Rat×Rat)(l:List (Rat×Rat))(x:Rat):Rw (some a) (b::l) x=if b.1<x then Rw (some b) l x else a.2+(b.2-a.2)*(x-a.1)/(b.1-a.1):=by rw[Rw]
theorem YQ(p:Rat×Rat)(x:Rat):Rw (some p) [] x=p.2:=by rw[Rw]
theorem oX(a b c d:Rat):a+b/c*d=a+b*d/c:=by
 rw[Rat.div_def,Rat.div_def,Rat.mul_assoc,Rat.mul_comm c⁻¹ d, <-Rat.mul_assoc]
theorem bI{t:List A1}{x:Z}(h:XD t x=0):BH t=0/\Ao x=0:=by
 unfold XD at h;split at h
 ·next k=>exact wh h k
 ·next k=>exact⟨by omega,h⟩
theorem Fp{t:List A1}(h:BH t=0):t≠[]/\t.length<=64/\DM none t=0:=by
 unfold BH at h;split at h
 ·exact wh h af
 ·next k=>
  split at h
  ·exact wh h af
  ·exact⟨k,by omega,h⟩
theorem I2{q p:A1}{l:List A1}(h:DM (some q) (p::l)=0):Ao p.1=0/\Ao p.2=0/\Au q.1<Au p.1/\DM (some p) l=0:=by
 rw[HB]at h;split at h
 ·next k=>exact wh h k
 ·next k=>
  split at h
  ·exact wh h af
  ·next d=>
   obtain⟨e,c⟩:=JH (a:=p.1) (b:=p.2) ae;rw[HT]at d;exact⟨e,c,z7.1 d,h⟩
theorem Mz{p:A1}{l:List A1}(h:DM none (p::l)=0):Ao p.1=0/\Ao p.2=0/\DM (some p) l=0:=by
 rw[Gc]at h;split at h
 ·next k=>exact wh h k
 ·next k=>
  obtain⟨d,c⟩:=JH (a:=p.1) (b:=p.2) ae;exact⟨d,c,h⟩
theorem P0{p q:Rat}(h:q<p):p-q≠0:=fun e=>by
 have:=(Rat.lt_iff_sub_pos q p).1 h;rw[e]at this;exact qi this
end Go.Sp
namespace Go.Pe
open Sp
open Go.Det
theorem rY:CX XT5:=Aa T36.ok<|Aa T82.ok<|Aa T37.ok<|Aa T34.ok<|Aa T33.ok AE
namespace T88
theorem Ar(t:List A1)(x:Z)(o:t.length<=64)(y:GC 100 t=true)(nx:Sp.Nu 600 x (Au x))(f:∀ob,Q (.dat .str<|AP<|LH t x) ob):
  ∀(r:List A1) (i:Nat) (q:A1),t.drop i=r->1<=i->i<=t.length->t.getD (i-1) ([],[])=q->Sp.Nu 100 q.1 (Au q.1)->Sp.Nu 100 q.2 (Au q.2)->DM (some q) r=0->LH t x=Rw (some<|Sp.pt q) (r.map Sp.pt) (Au x)->Ends XT5 (L1 t x (i:Int)) Q
 |[],i,q,h,F,z,b,n1,g,k,a=>by
  have:=drop_nil h z;have e:i=t.length:=ae
  have m:zg .i64 ((t.length:Int)-1)=((i-1:Nat):Int):=by rw[wr _ ae ae];omega
  have a:LH t x=Au q.2:=by rw[a];exact YQ _ _
  refine zm (Al ..) (zx (w8 ae) ?_);rw[m,zl,b];refine zc (ad ae ae)<|ze ?_;have f:=f;rw[a, <-g.t]at f;exact f _
 |p::r,i,q,h,F,z,b,n1,g,k,a=>by
  obtain⟨E,v,G⟩:=drop_cons (d:=(([],[]):A1)) h;have D:p∈t:=yq (by rw[h];exact zr ..);obtain⟨l1,l2⟩:=Mh y p D;have C:=wn (i:=i) ae;have m:zg .i64 ((i:Int)-1)=((i-1:Nat):Int):=by rw[wr _ ae ae];omega
  have w:=nb (i:=i) (n:=t.length) ae;obtain⟨A,B,s,k⟩:=I2 k;have l:=HI A l1 af;have u:=HI B l2 af;have a:LH t x=if Au p.1<Au x then Rw (some<|Sp.pt p) (r.map Sp.pt) (Au x)else Au q.2+(Au p.2-Au q.2)*(Au x-Au q.1)/(Au p.1-Au q.1):=by
   rw[a,List.map_cons,Vg];rfl
  have j:=P0 s;refine zm (Al ..) ?_;conv=>zeta
  rw[C,m,zl,zl,v,b];refine zc (w4 ae) (zc w<|zc (Ab (nx.num af)<|l.Df af)<|zf (fun c=>?_)<|fun c=>?_)
  ·have c:=(Sp.HT _ _).1<|w6 c;rw[wc c]at a;have s1:=u.G7 g;have s2:=l.G7 n1;have s3:=s1.K0 s2 j;have s4:=nx.G7 n1;have s5:=s3.FH s4;have s6:=g.CC s5;have z2:aE (G7 p.1 q.1)=true:=fK (s2.Df af) (fun e=>j<|(s2.Jf af).1 e);refine zc (ad ae ae) (zc w<|zc (Ab (u.num af)<|g.Df af)<|zc (Ab (l.num af)<|n1.Df af) (zc (Ab (s1.num af) z2)<|zc (Ab (nx.num af)<|n1.Df af)<|zc (Ab (s3.num af)<|s4.num af)<|zc (Ab (g.num af)<|s5.num af)<|ze ?_));rw[s6.t,oX, <-a];exact f _
  ·have c:Au p.1<Au x:=by
    have:=w7 c;rw[Sp.HT]at this;exact z7.1 this
   rw[wd c]at a;exact Ar t x o y nx f r (i+1) p G ae E (by rw[yh];exact v) l u k a
end T88
end Go.Pe
namespace Go.Sp
theorem Bq(x:Int)(l:List Int):first (x::l)=0↔x=0/\first l=0:=by
 rw[first];by_cases h:x=0
 ·simp[h]
 ·simp[h]
theorem mR{b:Bool}{e:Int}(a:e≠0):Cq b e=0↔b=false:=by
 cases b
 ·exact⟨fun _=>rfl,fun _=>rfl⟩
 ·exact⟨fun h=>wh h a,fun h=>by cases h⟩
theorem Gb{a:BJ}{lo b:Int}(h:BL a lo b=0):Ao a=0/\(lo:Rat)<=Au a/\Au a<=(b:Rat):=by
 unfold BL at h;by_cases k:Ao a=0
 ·rw[wc<|by simpa using k]at h;split at h
  ·exact wh h af
  ·next d=>
   rw[not_or]at d;exact⟨k,yz.1 d.1,yz.1 d.2⟩
 ·rw[wd k]at h;exact wh h k
structure eT(s:BQ):Prop where
 rise:Ao s.1=0
 wind:Ao s.2.1=0
 lay:Ao s.2.2.1=0
 roll:Ao s.2.2.2.1=0
 riseB:(-10000:Rat)<=Au s.1/\Au s.1<=10000
 windB:(-10000:Rat)<=Au s.2.1/\Au s.2.1<=10000
 layB:0<=Au s.2.2.1/\Au s.2.2.1<=10000
 rollB:0<=Au s.2.2.2.1/\Au s.2.2.2.1<=10000
 len:s.2.2.2.2.length<=16
 obs:∀o∈s.2.2.2.2,0<=o.2/\o.2<=10
theorem VO:∀ {l:List ER},fB l=0->∀o∈l,0<=o.2/\o.2<=10
 |[],_,o,a=>by cases a
 |x::l,h,o,a=>by
  unfold fB at h;split at h
  ·exact wh h af
  ·split at h
   ·exact wh h af
   ·next d=>
    rcases yo.1 a with rfl|a
    ·omega
    ·exact VO h o a
theorem qC{s:BQ}(h:Lb s=0):eT s:=by
 unfold Lb at h;by_cases k:SP s=0
 ·rw[wc<|by simpa using k]at h;unfold SP at k;rw[Bq,Bq,Bq,Bq,Bq]at k;obtain⟨b,c,d,e,a,_⟩:=k;rw[mR af]at a;have a:=w7 a;obtain⟨a1,a2,a3⟩:=Gb b;obtain⟨b1,b2,b3⟩:=Gb c;obtain⟨c1,c2,c3⟩:=Gb d;obtain⟨d1,d2,d3⟩:=Gb e;exact⟨a1,b1,c1,d1,⟨a2,a3⟩,⟨b2,b3⟩,⟨c2,c3⟩,⟨d2,d3⟩,by omega,VO h⟩
 ·rw[wd k]at h;exact wh h k
theorem R1:∀ {l:List BQ},I4 l=0->∀s∈l,Lb s=0
 |[],_,s,a=>by cases a
 |x::l,h,s,a=>by
  unfold I4 at h;by_cases k:Lb x=0
  ·rw[wc<|by simpa using k]at h;rcases yo.1 a with rfl|a
   ·exact k
   ·exact R1 h s a
  ·rw[wd k]at h;exact wh h k
theorem Sr{n:Int}:∀ {l:List Cz} {seen:List BJ},FV n seen l=0->∀t∈l,(t.2.length:Int)=n/\Ex t.2=false
 |[],_,_,t,a=>by cases a
 |x::l,seen,h,t,a=>by
  unfold FV at h;split at h
  ·exact wh h af
  ·split at h
   ·exact wh h af
   ·split at h
    ·exact wh h af
    ·next k=>
     split at h
     ·exact wh h af
     ·next d=>
      rcases yo.1 a with rfl|a
      ·exact⟨z7.1 k,by simpa using d⟩
      ·exact Sr h t a
theorem W8{l:List Int}(h:Ex l=false):∀n∈l,1<=n/\n<=10000:=by
 intro n a;unfold Ex at h;rw[List.any_eq_false]at h;have:=h n a;rw[Bool.or_eq_true,w5,w5]at this;omega
theorem RN:∀ {l:List BM} {seen:List BJ},LQ seen l=0->∀x∈l,JG x=0
 |[],_,_,x,a=>by cases a
 |y::l,seen,h,x,a=>by
  unfold LQ at h;by_cases k:JG y=0
  ·rw[wc<|by simpa using k]at h;split at h
   ·exact wh h af
   ·rcases yo.1 a with rfl|a
    ·exact k
    ·exact RN h x a
  ·rw[wd k]at h;exact wh h k
theorem U9:∀ {l:List A1} {seen:List BJ},YM seen l=0->(∀w∈l,Ao w.2=0/\0<=Au w.2/\w.1∉seen)/\(l.map Prod.fst).Nodup
 |[],_,_=>⟨fun w hw=>(by cases hw),List.nodup_nil⟩
 |x::l,seen,h=>by
  unfold YM at h;split at h
  ·exact wh h af
  ·split at h
   ·exact wh h af
   ·next a=>
    have a:x.1∉seen:=by
     unfold has at a;simpa using a
    by_cases k:Ao x.2=0
    ·rw[wc<|by simpa using k]at h;split at h
     ·exact wh h af
     ·next d=>
      obtain⟨b,c⟩:=U9 h;refine⟨fun w hw=>?_,?_⟩
      ·rcases yo.1 hw with rfl|hw
       ·exact⟨k,yz.1 d,a⟩
       ·obtain⟨f,g,j⟩:=b w hw;exact⟨f,g,fun x=>j<|ye _ x⟩
      ·rw[List.map_cons,List.nodup_cons];refine⟨fun i=>?_,c⟩;obtain⟨w,hw,e⟩:=List.mem_map.1 i;exact(b w hw).2.2 (by rw[e];exact zr ..)
    ·rw[wd k]at h;exact wh h k
structure kL(l:BM):Prop where
 head:Ao l.2.1=0
 next:Ao l.2.2.1=0
 headB:(1:Rat)<=Au l.2.1/\Au l.2.1<=10000
 nextB:(1:Rat)<=Au l.2.2.1/\Au l.2.2.1<=10000
 tab:BH l.2.2.2.1=0
 up:Se none l.2.2.2.1=0
 wlen:l.2.2.2.2.length<=16
 wts:∀w∈l.2.2.2.2,Ao w.2=0/\0<=Au w.2
 one:(l.2.2.2.2.map Prod.fst).Nodup
theorem mM{l:BM}(h:JG l=0):kL l:=by
 unfold JG at h;by_cases k:LK l=0
 ·rw[wc<|by simpa using k]at h;by_cases u:Se none l.2.2.2.1=0
  ·rw[wc<|by simpa using u]at h;unfold LK at k;rw[Bq,Bq,Bq,Bq]at k;obtain⟨_,f,c,g,_⟩:=k;obtain⟨a1,a2,a3⟩:=Gb f;obtain⟨b1,b2,b3⟩:=Gb c;unfold N4 at h;split at h
   ·exact wh h af
   ·next d=>
    obtain⟨b,e⟩:=U9 h;exact⟨a1,b1,⟨a2,a3⟩,⟨b2,b3⟩,g,u,by omega,fun w a=>⟨(b w a).1,(b w a).2.1⟩,e⟩
  ·rw[wd u]at h;exact wh h u
 ·rw[wd k]at h;exact wh h k
structure XN(c:AL):Prop where
 s1:c.1≠[]/\c.1.length<=36
 t1:c.2.1≠[]/\c.2.1.length<=8
 l1:c.2.2≠[]/\c.2.2.length<=8
 st:∀s∈c.1,eT s
 te:∀t∈c.2.1,t.2.length=c.1.length/\∀n∈t.2,1<=n/\n<=10000
 lv:∀l∈c.2.2,kL l
theorem Vt{c:AL}(h:N8 c=0):XN c:=by
 unfold N8 at h;split at h
 ·exact wh h af
 next a1=>
 split at h
 ·exact wh h af
 next a2=>
 split at h
 ·next k=>exact wh h k
 next a3=>
 unfold Tc at h;split at h
 ·exact wh h af
 next e=>
 split at h
 ·exact wh h af
 next m=>
 split at h
 ·next k=>exact wh h k
 next a=>
 unfold Oe at h;split at h
 ·exact wh h af
 next f=>
 split at h
 ·exact wh h af
 next n=>
 have a3:I4 c.1=0:=z7.1 a3;have a:FV (c.1.length:Int) [] c.2.1=0:=z7.1 a;refine⟨⟨a1,by omega⟩,⟨e,by omega⟩,⟨f,by omega⟩,fun s g=>qC<|R1 a3 s g,fun t b=>?_,fun l i=>mM<|RN h l i⟩;obtain⟨j,d⟩:=Sr a t b;exact⟨by omega,W8 d⟩
theorem GY{α:Type}{l:List α}{i:Nat}{d:α}(h:i<l.length):l.getD i d∈l:=by
 rw[zn,zy h];exact List.getElem_mem h
theorem Dz{i n:Int}(h:KP i n=false):0<=i/\i<n:=by
 unfold KP at h;rw[z8,w9,w9]at h;omega
theorem Qd{c:AL}{b:Bool}(h:Kd c b=0):N8 c=0/\b=false:=by
 unfold Kd at h;split at h
 ·next k=>exact wh h k
 ·next k=>
  split at h
  ·exact wh h af
  ·next d=>exact⟨z7.1 k,by simpa using d⟩
theorem Na{c:AL}(h:Iy c=true):c.1.length<=38/\c.2.1.length<=10/\c.2.2.length<=10/\(∀s∈c.1,BU s=true)/\(∀t∈c.2.1,Ds t=true)/\(∀l∈c.2.2,Bx l=true):=by
 unfold Iy at h;rw[zd,zd,zd,zd,zd,w5,w5,w5,zk,zk,zk]at h;obtain⟨⟨⟨⟨⟨b,a⟩,f⟩,e⟩,d⟩,g⟩:=h;exact⟨b,a,f,e,d,g⟩
theorem Q3{c:AL}(h:vZ c=true):c.1.length<=38/\c.2.1.length<=10/\c.2.2.length<=10/\(∀s∈c.1,BU s=true)/\(∀t∈c.2.1,Ad2 t=true)/\(∀l∈c.2.2,Pm l=true):=by
 unfold vZ at h;rw[zd,zd,zd,zd,zd,w5,w5,w5,zk,zk,zk]at h;obtain⟨⟨⟨⟨⟨b,a⟩,f⟩,e⟩,d⟩,g⟩:=h;exact⟨b,a,f,e,d,g⟩
theorem Ot{s:BQ}(h:BU s=true):s.1.length<=20/\s.2.1.length<=20/\s.2.2.1.length<=20/\s.2.2.2.1.length<=20/\s.2.2.2.2.length<=20:=by
 unfold BU at h;rw[zd,zd,zd,zd,w5,w5,w5,w5,w5]at h;obtain⟨⟨⟨⟨d,c⟩,a⟩,b⟩,e⟩:=h;exact⟨d,c,a,b,e⟩
theorem OP{l:List A1}{n m:Nat}(h:IF l n m=true):∀p∈l,p.1.length<=n/\p.2.length<=m:=by
 intro p hp;unfold IF at h;rw[zk]at h;have:=h p hp;rwa [zd,w5,w5]at this
structure wK(l:BM):Prop where
 name:l.1.length<=40
 head:l.2.1.length<=20
 next:l.2.2.1.length<=20
 tl:l.2.2.2.1.length<=70
 wl:l.2.2.2.2.length<=20
 tab:∀p∈l.2.2.2.1,p.1.length<=20/\p.2.length<=20
 wts:∀p∈l.2.2.2.2,p.1.length<=40/\p.2.length<=20
theorem UJ{l:BM}(h:Bx l=true):wK l:=by
 unfold Bx at h;rw[zd,zd,zd,zd,zd,zd,w5,w5,w5,w5,w5]at h;obtain⟨⟨⟨⟨⟨⟨c,b⟩,f⟩,e⟩,d⟩,g⟩,a⟩:=h;exact⟨c,b,f,e,d,OP g,OP a⟩
theorem TX{c:AL}{h:Int}(a:XN c)(d:Iy c=true)(b:Q1 c h=false):eT (BF c h)/\BU (BF c h)=true:=by
 obtain⟨h0,e⟩:=Dz b;have m:BF c h∈c.1:=GY ae;exact⟨a.st _ m,(Na d).2.2.2.1 _ m⟩
theorem tF{c:AL}{l:Int}(a:XN c)(b:Iy c=true)(d:N7 c l=false):kL (CW c l)/\wK (CW c l):=by
 obtain⟨h0,e⟩:=Dz d;have m:CW c l∈c.2.2:=GY ae;exact⟨a.lv _ m,UJ<|(Na b).2.2.2.2.2 _ m⟩
theorem wH{c:AL}{t h:Int}(b:XN c)(e:eI c t=false)(a:Q1 c h=false):1<=Hd c t h/\Hd c t h<=10000/\(c.2.1.getD t.toNat ([],[])).2.length=c.1.length:=by
 obtain⟨t0,t1⟩:=Dz e;obtain⟨h0,h1⟩:=Dz a;have m:c.2.1.getD t.toNat ([],[])∈c.2.1:=GY ae;obtain⟨e1,e2⟩:=b.te _ m;have d:Hd c t h∈(c.2.1.getD t.toNat ([],[])).2:=GY ae;have:=e2 _ d;exact⟨this.1,this.2,e1⟩
structure AeJ(l:BM):Prop where
 head:l.2.1.length<=20
 next:l.2.2.1.length<=20
 tl:l.2.2.2.1.length<=70
 tab:∀p∈l.2.2.2.1,p.1.length<=20/\p.2.length<=20
 wts:∀p∈l.2.2.2.2,p.2.length<=20
theorem xT{l:BM}(h:Pm l=true):AeJ l:=by
 unfold Pm at h;rw[zd,zd,zd,zd,w5,w5,w5,zk]at h;obtain⟨⟨⟨⟨b,a⟩,e⟩,d⟩,c⟩:=h;exact⟨b,a,e,OP d,fun p hp=>w6<|c p hp⟩
theorem uD{l:BM}(h:Bx l=true):Pm l=true:=by
 have k:=UJ h;unfold Bx at h;rw[zd,zd]at h;unfold Pm;rw[w4 k.head,w4 k.next,w4 k.tl,h.1.2,zk.2 fun p hp=>w4 (k.wts p hp).2];rfl
theorem Ack{c:AL}(h:Iy c=true):vZ c=true:=by
 obtain⟨d,b,i,f,e,j⟩:=Na h;unfold vZ;rw[w4 d,w4 b,w4 i,zk.2 f,zk.2<|fun l a=>uD<|j l a,zk.2<|fun t g=>?_]
 ·rfl
 ·have:=e t g;unfold Ds at this;rw[zd,w5,w5]at this;exact w4 ae
theorem gS(q:Rat):bC (AP q)=max (zj q.num.natAbs).length (zj q.den).length:=by
 unfold bC;rw[(Fj q).1,(DA q.num).2.1,VG]
theorem AaB{s:Z}(h:Ao s=0):Nu (bC s) s (Au s):=by
 obtain⟨n,_⟩:=CU h;have e:=(F5 n).1;have a:=gS<|Au s;rw[e]at a;exact⟨e.symm,Cj _ (by rw[a];exact Nat.le_max_left ..),Cj _<|by rw[a];exact Nat.le_max_right ..⟩
theorem Bo(x:Int)(l:List Int):first (x::l)=if x≠0 then x else first l:=by
 by_cases h:x=0
 ·subst h;rw[wc (by simp),first];rfl
 ·rw[wd h,first];simp[h]
theorem E1(b:Bool)(e:Int):Cq b e=if b=true then e else 0:=by cases b<;>rfl
theorem Di{α:Type}{l r:List α}{x:α}{i:Nat}(h:l.drop i=x::r):l.take (i+1)=l.take i++[x]:=by
 have a:i<l.length:=by
  rcases Nat.lt_or_ge i l.length with c|c
  ·exact c
  ·rw[List.drop_eq_nil_of_le c]at h;cases h
 have b:=List.drop_eq_getElem_cons a;rw[h]at b;simp only[List.cons.injEq]at b;rw[List.take_add_one,zy a,b.1];rfl
end Go.Sp
namespace Go.Pe
open Sp
open Go.Det
structure RS(k:Nat)(f:Ag)(q:Rat):Prop where
 r:Fk f q
 z:HJ k q
theorem RS.mono{i j:Nat}{f:Ag}{q:Rat}(h:RS i f q)(k:i<=j):RS j f q:=⟨h.r,h.z.mono k⟩
theorem RS.s{k:Nat}{f:Ag}{q:Rat}(h:RS k f q)(a:k<=4000):Mt 4000 q:=YA h.z a
theorem RS.CQ{k:Nat}{f:Ag}{q:Rat}(h:RS k f q)(a:k<=4000):zq f=true:=h.r.CQ<|h.s a
theorem RS.Cw{k:Nat}{f:Ag}{q:Rat}(h:RS k f q)(a:k<=4000):qc f=true:=h.r.Cw<|h.s a
theorem RS.Ui{i j:Nat}{f g:Ag}{p q:Rat}(c:RS i f p)(b:RS j g q)(a:i<=4000)(d:j<=4000):(zq f&&zq g)=true:=Ab (c.CQ a)<|b.CQ d
theorem RS.add{i j:Nat}{f g:Ag}{p q:Rat}(b:RS i f p)(a:RS j g q)(c:i<=4000)(d:j<=4000):RS (i+j+1) (Cd f g) (p+q):=⟨Fk.add b.r a.r (b.s c)<|a.s d,b.z.add a.z⟩
theorem RS.sub{i j:Nat}{f g:Ag}{p q:Rat}(b:RS i f p)(a:RS j g q)(c:i<=4000)(d:j<=4000):RS (i+j+1) (Gu f g) (p-q):=⟨Fk.sub b.r a.r (b.s c)<|a.s d,b.z.sub a.z⟩
theorem RS.mul{i j:Nat}{f g:Ag}{p q:Rat}(b:RS i f p)(a:RS j g q)(c:i<=4000)(d:j<=4000):RS (i+j) (GF f g) (p*q):=⟨Fk.mul b.r a.r (b.s c)<|a.s d,b.z.mul a.z⟩
theorem RS.div{i j:Nat}{f g:Ag}{p q:Rat}(b:RS i f p)(a:RS j g q)(d:i<=4000)(c:j<=4000)(h0:q≠0):RS (i+j) (K1 f g) (p/q):=⟨Fk.div b.r a.r (b.s d) (a.s c) (YA (a.z.inv h0) c) h0,b.z.div a.z h0⟩
theorem RS.ok3{i j:Nat}{f g:Ag}{p q:Rat}(c:RS i f p)(a:RS j g q)(b:i<=4000)(d:j<=4000)(h0:q≠0):(zq f&&zq g&&decide (Sp.vI g.1≠0))=true:=Ab (c.Ui a b d)<|a.r.I3.trans<|w4 h0
theorem RS.cmp{i j:Nat}{f g:Ag}{p q:Rat}(a:RS i f p)(b:RS j g q):Dm f g=if p<q then -1 else if q<p then 1 else 0:=Fk.cmp a.r b.r
theorem RS.HT{i j:Nat}{f g:Ag}{p q:Rat}(b:RS i f p)(a:RS j g q):Dm f g<=0↔p<=q:=by
 rw[b.cmp a];by_cases h:p<q
 ·rw[wd h];exact⟨fun _=>Rat.le_of_lt h,fun _=>by decide⟩
 ·rw[wc h];by_cases k:q<p
  ·rw[wd k];exact⟨fun x=>wh x af,fun x=>wh k<|yz.2 x⟩
  ·rw[wc k];exact⟨fun _=>yz.1 k,fun _=>by decide⟩
theorem RS.qM{i j:Nat}{f g:Ag}{p q:Rat}(b:RS i f p)(a:RS j g q):Dm f g<0↔p<q:=by
 rw[b.cmp a];by_cases h:p<q
 ·rw[wd h];exact⟨fun _=>h,fun _=>by decide⟩
 ·rw[wc h];by_cases k:q<p
  ·rw[wd k];exact⟨fun x=>wh x af,fun x=>wh x h⟩
  ·rw[wc k];exact⟨fun x=>wh x af,fun x=>wh x h⟩
theorem RS.M7{i j:Nat}{f g:Ag}{p q:Rat}(b:RS i f p)(a:RS j g q):Dm f g>0↔q<p:=by
 have h:=b.HT a;constructor
 ·intro k;exact Rat.not_le.1 fun x=>by have:=h.2 x;omega
 ·intro k;have:¬Dm f g<=0:=fun x=>Rat.not_le.2 k<|h.1 x
  omega
theorem RS.cmp_eq{i j:Nat}{f g:Ag}{p q:Rat}(a:RS i f p)(b:RS j g q):Dm f g=0↔p=q:=by
 rw[a.cmp b];exact WH p q
theorem RS.NQ{k:Nat}{f:Ag}{q:Rat}(h:RS k f q):(Pp f<0↔q<0)/\(Pp f=0↔q=0):=by
 have e:Pp f=Sp.NQ q.num:=by unfold Pp;rw[h.r.vn]
 have n1:=Sp.neg_num q;rw[e];unfold Sp.NQ;constructor
 ·rw[<-n1.1];split
  ·next c=>exact⟨fun _=>c,fun _=>by decide⟩
  ·next c=>
   split
   ·exact⟨fun x=>wh x af,fun x=>wh x c⟩
   ·exact⟨fun x=>wh x af,fun x=>wh x c⟩
 ·split
  ·next c=>exact⟨fun x=>wh x af,fun x=>wh (n1.1.1 c)<|by rw[x];exact qi⟩
  ·next c=>
   split
   ·next d=>exact⟨fun x=>wh x af,fun x=>wh (n1.2.1 d)<|by rw[x];exact qi⟩
   ·next d=>exact⟨fun _=>qf.1 ae,fun _=>rfl⟩
theorem RS.Dt{k:Nat}{f:Ag}{q:Rat}(h:RS k f q):Sp.Dt f.1=true:=h.r.n
theorem VF{s:Z}(h:Ao s=0):RS (Sp.bC s) (Cs s) (Au s):=⟨IZ (CU h).1,(AaB h).z⟩
theorem Em{s:Z}(h:Ao s=0){k:Nat}(a:s.length<=k)(b:1<=k):RS k (Cs s) (Au s):=⟨IZ (CU h).1,(HI h a b).z⟩
theorem UK{n:Int}{k:Nat}(h:n.natAbs<10^k)(b:1<=k)(a:k<=18):RS k ((n,Co n),(1,Co 1)) (n:Rat):=by
 have hp:10^k<=10^18:=yd af a;have c:10^1<=10^k:=yd af b;have hr:Cn n=true:=by
  unfold Cn;exact ad ae ae
 refine⟨Ac0 n hr,?_,?_⟩
 ·rw[Rat.num_intCast];exact h
 ·rw[Rat.den_intCast];omega
theorem Md:RS 1 ((0,Co 0),(1,Co 1)) 0:=UK (n:=0) af af af
theorem zW{k:Nat}{f:Ag}{q:Rat}(h:RS k f q){e:Int}(a:e=0):(Pn f,PL f)=(fD e q,fG e q):=AbW h.r a
end Go.Pe
namespace Go.Sp
theorem jJ(s:BQ)(n:Int):plV s n=if (n:Rat)+(Au s.1+Au s.2.1+Au s.2.2.1)<0 then 0 else(n:Rat)+(Au s.1+Au s.2.1+Au s.2.2.1):=rfl
theorem VJ(ws:List A1)(o:ER)(l:List ER):obV ws (o::l)=lookW ws o.1*((o.2:Rat)/10)+obV ws l:=by rw[obV]
theorem M5(k:BJ):∀ws:List A1,lookW ws k=match ws.find? fun w=>decide (w.1=k)with
  |some w=>Au w.2
  |none=>0
 |[]=>rfl
 |w::l=>by
  rw[lookW,List.find?_cons];by_cases h:w.1=k
  ·rw[wd h,w4 h]
  ·rw[wc h,w8 h];exact M5 k l
end Go.Sp
namespace Go.Pe
open Sp
open Go.Det
open Go.Sp (AL BQ BM A1 ER BJ)
structure HoR(s:BQ):Prop where
 rise:RS 20 (Cs s.1) (Au s.1)
 wind:RS 20 (Cs s.2.1) (Au s.2.1)
 lay:RS 20 (Cs s.2.2.1) (Au s.2.2.1)
 roll:RS 20 (Cs s.2.2.2.1) (Au s.2.2.2.1)
theorem iR{s:BQ}(h:eT s)(k:Sp.BU s=true):HoR s:=by
 obtain⟨a,b,c,d,_⟩:=Ot k;exact⟨Em h.rise a af,Em h.wind b af,Em h.lay c af,Em h.roll d af⟩
structure LvR(l:BM):Prop where
 head:RS 20 (Cs l.2.1) (Au l.2.1)
 next:RS 20 (Cs l.2.2.1) (Au l.2.2.1)
 hp:0<Au l.2.1
 np:0<Au l.2.2.1
 wts:∀w∈l.2.2.2.2,RS 20 (Cs w.2) (Au w.2)
theorem Vk:(0:Rat)<1:=by decide+kernel
theorem Abi{l:BM}(h:kL l)(k:wK l):LvR l:=
 ⟨Em h.head k.head af,Em h.next k.next af,Std.lt_of_lt_of_le Vk h.headB.1,Std.lt_of_lt_of_le Vk h.nextB.1,fun w a=>Em (h.wts w a).1 (k.wts w a).2 af⟩
structure AtP(c:AL)(t h:Int):Prop where
 co:XN c
 sh:Iy c=true
 t0:0<=t/\t<(c.2.1.length:Int)
 h0:0<=h/\h<(c.1.length:Int)
 te:1<=Hd c t h/\Hd c t h<=10000
 tl:(c.2.1.getD t.toNat ([],[])).2.length=c.1.length
 st:eT (BF c h)
 hr:HoR (BF c h)
theorem S9{c:AL}{t h:Int}(k:Sp.okP c t h=true):AtP c t h:=by
 unfold Sp.okP at k;rw[zd,w5]at k;obtain⟨sh,e⟩:=k;obtain⟨e1,e2⟩:=Qd e;rw[z8]at e2;have co:=Vt e1;obtain⟨s1,s2⟩:=TX co sh e2.2;obtain⟨t1,t2,t3⟩:=wH co e2.1 e2.2;exact⟨co,sh,Dz e2.1,Dz e2.2,⟨t1,t2⟩,t3,s1,iR s1 s2⟩
structure AtL(c:AL)(l:Int):Prop where
 co:XN c
 sh:Iy c=true
 l0:0<=l/\l<(c.2.2.length:Int)
 lv:kL (CW c l)
 ls:wK (CW c l)
 lr:LvR (CW c l)
theorem Yp{c:AL}{t h l:Int}(k:Yw c t h l=true):Sp.okP c t h=true/\qj c h l=true:=by
 unfold Yw at k;rw[zd,w5]at k;obtain⟨sh,e⟩:=k;obtain⟨e1,e2⟩:=Qd e;rw[z8,z8]at e2;have mk:∀b:Bool,b=false->Kd c b=0:=fun b a=>by
  unfold Kd;rw[wc (by simpa using e1),a];rfl
 exact⟨Ab sh (w4<|mk _<|by rw[e2.1,e2.2.1];rfl),Ab sh<|w4<|mk _<|by rw[e2.2.1,e2.2.2];rfl⟩
theorem MW{c:AL}{h l:Int}(k:qj c h l=true):AtL c l/\(0<=h/\h<(c.1.length:Int))/\eT (BF c h)/\HoR (BF c h):=by
 unfold qj at k;rw[zd,w5]at k;obtain⟨sh,e⟩:=k;obtain⟨e1,e2⟩:=Qd e;rw[z8]at e2;have co:=Vt e1;obtain⟨l1,l2⟩:=tF co sh e2.2;obtain⟨s1,s2⟩:=TX co sh e2.1;exact⟨⟨co,sh,Dz e2.2,l1,l2,Abi l1 l2⟩,Dz e2.1,s1,iR s1 s2⟩
theorem pL{n:Int}(h:1<=n/\n<=10000):RS 5 (Sp.iF n) (n:Rat):=UK ae af af
theorem gZ{c:AL}{t h:Int}(k:AtP c t h):RS 70 (oZ c t h) ((Hd c t h:Rat)+(Au (BF c h).1+Au (BF c h).2.1+Au (BF c h).2.2.1)):=by
 have z:RS 1 Sp.zF 0:=Md;have a1:=z.add k.hr.rise af af;have a2:=a1.add k.hr.wind af af;have a3:=a2.add k.hr.lay af af;have a4:=(pL k.te).add a3 af af;rw[qe]at a4;exact a4.mono af
theorem oP{c:AL}{t h:Int}(k:AtP c t h):RS 70 (UM c t h) (LG c t h):=by
 have a:=gZ k;unfold UM LG;rw[jJ];by_cases s:Pp (oZ c t h)<0
 ·rw[wd s,wd<|a.NQ.1.1 s];exact(Md).mono af
 ·rw[wc s,wc fun x=>s<|a.NQ.1.2 x];exact a
theorem OS{a b:Rat}(c:0<a)(d:0<=b):0<a+b:=by grind
theorem kQ{c:AL}{t h l:Int}(k:Yw c t h l=true):RS 194 (Zf c t h l) (RE c t h l):=by
 obtain⟨kp,ko⟩:=Yp k;have P:=S9 kp;obtain⟨L,_,_,_⟩:=MW ko;have p:=oP P;have r:=P.hr.roll;have a:=P.st.rollB.1;have reach:=L.lr.head.add r af af;have b:=L.lr.next.add r af af;have h0:Au (CW c l).2.1+Au (BF c h).2.2.2.1≠0:=Rat.ne_of_gt<|OS L.lr.hp a;have n0:Au (CW c l).2.2.1+Au (BF c h).2.2.2.1≠0:=Rat.ne_of_gt<|OS L.lr.np a;unfold Zf RE vF Iu Wv Km;by_cases s:Dm (UM c t h) (Cd (Cs (CW c l).2.1)<|Cs (BF c h).2.2.2.1)<=0
 ·rw[wd s,wd<|(p.HT reach).1 s];exact((p.mul L.lr.head af af).div reach af af h0).mono af
 ·rw[wc s,wc fun x=>s<|(p.HT reach).2 x];have d:=p.sub reach af af;have m:=d.mul L.lr.next af af;have q:=m.div b af af n0;exact(L.lr.head.add q af af).mono af
theorem QQ{n:Int}(h:0<=n/\n<=10):RS 2 (S7 (n,Co n) (10,Co 10)) ((n:Rat)/10):=by
 have a:Cn n=true:=by
  unfold Cn;exact ad ae ae
 obtain⟨a1,a2⟩:=HM a;obtain⟨b1,b2⟩:=HM (n:=10) rfl;have r:=Mb a1 b1 (by rw[b2];decide);rw[a2,b2]at r;have e:ya n 10=(n:Rat)/10:=by rw[Rat.divInt_eq_div];rfl
 rw[e]at r;exact⟨r,by rw[<-e];exact Ip af ae af⟩
theorem pN{ws:List A1}(c:∀w∈ws,RS 20 (Cs w.2)<|Au w.2):∀ {l:List ER} {K:Nat} {f:Ag} {q:Rat},(∀o∈l,0<=o.2/\o.2<=10)->RS K f q->K+23*l.length<=4000->RS (K+23*l.length) (V4 ws f l) (q+Sp.obV ws l)
 |[],K,f,q,_,b,_=>by
  show RS K f<|q+0;rw[Rat.add_zero];exact b
 |o::l,K,f,q,g,b,k=>by
  rw[zi]at k ⊢;have i:=g o<|zr ..;have e:=fun x j=>g x<|ye _ j
  rw[VJ,M5,V4];cases d:ws.find? fun w=>decide (w.1=o.1)with
  |none=>
   simp only;rw[Rat.zero_mul,qe];exact(pN c e b ae).mono ae
  |some w=>
   simp only;have h:=List.mem_of_find?_eq_some d;have m:=(c w h).mul (QQ i) af af;have a:=b.add m ae af;have:=pN c (l:=l) e a ae;rw[<-Rat.add_assoc];exact this.mono ae
theorem Pk{c:AL}{h l:Int}(k:qj c h l=true):RS 369 (vW c h l) (Ys c h l):=by
 obtain⟨L,_,S,_⟩:=MW k;have:=pN L.lr.wts (K:=1) (f:=Sp.zF) (q:=0) S.obs Md (by have:=S.len;omega);rw[qe]at this;exact this.mono (by have:=S.len;omega)
theorem AaL{u v a b:Rat}(h:a<b):u+(v-u)*(b-a)/(b-a)=v:=by
 have h0:b-a≠0:=P0 h;rw[Rat.mul_div_cancel h0];grind
theorem kK{x:Ag}{X:Rat}{K:Nat}(b:RS K x X)(t:K<=2000):∀(l:List A1) (o:Option A1),(o=none->l≠[])->(∀q,o=some q->RS 20 (Cs q.1) (Au q.1)/\RS 20 (Cs q.2) (Au q.2))->(∀p∈l,p.1.length<=20/\p.2.length<=20)->DM o l=0->RS (K+145) (qW o l x) (Rw (o.map Sp.pt) (l.map Sp.pt) X)
 |[],none,h,_,_,_=>wh rfl (h rfl)
 |[],some q,_,f,_,_=>by
  rw[qW];show RS _ _<|Rw (some<|Sp.pt q) [] X;rw[YQ];exact(f q rfl).2.mono ae
 |p::l,none,_,_,i,m=>by
  obtain⟨k,n,s⟩:=Mz m;obtain⟨l1,l2⟩:=i p<|zr ..;have a:=Em k l1 af;have g:=Em n l2 af;show RS _ _<|Rw none (Sp.pt p::l.map Sp.pt) X;rw[V1,qW];by_cases c:Dm x (Cs p.1)>0
  ·rw[wd c,wd<|show(Sp.pt p).1<X from(b.M7 a).1 c];exact kK b t l (some p) (fun h=>by cases h) (fun q f=>by cases f;exact⟨a,g⟩) (fun y r=>i y<|ye _ r) s
  ·rw[wc c,wc<|show ¬(Sp.pt p).1<X from fun h=>c<|(b.M7 a).2 h];exact g.mono ae
 |p::l,some q,_,f,i,m=>by
  obtain⟨k,n,j,s⟩:=I2 m;obtain⟨l1,l2⟩:=i p<|zr ..;obtain⟨q1,q2⟩:=f q rfl;have a:=Em k l1 af;have g:=Em n l2 af;show RS _ _<|Rw (some<|Sp.pt q) (Sp.pt p::l.map Sp.pt) X;rw[Vg,qW];by_cases c:Dm x (Cs p.1)>0
  ·rw[wd c,wd<|show(Sp.pt p).1<X from(b.M7 a).1 c];exact kK b t l (some p) (fun h=>by cases h) (fun q f=>by cases f;exact⟨a,g⟩) (fun y r=>i y<|ye _ r) s
  ·rw[wc c,wc<|show ¬(Sp.pt p).1<X from fun h=>c<|(b.M7 a).2 h];by_cases d:Dm x (Cs p.1)=0
   ·rw[wd d];have e:X=(Sp.pt p).1:=(b.cmp_eq a).1 d;rw[e,AaL<|show(Sp.pt q).1<(Sp.pt p).1 from j];exact g.mono ae
   ·rw[wc d];have s1:=g.sub q2 af af;have s2:=b.sub q1 ae af;have s3:=s1.mul s2 af ae;have s4:=a.sub q1 af af;have s5:=s3.div s4 ae af<|P0 j;exact(q2.add s5 af ae).mono ae
theorem pJ{t:List A1}{x:Ag}{X:Rat}{K:Nat}(e:RS K x X)(g:K<=2000)(d:BH t=0)(a:∀p∈t,p.1.length<=20/\p.2.length<=20):RS (K+145) (Sp.vlF t x) (Rw none (Abv t) X):=by
 obtain⟨c,_,f⟩:=Fp d;exact kK e g t none (fun _=>c) (fun q b=>by cases b) a f
theorem zS{c:AL}{t h l:Int}(k:Yw c t h l=true):RS 709 (Sp.rtF c t h l) (Zb c t h l):=by
 obtain⟨_,ko⟩:=Yp k;obtain⟨L,_,_,_⟩:=MW ko;exact((pJ (kQ k) af L.lv.tab L.ls.tab).add (Pk ko) af af).mono af
end Go.Pe
namespace Go.Sp
def OkY(t:List A1)(x:Ag):Prop:=BH t=0/\(∀p∈t,p.1.length<=20/\p.2.length<=20)/\∃X,Go.Pe.RS 300 x X
def okY(t:List A1)(x:Ag):Bool:=@decide (OkY t x) (yj _)
theorem AaA{t:List A1}{x:Ag}(h:okY t x=true):OkY t x:=@w6 _ (yj _) h
theorem AbK{t:List A1}{x:Ag}(h:OkY t x):okY t x=true:=@w4 _ (yj _) h
end Go.Sp
namespace Go.Pe
open Sp
open Go.Det
def AcI:Am:=⟨[.list B5,Av],fun i=>Sp.okY i.1 i.2,[Av],fun i=>((Ae6 i.1 i.2,Afu i.1 i.2),(Afi i.1 i.2,Afe i.1 i.2)),false⟩
def Uy:Am:=⟨[.list B5,.str],fun i=>decide (List.length (α:=A1) i.1<=1000)&&GC 100 i.1&&decide (XD i.1 i.2=0),[.str],fun i=>kT i.1 i.2,false⟩
def kD:Am:=⟨[Av,Av],fun i=>qc (i.1:Ag)&&qc (i.2:Ag),[.bool],fun i=>decide (Dm (i.1:Ag) (i.2:Ag)=0),false⟩
def AdB:AT:=X7 [(56,Rj)]
def Od:AT:=SS [(86,[2,13])] [(86,[(2,[(3,Bn)]),(13,[(12,S1),(13,Av)])])] [(86,[(14,[6,7,10,40,41,42]),(13,[6,7,10,12,13,40,41,42]),(10,[6,7,10,40,41,42]),(9,[6,7,10,40,41,42]),(4,[1,3,6,7,21,22,23]),(3,[1,3,6,7,21,22,23]),(2,[1,2,3,6,7])])] [(55,MC),(103,cF),(106,VT),(140,pD),(102,VY),(75,NI)]
def RB:AT:=SS [(151,[1,8,9])] [(151,[(1,[(3,Av)]),(8,[(7,Av),(8,Av)]),(9,[(9,Av),(10,Av)])])] [(151,[(10,[0,3,4,11,12,13]),(8,[0,3,4,5,7,8]),(6,[0,3,4,5,7,8]),(3,[0,3,4,11,12,13]),(2,[0,3,4,11,12,13]),(1,[0,3,4]),(9,[3,4,7,8,9,10])])] [(55,MC),(56,Rj),(191,kD),(75,NI),(74,kA),(102,VY),(76,mO)]
def Abb:AT:=SS [(87,[1])] [(87,[(1,[(4,Bn)])])] [(87,[(1,[1,2,3,4,8])])] [(79,cEf),(86,cOb),(151,AcI),(75,NI)]
def AaU:AT:=X7 [(69,Aaf),(70,iP),(73,YX),(68,TQ),(71,YP),(86,cOb),(87,cRt)]
def Oc:AT:=SS [(29,[3])] [(29,[(3,[(8,BU),(9,Bx)])])] [(29,[(8,[7,8,9,10,11]),(9,[7,8,9,10,11]),(7,[7,8,9,10,11]),(6,[7,8,9,10]),(4,[7,8,9,10]),(3,[7,8,9])])] [(40,YU),(34,Pz),(33,LN)]
def AbC:AT:=SS [(30,[1])] [(30,[(1,[(4,Bn)])])] [(30,[(1,[1,2,3,4])])] [(88,Uy),(26,Adm),(29,AbM),(33,LN)]
def TM:AT:=SS [(5,[2,9])] [(5,[(2,[(2,Bn),(3,Ac2),(5,Bn)])])] [(5,[(2,[2,3,5]),(9,[2,3,5,6,7,8,9,10])])] [(8,YD),(10,J8),(9,rE),(27,Adr),(28,cHo),(16,cCo),(22,RU),(21,zT),(20,G1),(29,AbM),(30,Ad9)]
section
open List Int Prod
namespace T27
def T(c:AL)(h l:Int):Tr:=tree AaU false 9 27<|Ae ([Bn,zw zh,zw zh]) (c,h,l)
theorem Aj(c:AL)(h l:Int):T c h l=let a:=vW c h l;.ck true (.ck true<|.ck (decide (2<=2)&&true&&(Iy c&&decide (2<=1000)))<|.ite (Ns c [(h,Sp.nHo c),(l,Sp.nLv c)] !=0) (.leaf (.tup [.dat z6 [],.dat i64<|Ns c [(h,Sp.nHo c),(l,Sp.nLv c)]]) [])<|.ck (qj c h l)<|.ck (qc a)<|.leaf (.tup [.dat z6<|Pn a,.dat i64<|PL a]) []):=by kernel_rfl
end T27
namespace T28
def T(c:AL)(t h l:Int):Tr:=tree AaU false 9 28<|Ae ([Bn,zw zh,zw zh,zw zh]) (c,t,h,l)
theorem Aj(c:AL)(t h l:Int):T c t h l=let a:=Sp.rtF c t h l;.ck true (.ck true<|.ck true<|.ck (decide (3<=3)&&true&&(Iy c&&decide (3<=1000)))<|.ite (Ns c [(t,Sp.nTe c),(h,Sp.nHo c),(l,Sp.nLv c)] !=0) (.leaf (.tup [.dat z6 [],.dat i64<|Ns c [(t,Sp.nTe c),(h,Sp.nHo c),(l,Sp.nLv c)]]) [])<|.ck (Yw c t h l)<|.ck (qc a)<|.leaf (.tup [.dat z6<|Pn a,.dat i64<|PL a]) []):=by kernel_rfl
end T28
namespace T29
def T(c:AL)(h l:Int):Tr:=tree Oc false 9 29<|Ae ([Bn,zw zh,zw zh]) (c,h,l)
def L1(b:Z)(a:BQ)(v9:BM):Tr:=re ((T ([],([],[])) 0 0).L.L)<|Aw 66 [(7,.dat z6 b),(8,PV.Bc BU a 0),(9,PV.Bc Bx v9 0)] [] 0
theorem Aj(c:AL)(h l:Int):T c h l=.ck (decide (0<=h)&&decide (h<(↑(length<|fst c):Int))) (.ck (decide (0<=l)&&decide (l<(↑(length<|snd<|snd c):Int)))<|L1 ([(48:UInt8)]) ((getD (fst c) (toNat h) ([],[],[],[],[])))<|(getD (snd<|snd c) (toNat l) ([],[],[],[],[]))):=by kernel_rfl
def L2(c:Z)(b:BQ)(v9:BM)(a:Int):Tr:=re ((stepT Oc<|L1 [] ([],([],([],([],[])))) ([],([],([],([],[]))))))<|Aw 66 [(7,.dat z6 c),(8,PV.Bc BU b 0),(9,PV.Bc Bx v9 0),(10,.dat i64 a)] [] 0
theorem Al(b:Z)(a:BQ)(v9:BM):stepT Oc (L1 b a v9)=L2 b a v9 0:=by kernel_rfl
def L3(d:Z)(c:BQ)(v9:BM)(a b:Int):Tr:=re ((stepT Oc<|L2 [] ([],([],([],([],[])))) ([],([],([],([],[])))) 0).L)<|Aw 66 [(7,.dat z6 d),(8,PV.Bc BU c 0),(9,PV.Bc Bx v9 0),(10,.dat i64 a),(11,.dat i64 b)] [] 0
theorem AG(c:Z)(b:BQ)(v9:BM)(a:Int):stepT Oc (L2 c b v9 a)=.di (a<(↑(length<|snd<|snd<|snd<|snd b):Int)) (L3 c b v9 a 0) (.leaf (.dat z6 c) []):=by kernel_rfl
theorem BA(c:Z)(d:BQ)(v9:BM)(a b:Int):stepT Oc (L3 c d v9 a b)=let j:=zg .i64<|b+1;let i:=snd<|snd<|snd<|snd d;let h':=snd<|snd<|snd<|snd v9;let e:=getD i (toNat a) ([],0);let b':=getD h' (toNat b) ([],[]);let f:=decide (b<(↑(length h'):Int));let h:=decide (0<=a)&&decide (a<(↑(length i):Int));let g:=CT (snd e) 10;.ite f (.ck (decide (0<=b)&&f)<|.ck h<|.ite (fst b'==fst e) (.ck (decide (0<=b)&&f)<|.ck h<|.ck (Cn (snd e)&&Cn 10&&decide (10≠0))<|.ck (Be (snd b')&&Be g)<|.ck (Be c&&Be (FH (snd b') g))<|L3 (CC c<|FH (snd b') g) d v9 a j)<|L3 c d v9 a j) (L2 c d v9<|zg .i64<|a+1):=by kernel_rfl
end T29
namespace T30
def T(c:AL)(t h l:Int):Tr:=tree AbC false 9 30<|Ae ([Bn,zw zh,zw zh,zw zh]) (c,t,h,l)
def L1(v1 v2 v3:Int)(v4:AL):Tr:=re ((T ([],([],[])) 0 0 0))<|Aw 26 [(1,.dat i64 v1),(2,.dat i64 v2),(3,.dat i64 v3),(4,PV.Bc Bn v4 0)] [] 0
theorem Aj(c:AL)(t h l:Int):T c t h l=L1 t h l c:=by kernel_rfl
theorem Al(v1 v2 v3:Int)(v4:AL):stepT AbC (L1 v1 v2 v3 v4)=let a:=fst<|snd<|snd<|snd<|getD (snd<|snd v4) (toNat v3) ([],[],[],[],[]);let b':=Sp.efR v4 v1 v2 v3;.ck (decide (0<=v3)&&decide (v3<(↑(length<|snd<|snd v4):Int))) (.ck (Yw v4 v1 v2 v3)<|.ck (decide (length a<=1000)&&GC 100 a&&decide (XD a b'=0))<|.ck (qj v4 v2 v3)<|.ck (Be (kT a b')&&Be (Sp.obR v4 v2 v3))<|.leaf (.dat z6<|CC (kT a b')<|Sp.obR v4 v2 v3) []):=by kernel_rfl
end T30
namespace T5
def T(c:AL)(a:Int×Int×Int):Tr:=tree TM false 9 5<|Ae ([Bn,Sh.pair i64<|Sh.pair i64 i64]) (c,a)
def L1(v2:AL)(v3:Int×Int×Int)(v5:AL):Tr:=re ((T ([],([],[])) (0,(0,0))).L)<|Aw 102 [(2,PV.Bc Bn v2 0),(3,PV.Bc (Sh.pair i64<|Sh.pair i64 i64) v3 0),(5,PV.Bc Bn v5 0)] [] 0
theorem Aj(c:AL)(a:Int×Int×Int):T c a=.ck (zN c) (L1 c a c):=by kernel_rfl
def L2(v2:AL)(v3:Int×Int×Int)(v5:AL)(c:Z)(b:Int)(d:Z)(v9 a:Int):Tr:=re ((stepT TM<|L1 ([],([],[])) (0,(0,0)) ([],([],[]))).L.R.L.R.L.L.L.L.L.L.L)<|Aw 102 [(2,PV.Bc Bn v2 0),(3,PV.Bc (Sh.pair i64<|Sh.pair i64 i64) v3 0),(5,PV.Bc Bn v5 0),(6,.dat z6 c),(7,.dat i64 b),(8,.dat z6 d),(9,.dat i64 v9),(10,.dat i64 a)] [] 0
theorem Al(v2:AL)(v3:Int×Int×Int)(v5:AL):stepT TM (L1 v2 v3 v5)=let a:=fst<|snd v3;let b':=snd<|snd v3;let f:Tr:=.ck true<|.leaf (.dat yp true) [];let d:=YN v2 (fst v3) a b';let c:=Z8 v2 (fst v3) a b';let b:=Of v2 a b';let e:=fF v2 a b';.ck true (.ite false f<|.ck true<|.ite (!Iy v5) f<|.ck (Iy v2)<|.ck (Iy v2)<|.ck (Iy v5)<|.ite (N8 v5==0) (.ck true<|.ite (KP a (↑(length<|fst v2):Int)) (.ck true<|L2 v2 v3 v5 e b d c<|Cq true 10)<|.ck true<|.ck true<|L2 v2 v3 v5 e b d c<|Cq (KP b' (↑(length<|snd<|snd v2):Int)) 10)<|L2 v2 v3 v5 e b d c<|N8 v5):=by kernel_rfl
theorem AG(v2:AL)(v3:Int×Int×Int)(v5:AL)(f:Z)(d:Int)(c:Z)(v9 a:Int):stepT TM (L2 v2 v3 v5 f d c v9 a)=let b:=fst<|snd v3;let b':=snd<|snd v3;let e:=decide (0<=1000000);let g:=Sp.hoR v5 (fst v3) b b';.ite (a !=0) (.ck e<|.ite (EV f d [] a) (.ck e<|.leaf (.dat yp<|EV c v9 [] a) [])<|.leaf (.bl false) []) (.ck (qj v5 b b')<|.cd (length (Sp.obR v5 b b')<=1000000)<|.ite (!EV f d (Sp.obR v5 b b') 0) (.leaf (.bl false) [])<|.ck true<|.ite (KP (fst v3) (↑(length<|fst<|snd v2):Int)) (.ck e<|.leaf (.dat yp<|EV c v9 [] 10) [])<|.ck (Yw v5 (fst v3) b b')<|.cd (length g<=1000000)<|.leaf (.dat yp<|EV c v9 g 0) []):=by kernel_rfl
end T5
namespace T106
def T(n:Int):Tr:=tree FG false 9 106<|Ae ([zw zh]) n
theorem Aj(n:Int):T n=.leaf (yu [.dat i64 n,.nil]) []:=by kernel_rfl
end T106
namespace T191
def T(a b:Ag):Tr:=tree AdB false 9 191<|Ae ([Av,Av]) (a,b)
theorem Aj(a b:Ag):T a b=.ck (qc a&&qc b) (.leaf (.dat yp<|Dm a b==0) []):=by kernel_rfl
end T191
namespace T86
def T(c:AL)(h l:Int):Tr:=tree Od false 9 86<|Ae ([Bn,zw zh,zw zh]) (c,h,l)
def L1(v1 v2:Int)(v3:AL)(o1:List (Z×Ag))(b a:Int):Tr:=re ((T ([],([],[])) 0 0))<|Aw 66 [(1,.dat i64 v1),(2,.dat i64 v2),(3,PV.Bc Bn v3 0),(6,.ptr 0 0),(7,PV.mp 1)] [(1,Obj.map z6 Av o1),(0,.box [.dat i64 b,.nil,.dat i64 a,.nil])] 2
theorem Aj(c:AL)(h l:Int):T c h l=L1 h l c [] 0 0:=by kernel_rfl
def L2(v1:Int)(v3:AL)(b:List A1)(d c:Int)(o1:List (Z×Ag))(e a:Int):Tr:=re ((stepT Od<|L1 0 0 ([],([],[])) [] 0 0).L)<|Aw 66 [(1,.dat i64 v1),(3,PV.Bc Bn v3 0),(6,.ptr 0 0),(7,PV.mp 1),(21,.dat (yv B5) b),(22,.dat i64 d),(23,.dat i64 c)] [(1,Obj.map z6 Av o1),(0,.box [.dat i64 e,.nil,.dat i64 a,.nil])] 2
theorem Al(v1 v2:Int)(v3:AL)(o1:List (Z×Ag))(c a:Int):stepT Od (L1 v1 v2 v3 o1 c a)=let b:=snd<|snd<|snd<|snd<|getD (snd<|snd v3) (toNat v2) ([],[],[],[],[]);.ck (decide (0<=v2)&&decide (v2<(↑(length<|snd<|snd v3):Int))) (L2 v1 v3 b ((↑(length b):Int)) 0 o1 c a):=by kernel_rfl
def L3(e:List ER)(g f h:Int)(d:List Int)(c:Int)(b:List Int)(o1:List (Z×Ag))(i a:Int):Tr:=re ((stepT Od<|L2 0 ([],([],[])) [] 0 0 [] 0 0).R.L.L)<|Aw 66 [(6,.ptr 0 0),(7,PV.mp 1),(10,.ptr 2 0),(40,.dat (yv S1) e),(41,.dat i64 g),(42,.dat i64 f)] [(2,.box [.dat i64 h,.dat wU d,.dat i64 c,.dat wU b]),(1,Obj.map z6 Av o1),(0,.box [.dat i64 i,.nil,.dat i64 a,.nil])] 3
theorem AG(v1:Int)(v3:AL)(c:List A1)(d a:Int)(o1:List (Z×Ag))(e b:Int):stepT Od (L2 v1 v3 c d a o1 e b)=let f:=snd<|snd<|snd<|snd<|getD (fst v3) (toNat v1) ([],[],[],[],[]);let b':=getD c (toNat a) ([],[]);.di (a<d) (.ck (decide (0<=a)&&decide (a<(length c:Int)))<|.ck (DR<|snd b')<|L2 v1 v3 c d (zg .i64<|a+1) (Hu z6 Av (fst b') (Cs<|snd b') o1) e b) (.ck true<|.ck (decide (0<=v1)&&decide (v1<(↑(length<|fst v3):Int)))<|L3 f ((↑(length f):Int)) 0 0 (Co 0) 1 (Co 1) o1 e b):=by kernel_rfl
def L4(e:Z×Int)(f:Ag)(g:List ER)(i h j:Int)(d:List Int)(c:Int)(b:List Int)(o1:List (Z×Ag))(k a:Int):Tr:=re ((stepT Od<|L3 [] 0 0 0 [] 0 [] [] 0 0).L.L.R)<|Aw 66 [(6,.ptr 0 0),(7,PV.mp 1),(10,.ptr 2 0),(12,PV.Bc S1 e 0),(13,PV.Bc Av f 0),(40,.dat (yv S1) g),(41,.dat i64 i),(42,.dat i64 h)] [(2,.box [.dat i64 j,.dat wU d,.dat i64 c,.dat wU b]),(1,Obj.map z6 Av o1),(0,.box [.dat i64 k,.nil,.dat i64 a,.nil])] 3
theorem BA(f:List ER)(g a h:Int)(d:List Int)(c:Int)(b:List Int)(o1:List (Z×Ag))(i e:Int):stepT Od (L3 f g a h d c b o1 i e)=let b':=getD f (toNat a) ([],0);let j:=Ei z6 Av (fst b') o1;.di (a<g) (.ck (decide (0<=a)&&decide (a<(length f:Int)))<|.ite (!Option.isSome j) (L3 f g (zg .i64<|a+1) h d c b o1 i e)<|L4 b' ((Option.getD j ((0,[]),0,[]))) f g a h d c b o1 i e) (.leaf (yu [.dat i64 h,.dat wU d,.dat i64 c,.dat wU b]) []):=by kernel_rfl
theorem Ci(a:Z×Int)(f:Ag)(g:List ER)(j h k:Int)(e:List Int)(d:Int)(c:List Int)(o1:List (Z×Ag))(m b:Int):stepT Od (L4 a f g j h k e d c o1 m b)=let b':=((k,e),d,c);let l:=S7 (snd a,Co<|snd a) (10,Co 10);let i:=GF f l;.ck true (.ck true<|.ck (KZ (snd a,Co<|snd a) (10,Co 10))<|.ck (zq f&&zq l)<|.ck (zq b'&&zq i)<|L3 g j (zg .i64<|h+1) (Nw b' i) (ND b' i) (Nv b' i) (NY b' i) o1 m b):=by kernel_rfl
end T86
namespace T151
def T(p:List A1)(x:Ag):Tr:=tree RB false 9 151<|Ae ([yv B5,Av]) (p,x)
def L1(v0:List A1)(v3:Ag)(b a:Int):Tr:=re ((T [] ((0,[]),(0,[]))))<|Aw 72 [(0,.dat (yv B5) v0),(3,PV.Bc Av v3 0),(4,.ptr 0 0)] [(0,.box [.dat i64 b,.nil,.dat i64 a,.nil])] 1
theorem Aj(p:List A1)(x:Ag):T p x=L1 p x 0 0:=by kernel_rfl
def L2(v0:List A1)(v3:Ag)(d:List A1)(b c e a:Int):Tr:=re ((stepT RB<|L1 [] ((0,[]),(0,[])) 0 0))<|Aw 72 [(0,.dat (yv B5) v0),(3,PV.Bc Av v3 0),(4,.ptr 0 0),(11,.dat (yv B5) d),(12,.dat i64 b),(13,.dat i64 c)] [(0,.box [.dat i64 e,.nil,.dat i64 a,.nil])] 1
theorem Al(v0:List A1)(v3:Ag)(b a:Int):stepT RB (L1 v0 v3 b a)=L2 v0 v3 v0 ((length v0:Int)) 0 b a:=by kernel_rfl
def L3(v0:List A1)(v3:Ag)(v5:Int)(c b:Ag)(d a:Int):Tr:=re ((stepT RB<|L2 [] ((0,[]),(0,[])) [] 0 0 0 0).L.L.L.L.L.R.R.L.R)<|Aw 72 [(0,.dat (yv B5) v0),(3,PV.Bc Av v3 0),(4,.ptr 0 0),(5,.dat i64 v5),(7,PV.Bc Av c 0),(8,PV.Bc Av b 0)] [(0,.box [.dat i64 d,.nil,.dat i64 a,.nil])] 1
theorem AG(v0:List A1)(v3:Ag)(c:List A1)(e a h b:Int):stepT RB (L2 v0 v3 c e a h b)=let d:=getD c (toNat a) ([],[]);let g:=(length v0:Int);let b':=snd<|getD v0 (toNat<|zg .i64<|g-1) ([],[]);let j:Tr:=.leaf (yu [.dat i64<|RI<|snd d,.dat wU<|RC<|snd d,.dat i64<|Re<|snd d,.dat wU<|Rg<|snd d]) [];let f:=Cs<|fst d;let i:=qc v3&&qc f;.di (a<e) (.ck (decide (0<=a)&&decide (a<(length c:Int)))<|.ck (DR<|fst d)<|.ck (DR<|snd d)<|.ck i<|.di (Dm v3 f>0) (L2 v0 v3 c e (zg .i64<|a+1) h b)<|.ite (a==0) j<|.ck i<|.di (Dm v3 f=0) j<|L3 v0 v3 a f ((Cs<|snd d)) h b) (.ck (decide (0<=zg .i64 (g-1))&&decide (zg .i64 (g-1)<g))<|.ck (DR b')<|.leaf (yu [.dat i64<|RI b',.dat wU<|RC b',.dat i64<|Re b',.dat wU<|Rg b']) []):=by kernel_rfl
def L4(v3 d c v9 b:Ag)(e a:Int):Tr:=re ((stepT RB<|L3 [] ((0,[]),(0,[])) 0 ((0,[]),(0,[])) ((0,[]),(0,[])) 0 0).L.L.L.L)<|Aw 72 [(3,PV.Bc Av v3 0),(4,.ptr 0 0),(7,PV.Bc Av d 0),(8,PV.Bc Av c 0),(9,PV.Bc Av v9 0),(10,PV.Bc Av b 0)] [(0,.box [.dat i64 e,.nil,.dat i64 a,.nil])] 1
theorem BA(v0:List A1)(v3:Ag)(v5:Int)(d c:Ag)(e a:Int):stepT RB (L3 v0 v3 v5 d c e a)=let b:=getD v0 (toNat<|zg .i64<|v5-1) ([],[]);let b':=decide (0<=zg .i64 (v5-1))&&decide (zg .i64 (v5-1)<(length v0:Int));.ck b' (.ck b'<|.ck (DR<|fst b)<|.ck (DR<|snd b)<|L4 v3 d c ((Cs<|fst b)) ((Cs<|snd b)) e a):=by kernel_rfl
theorem Ci(v3 e d v9 a:Ag)(g c:Int):stepT RB (L4 v3 e d v9 a g c)=let b':=GF (Gu d a)<|Gu v3 v9;let f:=Gu e v9;let b:=K1 b' f;.ck (zq d&&zq a) (.ck (zq v3&&zq v9)<|.ck (zq (Gu d a)&&zq (Gu v3 v9))<|.ck (zq e&&zq v9)<|.ck (zq b'&&zq f&&decide (Sp.vI (fst f)≠0))<|.ck (zq a&&zq b)<|.leaf (yu [.dat i64<|Nw a b,.dat wU<|ND a b,.dat i64<|Nv a b,.dat wU<|NY a b]) []):=by kernel_rfl
end T151
namespace T87
def T(c:AL)(t h l:Int):Tr:=tree Abb false 9 87<|Ae ([Bn,zw zh,zw zh,zw zh]) (c,t,h,l)
def L1(v1 v2 v3:Int)(v4:AL)(b a:Int):Tr:=re ((T ([],([],[])) 0 0 0))<|Aw 26 [(1,.dat i64 v1),(2,.dat i64 v2),(3,.dat i64 v3),(4,PV.Bc Bn v4 0),(8,.ptr 0 0)] [(0,.box [.dat i64 b,.nil,.dat i64 a,.nil])] 1
theorem Aj(c:AL)(t h l:Int):T c t h l=L1 t h l c 0 0:=by kernel_rfl
theorem Al(v1 v2 v3:Int)(v4:AL)(d c:Int):stepT Abb (L1 v1 v2 v3 v4 d c)=let b':=fst<|snd<|snd<|snd<|getD (snd<|snd v4) (toNat v3) ([],[],[],[],[]);let a:=vW v4 v2 v3;let b:=Sp.vlF b'<|Zf v4 v1 v2 v3;.ck (decide (0<=v3)&&decide (v3<(↑(length<|snd<|snd v4):Int))) (.ck (Yw v4 v1 v2 v3)<|.ck (Sp.okY b'<|Zf v4 v1 v2 v3)<|.ck (qj v4 v2 v3)<|.ck (zq b&&zq a)<|.leaf (yu [.dat i64<|Nw b a,.dat wU<|ND b a,.dat i64<|Nv b a,.dat wU<|NY b a]) []):=by kernel_rfl
end T87
namespace T69
def T(c:AL)(n:Int):Tr:=tree FG false 9 69<|Ae ([Bn,zw zh]) (c,n)
theorem Aj(c:AL)(n:Int):T c n=.leaf (yu [.dat i64 n,.dat i64 (↑(length<|fst<|snd c):Int)]) []:=by kernel_rfl
end T69
namespace T70
def T(c:AL)(n:Int):Tr:=tree FG false 9 70<|Ae ([Bn,zw zh]) (c,n)
theorem Aj(c:AL)(n:Int):T c n=.leaf (yu [.dat i64 n,.dat i64 (↑(length<|fst c):Int)]) []:=by kernel_rfl
end T70
namespace T73
def T(c:AL)(n:Int):Tr:=tree FG false 9 73<|Ae ([Bn,zw zh]) (c,n)
theorem Aj(c:AL)(n:Int):T c n=.leaf (yu [.dat i64 n,.dat i64 (↑(length<|snd<|snd c):Int)]) []:=by kernel_rfl
end T73
namespace T72
def T(c:AL)(t h:Int):Tr:=tree TN false 9 72<|Ae ([Bn,zw zh,zw zh]) (c,t,h)
def L1(v1 v2:Int)(v3:AL)(b:BQ)(c a:Int):Tr:=re ((T ([],([],[])) 0 0).L)<|Aw 38 [(1,.dat i64 v1),(2,.dat i64 v2),(3,PV.Bc Bn v3 0),(6,.ptr 0 0),(7,PV.Bc BU b 0)] [(0,.box [.dat i64 c,.nil,.dat i64 a,.nil])] 1
theorem Aj(c:AL)(t h:Int):T c t h=.ck (decide (0<=h)&&decide (h<(↑(length<|fst c):Int))) (L1 t h c ((getD (fst c) (toNat h) ([],[],[],[],[]))) 0 0):=by kernel_rfl
def L2(v1 v2:Int)(v3:AL)(k:BQ)(m b:Int)(h:Nat)(g i n:Int)(f:List Int)(c:Int)(d:List Int)(l e:Int)(o1:List Z)(j:Int)(a:Int):Tr:=re ((stepT TN<|L1 v1 v2 v3 k m b).L.L.L.L)<|Aw 22 [(1,PV.fn (Go.Fn.func 55) [] []),(4,.ptr 2 0),(5,.ptr 3 0),(9,.sl 1 1 0 h none),(10,.dat i64 g),(11,.dat i64 i)] [(3,.box [.dat i64 n,.dat wU f,.dat i64 c,.dat wU d]),(2,.box [.dat i64 l,.nil,.dat i64 e,.nil]),(1,.arr false 27 z6 o1),(0,.box [.dat i64 j,.nil,.dat i64 a,.nil])] 4
theorem Al(v1 v2:Int)(v3:AL)(b:BQ)(c a:Int):stepT TN (L1 v1 v2 v3 b c a)=.ck (decide (0<=v1)&&decide (v1<(↑(length<|fst<|snd v3):Int))) (.ck (decide (0<=v2)&&decide (v2<(↑(length<|snd<|getD (fst<|snd v3) (toNat v1) ([],[])):Int)))<|.ck true<|.ck true<|L2 v1 v2 v3 b c a 3 3 0 0 (Co 0) 1 (Co 1) 0 0 ([fst b,fst<|snd b,fst<|snd<|snd b]) c a):=by kernel_rfl
theorem AG(v1 v2:Int)(v3:AL)(m:BQ)(o c:Int)(i:Nat)(h a r:Int)(f:List Int)(g:Int)(d:List Int)(p e:Int)(o1:List Z)(k:Int)(b:Int):stepT TN (L2 v1 v2 v3 m o c i h a r f g d p e o1 k b)=let b':=((r,f),g,d);let q:=snd<|getD (fst<|snd v3) (toNat v1) ([],[]);let n:=getD o1 (toNat a) [];let j:=((getD q (toNat v2) 0,Co<|getD q (toNat v2) 0),1,Co 1);let l:=Cs n;.di (a<h) (.ck (decide (0<=a)&&decide (a<(↑i:Int)))<|.cd (toNat a<length o1)<|.ck (DR n)<|.ck (zq b'&&zq l)<|L2 v1 v2 v3 m o c i h (zg .i64<|a+1) (Nw b' l) (ND b' l) (Nv b' l) (NY b' l) p e o1 k b) (.ck (zq j&&zq b')<|.ck (Sp.Dt<|fst<|Cd j b')<|.di (Pp (Cd j b')<0) (.ck true<|.leaf (yu [.dat i64 (0:Int),.dat wU<|Co 0,.dat i64 (1:Int),.dat wU<|Co 1]) [])<|.leaf (yu [.dat i64<|Nw j b',.dat wU<|ND j b',.dat i64<|Nv j b',.dat wU<|NY j b']) []):=by kernel_rfl
end T72
namespace T79
def T(c:AL)(t h l:Int):Tr:=tree jH false 9 79<|Ae ([Bn,zw zh,zw zh,zw zh]) (c,t,h,l)
def L1(c f b d e:Ag)(g a:Int):Tr:=re ((T ([],([],[])) 0 0 0).L.L.L.L.L.L.L)<|Aw 60 [(8,.ptr 0 0),(10,PV.Bc Av c 0),(11,PV.Bc Av f 0),(12,PV.Bc Av b 0),(13,PV.Bc Av d 0),(14,PV.Bc Av e 0)] [(0,.box [.dat i64 g,.nil,.dat i64 a,.nil])] 1
theorem Aj(c:AL)(t h l:Int):T c t h l=let a:=snd<|getD (snd<|snd c) (toNat l) ([],[],[],[],[]);let b':=fst<|snd<|snd<|snd<|getD (fst c) (toNat h) ([],[],[],[],[]);let b:=Cs<|fst a;.ck (decide (0<=l)&&decide (l<(↑(length<|snd<|snd c):Int))) (.ck (decide (0<=h)&&decide (h<(↑(length<|fst c):Int)))<|.ck (DR b')<|.ck (Sp.okP c t h)<|.ck (DR<|fst a)<|.ck (DR<|fst<|snd a)<|.ck (zq b&&zq (Cs b'))<|L1 ((Cs b')) ((UM c t h)) b ((Cs<|fst<|snd a)) ((Cd b<|Cs b')) 0 0):=by kernel_rfl
def L2(c f b d e:Ag)(g a:Int):Tr:=re ((stepT jH<|L1 ((0,[]),(0,[])) ((0,[]),(0,[])) ((0,[]),(0,[])) ((0,[]),(0,[])) ((0,[]),(0,[])) 0 0).L.R)<|Aw 60 [(8,.ptr 0 0),(10,PV.Bc Av c 0),(11,PV.Bc Av f 0),(12,PV.Bc Av b 0),(13,PV.Bc Av d 0),(14,PV.Bc Av e 0)] [(0,.box [.dat i64 g,.nil,.dat i64 a,.nil])] 1
theorem Al(f b c g a:Ag)(h d:Int):stepT jH (L1 f b c g a h d)=let e:=GF b c;.ck (qc b&&qc a) (.di (Dm b a<=0) (.ck (zq b&&zq c)<|.ck (zq e&&zq a&&decide (Sp.vI (fst a)≠0))<|.leaf (yu [.dat i64<|zA e a,.dat wU<|Aau e a,.dat i64<|zX e a,.dat wU<|Aai e a]) [])<|L2 f b c g a h d):=by kernel_rfl
theorem AG(c d a b e:Ag)(i g:Int):stepT jH (L2 c d a b e i g)=let b':=Gu d e;let h:=Cd b c;let f:=K1 (GF b' b) h;.ck (zq d&&zq e) (.ck (zq b'&&zq b)<|.ck (zq b&&zq c)<|.ck (zq (GF b' b)&&zq h&&decide (Sp.vI (fst h)≠0))<|.ck (zq a&&zq f)<|.leaf (yu [.dat i64<|Nw a f,.dat wU<|ND a f,.dat i64<|Nv a f,.dat wU<|NY a f]) []):=by kernel_rfl
end T79
namespace T50
def T(l:List Int):Tr:=tree WT false 9 50<|Ae ([yv i64]) l
def L1(v5:List Int)(a b:Int):Tr:=re ((T []))<|Aw 15 [(5,.dat (yv i64) v5),(6,.dat i64 a),(7,.dat i64 b)] [] 0
theorem Aj(l:List Int):T l=L1 l ((length l:Int)) 0:=by kernel_rfl
theorem Al(v5:List Int)(b a:Int):stepT WT (L1 v5 b a)=.di (a<b) (.ck (decide (0<=a)&&decide (a<(length v5:Int)))<|.ite (getD v5 (toNat a) 0 !=0) (.leaf (.dat i64<|getD v5 (toNat a) 0) [])<|L1 v5 b<|zg .i64<|a+1) (.leaf (.dat i64 (0:Int)) []):=by kernel_rfl
end T50
namespace T51
def T(c:Bool)(e:Int):Tr:=tree WT false 9 51<|Ae ([yp,zw zh]) (c,e)
theorem Aj(c:Bool)(e:Int):T c e=.ite c (.leaf (.dat i64 e) []) (.leaf (.dat i64 (0:Int)) []):=by kernel_rfl
end T51
namespace T63
def T(n m:Int):Tr:=tree Adk false 9 63<|Ae ([zw zh,zw zh]) (n,m)
theorem Aj(n m:Int):T n m=.ck true (.ck true<|.ck (decide (2<=2)&&true&&decide (2<=1000000))<|.leaf (.dat i64<|y7 [Cq (n==0) 12,Cq (decide (n>m)) 5]) []):=by kernel_rfl
end T63
namespace T71
def T(a:Ag):Tr:=tree AcY false 9 71<|Ae ([Av]) a
theorem Aj(a:Ag):T a=let b:=((fst a),fst<|snd a,snd<|snd a);.ck (qc b) (.ite (I1 b) (.leaf (.tup [.dat z6 [],.dat i64 (4:Int)]) [])<|.ck (qc b)<|.leaf (.tup [.dat z6<|Ku b,.dat i64 (0:Int)]) []):=by kernel_rfl
end T71
namespace T22
def T(a:Z)(e b:Int)(w:Z):Tr:=tree Zk false 9 22<|Ae ([z6,zw zh,zw zh,z6]) (a,e,b,w)
theorem Aj(a:Z)(e b:Int)(w:Z):T a e b w=let b':Tr:=.leaf (.bl false) [];let c:Tr:=.ite (e==0) (.leaf (.dat yp<|a==w) []) b';.ite (b==0) (.cd (length w<=1000000)<|.ite (FM w !=0) (.ite (a==[]) (.leaf (.dat yp<|e==FM w) []) b') c) (.ite (b !=0) (.ite (a==[]) (.leaf (.dat yp<|e==b) []) b') c):=by kernel_rfl
end T22
namespace T35
def T(n:Int):Tr:=tree yN false 9 35<|Ae ([zw zh]) n
theorem Aj(n:Int):T n=.ck (Cn n) (.ck (CA (yf n,yb n))<|.leaf (.dat z6<|FQ (yf n,yb n)) []):=by kernel_rfl
end T35
end
namespace T50
theorem loop{Q:PV->Ob->Prop}(l:List Int)(k:l.length<=1000000)(a:∀ob,Q (.dat i64<|y7 l) ob):∀(r:List Int) (i:Nat),l.drop i=r->i<=l.length->y7 l=y7 r->Ends WT (L1 l ((l.length:Int)) (i:Int)) Q
 |[],i,h,c,e=>by
  have n:=drop_nil h c;refine zm (Al ..) (zx (w8 ae)<|ze ?_);rw[e]at a;exact a _
 |x::r,i,h,c,e=>by
  obtain⟨g,f,m⟩:=drop_cons (d:=0) h;refine zm (Al ..) ?_;conv=>zeta
  have j:=wn (i:=i) ae;rw[j,zl,f];refine zc (w4 ae) (zc (ad ae ae) ?_);by_cases b:x=0
  ·subst b;refine zx rfl (loop l k a r (i+1) m g ?_);rw[e];rfl
  ·have ex:y7 (x::r)=x:=by unfold y7;rw[wd b]
   refine zc (by simpa using b)<|ze ?_;rw[e,ex]at a;exact a _
theorem ok:Af A8 50 Hb:=by
 refine BR TT<|fun(l:List Int) hl=>?_;exact zo (Aj l)<|loop l (w6 hl) (fun ob=>zu rfl rfl rfl) l 0 rfl (Nat.zero_le _) rfl
end T50
theorem T51.ok:Af A8 51 G1:=by
 refine BR TT<|fun⟨c,e⟩ _=>?_;refine zo (T51.Aj c e)<|zf (fun h=>ze<|zu rfl rfl ?_)<|fun h=>ze<|zu rfl rfl ?_
 ·show e=Cq c e;rw[h];rfl
 ·show(0:Int)=Cq c e;rw[h];rfl
theorem nK:CX Adk:=Aa T50.ok<|Aa T51.ok AE
theorem count_eq(n m:Int):y7 [Cq (n==0) 12,Cq (decide (n>m)) 5]=C0 n m:=by
 rw[JS,E1,E1];unfold C0;by_cases h:n=0
 ·subst h;rfl
 ·have e:(n==0)=false:=by simpa using h
  rw[e,wc (show ¬(if false=true then(12:Int)else 0)≠0 by decide),wc h];by_cases k:m<n
  ·rw[wd k,w4<|show n>m from k];rfl
  ·rw[wc k,w8<|show ¬n>m from k];rfl
theorem T63.ok:Af A8 63 pT:=by
 refine BR nK<|fun(i:Int×Int) _=>?_;obtain⟨n,m⟩:=i;refine zo (T63.Aj n m) ?_;conv=>zeta
 rw[count_eq];exact zc rfl (zc rfl (zc rfl (ze<|zu rfl rfl rfl)))
end Go.Pe
namespace Go.Sp
theorem Po(n:Int):FQ (rN n,rW n)=AP ((n:Int):Rat):=by rw[Mf,aU]
theorem XU{n:Int}{k:Nat}(h:n.natAbs<10^k)(a:1<=k):Nu k (AP (n:Rat)) (n:Rat):=by
 have b:10^1<=10^k:=yd af a;refine⟨rfl,?_,?_⟩
 ·rw[Rat.num_intCast];exact h
 ·rw[Rat.den_intCast];omega
theorem Nu.nz{k:Nat}{s:Z}{q:Rat}(h:Nu k s q)(a:k<=1400)(h0:q≠0):aE s=true:=fK (h.Df a) fun e=>h0 ((h.Jf ae).1 e)
theorem OF:Nu 1 [48] 0:=by
 refine⟨by decide+kernel,?_⟩;unfold HJ;decide+kernel
end Go.Sp
namespace Go.Pe
open Sp
open Go.Det
theorem oS:CX AcY:=Aa T134.ok<|Aa T135.ok AE
theorem T71.ok:Af A8 71 YP:=by
 refine BR oS<|fun(a:(Int×List Int)×(Int×List Int)) ha=>?_;refine zo (T71.Aj a)<|zc ha<|zf (fun c=>ze<|zu rfl rfl ?_)<|fun c=>zc ha<|ze<|zu rfl rfl ?_
 ·have c:I1 a=true:=c;show([],(4:Int))=(Pn a,PL a);unfold Pn PL;rw[wd c,wd c]
 ·have c:I1 a=false:=c;show(Ku a,(0:Int))=(Pn a,PL a);unfold Pn PL;rw[wc (by rw[c];decide),wc<|by rw[c];decide]
theorem dM:CX Zk:=Aa T80.ok AE
theorem T22.ok:Af A8 22 RU:=by
 refine BR dM<|fun(i:Z×Int×Int×Z) hi=>?_;obtain⟨a,e,bad,w⟩:=i;have f:∀v ob,v=EV a e w bad->Ad RU (a,e,bad,w) (.dat .bool v) ob:=fun v ob h=>zu rfl rfl h
 have b:∀v ob,v=EV a e w bad->Ad RU (a,e,bad,w) (.bl v) ob:=fun v ob h=>zu rfl rfl h
 have key:∀x:Int,x=(if bad=0 then FM w else bad)->EV a e w bad=if x≠0 then decide (a=[])&&decide (e=x)else decide (e=0)&&decide (a=w):=by
  rintro x rfl;rfl
 have yes:∀(x:Int) ob,x=(if bad=0 then FM w else bad)->x≠0->Ends Zk (.ite (a==[]) (.leaf (PV.dat yp<|e==x) ob)<|.leaf (PV.bl false) ob) (Ad RU (a,e,bad,w)):=fun x ob h h0=>by
  have k:=key x h;rw[wd h0]at k;refine zf (fun c=>ze<|f _ _ ?_)<|fun c=>ze<|b _ _ ?_
  ·have c:a=[]:=by simpa using c
   rw[k,w4 c,yg];rfl
  ·have c:a≠[]:=by simpa using c
   rw[k,w8 c];rfl
 have no:∀(x:Int) ob,x=(if bad=0 then FM w else bad)->x=0->Ends Zk (.ite (e==0) (.leaf (PV.dat yp<|a==w) ob)<|.leaf (PV.bl false) ob) (Ad RU (a,e,bad,w)):=fun x ob h h0=>by
  have k:=key x h;rw[wc<|by rw[h0];decide]at k;refine zf (fun c=>ze<|f _ _ ?_)<|fun c=>ze<|b _ _ ?_
  ·have c:e=0:=by simpa using c
   rw[k,w4 c,yg];by_cases h:a=w
   ·rw[w4 h];simpa using h
   ·rw[w8 h];simpa using h
  ·have c:e≠0:=by simpa using c
   rw[k,w8 c];rfl
 refine zo (T22.Aj a e bad w)<|zf (fun c=>zc hi<|zf (fun d=>?_)<|fun d=>?_)<|fun c=>zf (fun d=>?_)<|fun d=>?_
 ·have c:bad=0:=by simpa using c
  exact yes _ _ (by rw[wd c]) (by simpa using d)
 ·have c:bad=0:=by simpa using c
  exact no _ _ (by rw[wd c]) (by simpa using d)
 ·have c:bad≠0:=by simpa using c
  exact yes _ _ (by rw[wc c]) c
 ·have c:bad≠0:=by simpa using c
  exact wh (by simpa using d) c
theorem dP:CX yN:=Aa T97.ok<|Aa T96.ok AE
theorem T35.ok:Af A8 35 iT:=by
 refine BR dP<|fun(n:Int) b=>?_;have b:n.natAbs<9223372036854775808:=w6 b;have a:Cn n=true:=ad ae ae;refine zo (T35.Aj n)<|zc a<|zc (LJ a)<|ze<|zu rfl rfl ?_;exact Po n
end Go.Pe
