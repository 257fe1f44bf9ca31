import Derived.Test.YtjbmodoofdpgcaaGreatDoorX14
import Derived.Test.YtjbmodoofdpgcaaGreatDoorRows
import Derived.LaidByTextLater
import Derived.SevenTiedAt
import Derived.LaidSub
import Derived.LaidOnce
/- A part of a proof; no law is stated here. -/
noncomputable section
open Go.IntKind renaming wrap -> zc, i64 -> zj
open Go.Pe.Ends renaming tt -> zd, leaf -> ze, ff -> zf, Ap -> zh, ite -> zk, eq -> zn
open Bool renaming and_eq_true -> zg, true_and -> zu
open Int renaming toNat_natCast -> zi, mul_le_mul_of_nonneg_right -> zm
open List renaming mem_cons_self -> zl, mem_of_mem_drop -> zo
open Go.OpenClaim renaming laidByTextAt_pinned -> zp
open Classical renaming byContradiction -> zq
open Nat renaming zero_le -> zr
open Go.Pe.Ac renaming of -> zt
open Go.Pe.Sh renaming int -> zw
open Go.Sp renaming first -> zx
namespace Go.Pe
open Sp
open Go.Det
section
open List Int Prod
namespace T9
def T(a:Rd)(lo h:Int):Tr:=tree AbD false 9 9<|Ae ([Sh.str,zw zj,zw zj]) (a,lo,h)
theorem Aj(a:Rd)(lo h:Int):T a lo h=let b:Tr:=.leaf (.dat i64<|AH a) [];let b':Tr:=.leaf (.dat i64 (3:Int)) [];.cd (length a<=1000000) (.ite (AH a==0) (.ck (VU lo)<|.ck (A4 a&&E1 (Wb lo))<|.di (Sy a (Wb lo)<0) b'<|.ck (VU h)<|.ck (A4 a&&E1 (Wb h))<|.di (Sy a (Wb h)>0) b' b) b):=by kernel_rfl
end T9
namespace T69
def T(s:Rd):Tr:=tree fC false 9 69<|Ae ([Sh.str]) s
def L1(v5 c:Int)(b:Bool)(a:List Int):Tr:=re ((T []).L.R.R.L)<|AE 62 [(4,.ptr 0 0),(5,.dat i64 v5),(6,.dat i64 c)] [(0,.box [.dat Sh.bool b,.dat (Sh.list i64) a])] 1
theorem Aj(s:Rd):T s=let a:Tr:=.leaf (.tup [.dat i64 (0:Int),.bl false]) [];.cd (length s<=1000000) (.ite (!Hg s) a<|.di ((length s:Int)>20) a<|.ck (C1 s)<|L1 0 (zc .i64<|(↑(length<|DL s):Int)-1) (E6 s)<|DL s):=by kernel_rfl
theorem Am(v5 b:Int)(d:Bool)(a:List Int):stepT fC (L1 v5 b d a)=let c:Tr:=.leaf (.tup [.dat i64 (0:Int),.bl false]) [];let e:=0-getD a (toNat b) 0;let i:=decide (v5<(-9223372036));let h':=zc .i64<|b-1;let k:=decide (v5>9223372036);let g:=L1 (zc .i64<|zc .i64 (v5*1000000000)+zc .i64 e) h' d a;let j:=L1 (zc .i64<|zc .i64 (v5*1000000000)+getD a (toNat b) 0) h' d a;let f:Tr:=.ite (v5==(-9223372036)) (.di (zc .i64 e<(-854775808)) c g) g;let b':Tr:=.ite (v5==(-9223372036)) (.di (getD a (toNat b) 0<(-854775808)) c j) j;.di (b>=0) (.ck (decide (0<=b)&&decide (b<(length a:Int)))<|.ite d (.ite k c<|.ite i c<|.ite (v5==9223372036) (.di (zc .i64 e>854775807) c f) f)<|.ite k c<|.ite i c<|.ite (v5==9223372036) (.di (getD a (toNat b) 0>854775807) c b') b') (.leaf (.tup [.dat i64 v5,.bl true]) []):=by kernel_rfl
end T69
namespace T68
def T(a u:Rd):Tr:=tree AaR false 9 68<|Ae ([Sh.str,Sh.str]) (a,u)
theorem Aj(a u:Rd):T a u=let b':=([49,47,50]:Rd);let b:=Ci (H3 a u) b';.ck (A4 a&&Zj u) (.ck (A4 (H3 a u)&&A4 b')<|.ck (A4 b)<|.ck (A4 (E7 b)&&A4 u)<|.leaf (.dat Sh.str<|It (E7 b) u) []):=by kernel_rfl
end T68
namespace T50
def T(n:Int):Tr:=tree AaH false 9 50<|Ae ([zw zj]) n
theorem Aj(n:Int):T n=.ck (Cx n) (.ck (Cj (Sp.rN n,Sp.rW n))<|.leaf (.dat Sh.str<|F6 (Sp.rN n,Sp.rW n)) []):=by kernel_rfl
end T50
namespace T53
def T(s:Rd):Tr:=tree Aai false 9 53<|Ae ([Sh.str]) s
theorem Aj(s:Rd):T s=.ck (VS s [(49:UInt8)]) (.ck (Tc<|Tn s [(49:UInt8)])<|.leaf (.dat i64<|Bg<|Tn s [(49:UInt8)]) []):=by kernel_rfl
end T53
namespace T20
def T(c:Bool)(e:Int):Tr:=tree Ec false 9 20<|Ae ([Sh.bool,zw zj]) (c,e)
theorem Aj(c:Bool)(e:Int):T c e=.ite c (.leaf (.dat i64 e) []) (.leaf (.dat i64 (0:Int)) []):=by kernel_rfl
end T20
namespace T8
def T(l:List Int):Tr:=tree Ec false 9 8<|Ae ([Sh.list i64]) l
def L1(v0:List Int)(v3:Int):Tr:=re ((T []))<|AE 19 [(0,.dat (Sh.list i64) v0),(3,.dat i64 v3)] [] 0
theorem Aj(l:List Int):T l=L1 l 0:=by kernel_rfl
theorem Am(v0:List Int)(v3:Int):stepT Ec (L1 v0 v3)=let a:=decide (v3<(length v0:Int));.ite a (.ck (decide (0<=v3)&&a)<|.ite (getD v0 (toNat v3) 0 !=0) (.ck (decide (0<=v3)&&a)<|.leaf (.dat i64<|getD v0 (toNat v3) 0) [])<|L1 v0<|zc .i64<|v3+1) (.leaf (.dat i64 (0:Int)) []):=by kernel_rfl
end T8
namespace T11
def T(n e b w:Int):Tr:=tree Ec false 9 11<|Ae ([zw zj,zw zj,zw zj,zw zj]) (n,e,b,w)
theorem Aj(n e b w:Int):T n e b w=.ite (b !=0) (.ite (n==0) (.leaf (.dat Sh.bool<|e==b) [])<|.leaf (.bl false) []) (.ite (e==0) (.leaf (.dat Sh.bool<|n==w) [])<|.leaf (.bl false) []):=by kernel_rfl
end T11
end
open Go.Sp (Cp)
namespace T8
theorem loop{Q:PV->Ob->Prop}(l:List Int)(g:l.length<=1000000)(a:∀ob,Q (.dat i64<|zx l) ob):∀(r:List Int) (i:Nat),l.drop i=r->i<=l.length->zx l=zx r->Ends Ec (L1 l (i:Int)) Q
 |[],i,h,c,e=>by
  have m:=drop_nil h c;refine zh (Am ..) (zf (w8 ae)<|ze ?_);rw[e]at a;exact a _
 |x::r,i,h,c,e=>by
  obtain⟨k,f,j⟩:=drop_cons (d:=0) h;refine zh (Am ..) ?_;conv=>zeta
  have e1:=wn (i:=i) ae;rw[e1,zi,f];refine zd (w4 ae) (zd (ad ae ae) ?_);by_cases b:x=0
  ·subst b;refine zf rfl (loop l g a r (i+1) j k ?_);rw[e];rfl
  ·have ex:zx (x::r)=x:=by unfold zx;rw[wd b]
   refine zd (by simpa using b) (zd (ad ae ae)<|ze ?_);rw[e,ex]at a;exact a _
theorem ok:Af Bb 8 GB:=by
 refine BL Dy<|fun(l:List Int) hl=>?_;exact zn (Aj l)<|loop l (w6 hl) (fun ob=>zt rfl rfl rfl) l 0 rfl (zr _) rfl
end T8
theorem T20.ok:Af Bb 20 JK:=by
 refine BL Dy<|fun⟨c,e⟩ _=>?_;refine zn (T20.Aj c e)<|zk (fun h=>ze<|zt rfl rfl ?_)<|fun h=>ze<|zt rfl rfl ?_
 ·show e=BO c e;rw[h];rfl
 ·show(0:Int)=BO c e;rw[h];rfl
theorem fO:Dn AaR:=Aa T122.ok<|Aa T26.ok<|Aa T121.ok<|Aa T51.ok AO
theorem T68.ok:Af Bb 68 R4:=by
 refine BL fO<|fun(i:Rd×Rd) b=>?_;obtain⟨a,u⟩:=i;have b:(A4 a&&Zj u&&A4 (H3 a u)&&A4 (Ci (H3 a u) [49,47,50])&&A4 (E7<|Ci (H3 a u) [49,47,50]))=true:=b;simp only[zg]at b;obtain⟨⟨⟨⟨h1,h2⟩,h3⟩,h4⟩,h5⟩:=b;exact zn (T68.Aj a u) (zd (Ad h1 h2)<|zd (Ad h3<|Hy.num af)<|zd h4<|zd (Ad h5 (He (Ws h2).1).1)<|ze<|zt rfl rfl rfl)
theorem lJ:Dn AaH:=Aa T109.ok<|Aa T108.ok AO
theorem T50.ok:Af Bb 50 bX:=by
 refine BL lJ<|fun(n:Int) a=>?_;have a:n.natAbs<9223372036854775808:=w6 a;have b:Cx n=true:=ad ae ae;refine zn (T50.Aj n)<|zd b<|zd (Ym b)<|ze<|zt rfl rfl ?_;exact cP n
theorem iS:Dn fC:=Aa T123.ok<|Aa T124.ok AO
namespace T69
theorem ok:Af Bb 69 pV:=by
 refine BL iS<|fun(s:Rd) a=>?_;have a:Tc s=true:=a;unfold Tc at a;rw[zg,zg,zg,w5,w5]at a;obtain⟨⟨⟨w,l⟩,f⟩,r1⟩:=a;have b:∀(v:Int) ob,v=Bg s->Ac pV s (.tup [.dat i64 v,.bl true]) ob:=fun v ob e=>zt rfl rfl (by rw[e];rfl)
 refine zn (Aj s) (zd (w4 ae)<|zf (by rw[w];rfl) (zf (w8 ae)<|zd f ?_));have ad:=Ai<|Bg s;by_cases h:Bg s=0
 ·have c:DL s=[]:=by
   unfold DL Sp.rW;rw[h,show Ag 0=0 by rw[Ai];rfl];rfl
  rw[c];exact zh (Am ..)<|zf rfl (ze<|b _ _ h.symm)
 ·have c:DL s=[Ag<|Bg s]:=by
   unfold DL Sp.rW;rw[YZ ae ae]
  have z:zc .i64 ((0:Int)*1000000000)=0:=rfl;rw[c];by_cases n:Bg s<0
  ·have d:E6 s=true:=w4 n;rw[d];have e1:zc .i64 (zc .i64 ((0:Int)*1000000000)+zc .i64 (0-Ag (Bg s)))=Bg s:=by
    rw[z,wr (0-Ag (Bg s)) ae ae,wr _ ae ae];omega
   refine zh (Am ..)<|zd rfl (zd rfl (zd rfl (zf rfl (zf rfl (zf rfl (zf rfl ?_))))));show Ends fC (L1 (zc .i64<|zc .i64 ((0:Int)*1000000000)+zc .i64 (0-Ag (Bg s))) (zc .i64<|(0:Int)-1) true [Ag<|Bg s]) _;rw[e1];exact zh (Am ..)<|zf rfl (ze<|b _ _ rfl)
  ·have d:E6 s=false:=w8 n;rw[d];have e1:zc .i64 (zc .i64 ((0:Int)*1000000000)+Ag (Bg s))=Bg s:=by
    rw[z,wr _ ae ae];omega
   refine zh (Am ..)<|zd rfl (zd rfl (zf rfl (zf rfl (zf rfl (zf rfl (zf rfl ?_))))));show Ends fC (L1 (zc .i64<|zc .i64 ((0:Int)*1000000000)+Ag (Bg s)) (zc .i64<|(0:Int)-1) false [Ag<|Bg s]) _;rw[e1];exact zh (Am ..)<|zf rfl (ze<|b _ _ rfl)
end T69
theorem Ig:Sp.Nu 1 [49] 1:=by
 refine⟨by decide+kernel,?_⟩;unfold Fo;decide+kernel
theorem uN{n:Int}(h:n.natAbs<1000000000):Tc (AT (n:Rat))=true/\Bg (AT (n:Rat))=n:=by
 have e:AT (n:Rat)=Lib.itoa n:=by
  unfold AT;rw[Rat.den_intCast,Rat.num_intCast,wd rfl]
 have r:=(C9 n).2.2.2;have z:Fo 9 (n:Rat):=(NZ (n:=n) (k:=9) ae af).z;have l:=KW z af;have c:Hg (AT (n:Rat))=true:=by
  unfold Hg;rw[(D1 _).2.2,Rat.den_intCast];rfl
 have b:C1 (Lib.itoa n)=true:=by
  rw[e]at l;unfold C1;rw[w4 ae,zu];unfold Lib.itoa;by_cases n0:n<0
  ·rw[wd n0];exact CQ _
  ·rw[wc n0,wc<|Ew<|CQ _];exact CQ _
 rw[<-e]at r b;refine⟨?_,r⟩;unfold Tc;rw[r];exact Ad (Ad (Ad c<|w4 l) b)<|w4 h
theorem Ab1{s:Cp}{q:Rat}(h:Sp.Nu 1300 s q)(c:(Bp q).natAbs<1000000000):VS s [49]=true/\Tc (Tn s [49])=true/\Bg (Tn s [49])=Bp (AJ s):=by
 have a:=h.H3 Ig (by decide+kernel);have ad:=a.Ci Hy;have fl:=ad.E7;have b:=fl.It Ig;have e:((q/1+1/2).floor:Rat)*1=(Bp q:Rat):=by
  unfold Bp;rw[Rat.mul_one,show q/1=q by grind]
 have t:Tn s [49]=AT (Bp q:Rat):=by
  show It (E7<|Ci (H3 s [49]) [49,47,50]) [49]=_;rw[b.t,e]
 obtain⟨d,z2⟩:=uN c;refine⟨?_,by rw[t];exact d,by rw[t,h.rat];exact z2⟩;unfold VS;rw[h.num af,a.num af,ad.num af,fl.num af,Ig.nz af<|by decide+kernel];rfl
theorem kK:Dn Aai:=Aa T68.ok<|Aa T69.ok AO
theorem T53.ok:Af Bb 53 Abo:=by
 refine BL kK<|fun(s:Cp) hi=>?_;obtain⟨q,h,d⟩:=qM hi;obtain⟨a,b,c⟩:=Ab1 h d;exact zn (T53.Aj s)<|zd a<|zd b<|ze<|zt rfl rfl c
theorem oQ{n d:Int}{i j:Nat}(c:n.natAbs<10^i)(e:1<=i)(a:d.natAbs<10^j)(b:1<=j)(h0:d≠0):Sp.Nu (i+j) (Cv n d) ((n:Rat)/(d:Rat)):=by
 have f:(d:Rat)≠0:=fun x=>h0<|Rat.intCast_eq_zero_iff.1 x
 have z:=(NZ c e).z.div (NZ a b).z f;refine⟨?_,z⟩;unfold Cv;rw[Rat.divInt_eq_div]
theorem bE:Dn AbD:=Aa T48.ok<|Aa T49.ok<|Aa T50.ok AO
theorem T9.ok:Af Bb 9 aB:=by
 refine BL bE<|fun(i:Cp×Int×Int) f=>?_;obtain⟨a,lo,h⟩:=i;have f:(decide (a.length<=1000000)&&U3 lo&&U3 h)=true:=f;rw[zg,zg,w5]at f;obtain⟨⟨hl,g⟩,j⟩:=f;have g:=SI g;have j:=SI j;have b:∀e ob,e=GU a lo h->Ac aB (a,lo,h) (.dat i64 e) ob:=fun e ob x=>zt rfl rfl x
 have L:Sp.Nu 6 (Wb lo) (lo:Rat):=NZ g af;have H:Sp.Nu 6 (Wb h) (h:Rat):=NZ j af;refine zn (T9.Aj a lo h)<|zd (w4 hl)<|zk (fun c=>?_)<|fun c=>ze<|b _ _ ?_
 ·have c:AH a=0:=by simpa using c
  have A:=TN c;have k:=A.cmp L;have m:=A.cmp H;refine zd (w4 ae) (zd (Ad (A.num af)<|L.E1 af) (zk (fun d=>ze<|b _ _ ?_)<|fun d=>zd (w4 ae)<|zd (Ad (A.num af)<|H.E1 af)<|zk (fun e=>ze<|b _ _ ?_)<|fun e=>ze<|b _ _ ?_))
  ·have d:=w6 d;rw[k]at d;have x:AJ a<(lo:Rat):=by
    refine zq fun x=>?_
    rw[wc x]at d;by_cases y:(lo:Rat)<AJ a
    ·rw[wd y]at d;omega
    ·rw[wc y]at d;omega
   rw[Ge c,wd<|.inl x]
  ·have e:=w6 e;rw[m]at e;have y:(h:Rat)<AJ a:=by
    refine zq fun y=>?_
    by_cases x:AJ a<(h:Rat)
    ·rw[wd x]at e;omega
    ·rw[wc x,wc y]at e;omega
   rw[Ge c,wd<|.inr y]
  ·have d:=w7 d;have e:=w7 e;rw[k]at d;rw[m]at e;rw[Ge c,wc,c];rintro(x|x)
   ·rw[wd x]at d;omega
   ·have y:¬AJ a<(h:Rat):=Rat.not_lt.2<|Rat.le_of_lt x;rw[wc y,wd x]at e;omega
 ·have c:AH a≠0:=by simpa using c
  exact(NY c).symm
theorem T11.ok:Af Bb 11 YB:=by
 refine BL Dy<|fun(i:Int×Int×Int×Int) _=>?_;obtain⟨n,e,b,w⟩:=i;have a:∀v ob,v=Ht n e b w->Ac YB (n,e,b,w) (.dat .bool v) ob:=fun v ob h=>zt rfl rfl h
 have f:∀v ob,v=Ht n e b w->Ac YB (n,e,b,w) (.bl v) ob:=fun v ob h=>zt rfl rfl h
 refine zn (T11.Aj n e b w)<|zk (fun c=>zk (fun d=>ze<|a _ _ ?_)<|fun d=>ze<|f _ _ ?_)<|fun c=>zk (fun d=>ze<|a _ _ ?_)<|fun d=>ze<|f _ _ ?_
 ·have c:b≠0:=by simpa using c
  have d:n=0:=by simpa using d
  unfold Ht;rw[wd c,w4 d,zu];rfl
 ·have c:b≠0:=by simpa using c
  have d:¬n=0:=by simpa using d
  unfold Ht;rw[wd c,w8 d,Bool.false_and]
 ·have c:b=0:=by simpa using c
  have d:e=0:=by simpa using d
  unfold Ht;rw[wc ae,w4 d,zu];rfl
 ·have c:b=0:=by simpa using c
  have d:¬e=0:=by simpa using d
  unfold Ht;rw[wc ae,w8 d,Bool.false_and]
namespace T17
variable {Q:PV->Ob->Prop}{l:List Int}{lo h:Int}
theorem loop(f:l≠[])(b:l.length<=200)(a:∀e ob,e=DD l lo h->Q (.dat i64 e) ob):∀(r:List Int) (i:Nat),l.drop i=r->i<=l.length->l.any (Et lo h)=r.any (Et lo h)->Ends Ec (L1 l lo h (i:Int)) Q
 |[],i,g,j,e=>by
  have q:=drop_nil g j;refine zh (Am ..) (zf (w8 ae)<|ze<|a _ _ ?_);rw[HA _ _ f b,e];rfl
 |x::r,i,g,j,e=>by
  obtain⟨n,k,m⟩:=drop_cons (d:=(0:Int)) g;have e1:=wn (i:=i) ae;refine zh (Am ..) ?_;conv=>zeta
  rw[e1,zi,k];refine zd (w4 ae) (zd (ad ae ae) ?_);have bad:Et lo h x=true->(3:Int)=DD l lo h:=fun c=>by rw[HA _ _ f b,e,List.any_cons,c];rfl
  refine zk (fun c=>ze<|a _ _<|bad ?_)<|fun c=>zk (fun d=>ze<|a _ _<|bad ?_)<|fun d=>?_
  ·unfold Et;rw[c];rfl
  ·unfold Et;rw[c];exact d
  ·have o:Et lo h x=false:=by
    unfold Et;rw[c];exact d
   exact loop f b a r (i+1) m n (by rw[e,List.any_cons,o,Bool.false_or])
theorem ok:Af Bb 17 sI:=by
 refine BL Dy<|fun(i:List Int×Int×Int) _=>?_;obtain⟨l,lo,h⟩:=i;have a:∀e ob,e=DD l lo h->Ac sI (l,lo,h) (.dat i64 e) ob:=fun e ob x=>zt rfl rfl x
 refine zn (Aj l lo h)<|zk (fun c=>ze<|a _ _ ?_)<|fun c=>zk (fun d=>ze<|a _ _ ?_)<|fun d=>?_
 ·have c:(l.length:Int)=0:=by simpa using c
  have c:l=[]:=List.length_eq_zero_iff.1 ae;unfold DD;rw[wd c]
 ·have c:¬(l.length:Int)=0:=by simpa using c
  have c:l≠[]:=fun x=>c (by rw[x];rfl)
  have d:=w6 d;unfold DD;rw[wc c,wd ae]
 ·have c:¬(l.length:Int)=0:=by simpa using c
  have c:l≠[]:=fun x=>c (by rw[x];rfl)
  have d:=w7 d;exact loop c ae a l 0 rfl (zr _) rfl
end T17
namespace T19
variable {Q:PV->Ob->Prop}{l:List Int}
theorem out(k:DD l (-99) 99=0)(a:Q (.sl 0 1 0 (DK l).length none) [(0,Obj.arr false 3 i64<|DK l)]):∀(r:List Int) (i:Nat) (o:List Int),l.drop i=r->i<=l.length->o.length=i->o++r.map (· - CT l)=DK l->Ends Ec (L3 l (CT l) o.length (i:Int) o) Q
 |[],i,o,h,b,lo,e=>by
  have m:=drop_nil h b;refine zh (BH ..) (zf (w8 ae)<|ze ?_);rw[<-e,List.map_nil,List.append_nil]at a;exact a
 |x::r,i,o,h,b,lo,e=>by
  obtain⟨j,f,g⟩:=drop_cons (d:=(0:Int)) h;obtain⟨k1,k2,k3⟩:=Ee k;have q:=k3 _<|G1 k1;have n: -99<=x/\x<=99:=k3 x (zo (i:=i)<|by rw[h];exact zl ..);have e1:=wn (i:=i) ae;have e2:zc .i64 (x-CT l)=x-CT l:=wr _ ae ae;have cap:(decide ((1:Nat)<=(1:Nat))&&true&&decide (o.length=o.length)&&decide ((3*(o.length+1)+2000)*8<=562949953421312))=true:=by
   rw[w4 (show(1:Nat)<=1 by omega),w4 rfl,w4 ae];rfl
  refine zh (BH ..) ?_;conv=>zeta
  rw[e1,zi,f,e2];refine zd (w4 ae) (zd (ad ae ae)<|zd cap ?_);have nx:=out k a r (i+1) (o++[x-CT l]) g j (by simp[lo]) (by rw[<-e];simp);have c:(o++[x-CT l]).length=Nat.add o.length 1:=by simp
  rw[c]at nx;exact nx
theorem rel(k:DD l (-99) 99=0)(c:Q (.sl 0 1 0 (DK l).length none) [(0,Obj.arr false 3 i64<|DK l)]):Ends Ec (L2 l (CT l) 0) Q:=by
 obtain⟨b,d,a⟩:=Ee k;cases l with
 |nil=>exact wh rfl b
 |cons x t=>
  have f:=a _<|G1 b;have e:=a x<|zl ..;have e1:zc .i64 ((0:Int)+1)=((1:Nat):Int):=rfl;have e2:zc .i64 (x-CT (x::t))=x-CT (x::t):=wr _ ae ae;refine zh (AU ..) ?_;conv=>zeta
  rw[e1,show List.getD (x::t) (Int.toNat 0) (0:Int)=x from rfl,e2];refine zd (w4<|by simp only[List.length_cons];omega) (zd (Ad rfl (w4<|by simp only[List.length_cons];omega))<|zd rfl ?_);exact out k c t 1 [x-CT (x::t)] rfl (by simp) rfl rfl
theorem least(k:DD l (-99) 99=0)(a:Q (.sl 0 1 0 (DK l).length none) [(0,Obj.arr false 3 i64<|DK l)]):∀(r:List Int) (i:Nat) (m:Int),l.drop i=r->i<=l.length->r.foldl B5 m=CT l->Ends Ec (L1 l m (i:Int)) Q
 |[],i,m,h,b,e=>by
  have j:=drop_nil h b;have e:m=CT l:=e;rw[e];exact zh (Am ..) (zf (w8 ae)<|rel k a)
 |x::r,i,m,h,b,e=>by
  obtain⟨g,c,f⟩:=drop_cons (d:=(0:Int)) h;have n:=(Ee k).2.1;have e1:=wn (i:=i) ae;refine zh (Am ..) ?_;conv=>zeta
  rw[e1,zi,c];exact zd (w4 ae) (zd (ad ae ae)<|least k a r (i+1) (B5 m x) f g e)
theorem ok:Af Bb 19 sM:=by
 refine BL Dy<|fun(l:List Int) hi=>?_;have k:DD l (-99) 99=0:=w6 hi;have a:=List.length_pos_iff.2 (Ee k).1;refine zn (Aj l) (zd (w4 ae)<|least k (zt (Yk rfl rfl) rfl rfl) l 0 _ rfl (zr _) ?_);cases l with
 |nil=>cases a
 |cons x t=>rfl
end T19
theorem gJ:Dn qH:=Aa T52.ok<|Aa T53.ok AO
namespace T21
variable {Q:PV->Ob->Prop}{l p:List Int}
theorem sum(k:gM l p)(m:∀ob,Q (.dat i64<|Bp<|(CB l p:Int)/100) ob):∀(r u:List Int) (i:Nat) (s:Int),l.drop i=r->p.drop i=u->i<=l.length->s+CB r u=CB l p->s.natAbs<=9900*i->Ends qH (L1 l p s (i:Int)) Q
 |[],u,i,s,h,g,f,e,b=>by
  have w:=drop_nil h f;have:CB [] u=0:=by unfold CB;rw[List.zip_nil_left];rfl
  rw[this,Int.add_zero]at e;obtain⟨z,A⟩:=tI k;subst e;have F:Sp.Nu 11 (Cv (CB l p) 100) (((CB l p:Int):Rat)/((100:Int):Rat)):=oQ (i:=8) (j:=3) ae af af af af;rw[Oh]at F;have v:Cx (CB l p)=true:=ad ae ae;refine zh (Am ..) (zf (w8 ae)<|zd (Ad (Ad v rfl) rfl) (zd (rA ⟨_,F.mono af,by omega⟩)<|ze ?_));rw[F.rat];exact m _
 |x::r,[],i,s,h,g,f,e,b=>by
  obtain⟨o,q,t⟩:=drop_cons (d:=(0:Int)) h;have n:=k.n;have:=wi List.length g;rw[List.length_drop]at this;simp only[List.length_nil]at this;omega
 |x::r,y::u,i,s,h,g,f,e,b=>by
  obtain⟨o,q,t⟩:=drop_cons (d:=(0:Int)) h;obtain⟨g1,g2,g3⟩:=drop_cons (d:=(0:Int)) g;have C:=(Ee k.a).2.1;have a:=(Ee k.a).2.2 x (zo (i:=i) (by rw[h];exact zl ..));have c:=(Ee k.b).2.2 y (zo (i:=i)<|by rw[g];exact zl ..);have D:x*y<=99*y:=zm a.2 c.1;have B: -99*y<=x*y:=zm a.1 c.1;have e1:=wn (i:=i) ae;refine zh (Am ..) ?_;conv=>zeta
  rw[e1,zi,q,g2,wr (x*y) ae ae,wr (s+x*y) ae ae];refine zd (w4 ae) (zd (ad ae ae) (zd (ad ae ae) ?_));refine sum k m r u (i+1) (s+x*y) t g3 o ?_ ae;rw[<-e,Jx,Int.add_assoc]
theorem ok:Af Bb 21 Aa9:=by
 refine BL gJ<|fun(i:List Int×List Int) hi=>?_;obtain⟨l,p⟩:=i;have k:GD l p=0:=w6 hi;refine zn (Aj l p)<|sum (WZ k) (fun ob=>zt rfl rfl ?_) l p 0 0 rfl rfl (zr _) (Int.zero_add _) (zr _);show Bp ((CB l p:Int)/100)=Q4 l p;unfold Q4;rw[k,wc af]
end T21
end Go.Pe
namespace Go.Proofs.YtjbmodoofdpgcaaGreatDoor
open Go
set_option maxRecDepth 100000
theorem seatTie1:Tryz.prog.laidByTextLater [("math/bits.deBruijn32tab",Rows.laid_math_bits_deBruijn32tab),("math/bits.deBruijn64tab",Rows.laid_math_bits_deBruijn64tab),("internal/strconv.uint64pow10",Rows.laid_internal_strconv_uint64pow10),("unicode/utf8.acceptRanges",Rows.laid_unicode_utf8_acceptRanges),("strconv.ErrRange",Rows.laid_strconv_ErrRange),("strconv.ErrSyntax",Rows.laid_strconv_ErrSyntax)] [.data,.data,.data,.data,.sentinel,.sentinel] true:=
 Program.laidByTextLater_by_one 72 8 65 ag ag ag ag ag ag (fun _ _=>by kernel_rfl)
theorem noOwnUnsafe:Tryz.pinned.checked.prog.headLifts.contains "ownunsafe"=false:=by kernel_rfl
theorem fits1:Tryz.pinned.checked.prog.listedFits Rows.handicapFairRow.laid=true:=by
 unfold Program.listedFits;rw[noOwnUnsafe];kernel_rfl
theorem handicapFair_row_tie:Rows.handicapFairRow.laidByTextAt .later Tryz.pinned [.data,.data,.data,.data,.sentinel,.sentinel,.pinned] true:=by
 refine zp rfl rfl seatTie1 rfl rfl rfl rfl (fun y a _e=>?_) fits1;simp only[Rows.handicapFairRow,List.zip_cons_cons,List.zip_nil_right,List.mem_cons,List.mem_nil_iff,or_false]at a;rcases a with rfl|rfl|rfl|rfl|rfl|rfl|rfl
 ·cases _e
 ·cases _e
 ·cases _e
 ·cases _e
 ·cases _e
 ·cases _e
 ·exact⟨by kernel_rfl,by kernel_rfl⟩
theorem handicapSides_row_tie:Rows.handicapSidesRow.laidByTextAt .later Tryz.pinned [.data,.data,.data,.data,.sentinel,.sentinel,.pinned] true:=by
 refine zp rfl rfl seatTie1 rfl rfl rfl rfl (fun y a _e=>?_) fits1;simp only[Rows.handicapSidesRow,List.zip_cons_cons,List.zip_nil_right,List.mem_cons,List.mem_nil_iff,or_false]at a;rcases a with rfl|rfl|rfl|rfl|rfl|rfl|rfl
 ·cases _e
 ·cases _e
 ·cases _e
 ·cases _e
 ·cases _e
 ·cases _e
 ·exact⟨by kernel_rfl,by kernel_rfl⟩
end Go.Proofs.YtjbmodoofdpgcaaGreatDoor
