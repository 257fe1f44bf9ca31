import Derived.Test.YtbmofcgiokkikaaGreatDoorX14
/- A part of a proof; no law is stated here. -/
noncomputable section
set_option maxRecDepth 10000
open Go.Pe.Ends renaming tt -> zc, leaf -> zh, ite -> zl, Ai -> zt, eq -> ya, ff -> yj
open Bool renaming and_eq_true -> zd, or_eq_false_iff -> z6
open Go.Pe.Sh renaming str -> ze, list -> zg, pair -> zi, int -> zp, nlist -> z7
open Go.IntKind renaming wrap -> zf, i64 -> zn, u64 -> zq
open List renaming length_cons -> zj, all_eq_true -> zm, mem_cons_self -> zr, getElem?_eq_getElem -> zu, length_append -> zx, getD_eq_getElem?_getD -> zy, length_singleton -> yb, mem_cons_of_mem -> yf, length_eq_zero_iff -> yi, length_take -> yk, mem_cons -> ym, mem_of_mem_drop -> yp, length_map -> yr, take_of_length_le -> y7
open Classical renaming propDecidable -> zk, not_not -> zz
open Go.Lib renaming decDigits -> zo, itoa -> yv
open Int renaming toNat_natCast -> zw, mul_ne_zero -> yq, tdiv_eq_ediv_of_dvd -> yy, natAbs_mul -> y9
open Rat renaming divInt -> z8, not_lt -> yw, zero_add -> yz, num_eq_zero -> y8, floor_def -> qc, lt_irrefl -> qd
open Nat renaming add -> yc, le_refl -> ye, add_sub_cancel -> yg, pow_le_pow_right -> yn, lt_of_le_of_lt -> yu
open Go.Sp renaming rW -> yd, rN -> yh, Cq -> yx, vR -> qe
open Go.Pe.Ac renaming of -> yo
open Go.Pe.PV renaming agg -> yt
namespace Go.Sp
theorem mN{a k m:Nat}(h:a<10^k)(b:k<=m):a<10^m:=Nat.lt_of_lt_of_le h (yn af b)
theorem rO{a b k:Nat}(c:a<10^k)(d:b<10^k):a+b<10^(k+1):=by rw[Nat.pow_succ];omega
theorem Ln{n:Int}{k:Nat}(h:n.natAbs<10^k)(a:k<=27000):CD (rN n,rW n)=true:=T8<|mN (m:=27000) h a
theorem HR{m n:Int}(h:CD (rN n,rW n)=true)(a:m.natAbs<=n.natAbs):CD (rN m,rW m)=true:=by
 have:=AcR h;rw[FE]at this;exact T8<|yu a this
theorem LN{n:Int}(h:Ct n=true):CD (rN n,rW n)=true:=by
 have h:=Go.Pe.EN h;exact Ln (k:=20) (by have:10^20=100000000000000000000:=rfl;omega) af
theorem VR{n:Int}(h:CD (rN n,rW n)=true):Ba (rW n)=true/\(rW n).length<=3000/\Ah n<(B9:Int)^3000:=by
 obtain⟨a,b,_⟩:=Dq h;refine⟨a,b,?_⟩;have:=(Go.Pe.JT h).2;rwa [show Ao (rN n,rW n).2=Ah n from Lg n]at this
theorem Xe{n:Int}(h:CD (rN n,rW n)=true):(AZ n).length<=27001:=by
 have a:=(VR h).2.2;have b:=Xf a af;have e:(Ah n).toNat=n.natAbs:=by rw[Al];omega
 rw[e]at b;unfold AZ yv;split
 ·rw[zj];omega
 ·rw[show n.toNat=n.natAbs by omega];omega
theorem Mb(n:Int):F7 (rN n,rW n)=AZ n:=by unfold F7;rw[FE]
theorem XP{N D:Int}(b:0<D):Int.tdiv N (gI (Ah N) D)=(z8 N D).num/\Int.tdiv D (gI (Ah N) D)=((z8 N D).den:Int):=by
 have d:D.sign=1:=Int.sign_eq_one_of_pos b;have a:gI (Ah N) D=(Int.gcd N D:Int):=by rw[GC,Al];rfl
 have c:(Int.gcd N D:Int)∣N:=Int.gcd_dvd_left ..;have e:(Int.gcd N D:Int)∣D:=Int.gcd_dvd_right ..;rw[a,yy c,yy e];refine⟨?_,(Ie (N:=N) b).2.2.1▸?_⟩
 ·rw[Rat.num_divInt,d,Int.one_mul,Int.gcd_comm]
 ·rw[a]
theorem Su(x y:Int):Iu (rN x,rW x) (rN y,rW y)=rN (x*y):=by unfold Iu;rw[FE,FE]
theorem SE(x y:Int):It (rN x,rW x) (rN y,rW y)=rW (x*y):=by unfold It;rw[FE,FE]
theorem pQ(x y:Int):NT (rN x,rW x) (rN y,rW y)=rN (x+y):=by unfold NT;rw[FE,FE]
theorem pH(x y:Int):Om (rN x,rW x) (rN y,rW y)=rW (x+y):=by unfold Om;rw[FE,FE]
theorem Qo(x y:Int):IJ (rN x,rW x) (rN y,rW y)=CT x y:=by unfold IJ;rw[FE,FE]
theorem Vm{a b:Nat}(h:a<=b):(zo a).length<=(zo b).length:=by
 have c:=Lib.lt_pow_nDigits b;have d:1<=(zo b).length:=List.length_pos_iff.2<|TB b;rw[<-Lib.decDigits_length]at c;exact Eo (yu h c) d
theorem neg_num(x:Rat):(x.num<0↔x<0)/\(x.num>0↔0<x):=by
 rw[Rat.lt_iff,Rat.lt_iff];have:(0:Rat).num=0:=rfl;have a:((0:Rat).den:Int)=1:=rfl;rw[this,a];omega
theorem oP(p q:Rat):Og (p-q).num=if p<q then -1 else if q<p then 1 else 0:=by
 obtain⟨a,d⟩:=neg_num<|p-q;have b:p-q<0↔p<q:=by rw[Rat.sub_lt_iff,yz]
 have c:0<p-q↔q<p:=(Rat.lt_iff_sub_pos q p).symm;unfold Og;simp only[a,d,b,c]
end Go.Sp
variable {Q:Go.Pe.PV->Go.Pe.Ob->Prop}
namespace Go.Pe
open Sp
open Go.Det
theorem xT:CE uG:=Aa T146.ok<|Aa T141.ok<|Aa T147.ok<|Aa T149.ok<|Aa T148.ok Ay
namespace T83
theorem Dx(n d:Int)(i:CD (yh n,yd n)=true)(a:CD (yh d,yd d)=true)(b:0<=d)(h:∀ob,Q (.dat .str (AZ n++47::AZ d)) ob):Ends uG (L3 (BW d)<|AZ n) Q:=by
 have l1:=Xe i;have j:=Xe a;have e:yd d=BW d:=by unfold yd;rw[Al,Int.natAbs_of_nonneg b]
 have g:=(VR a).2.1;rw[e]at g;obtain⟨c,f⟩:=EE b;have hp:(CQ false<|BW d,AA<|BW d)=(yh d,yd d):=K3 f ae (fun k=>(by cases k))<|fun _=>c.symm;refine zt (Bq ..) ?_;conv=>zeta
 rw[hp,Mb];refine zc (w4 ae) (zc (w4 ae)<|zc a<|zc (w4<|by rw[zx,yb];omega)<|zh ?_);rw[List.append_assoc];exact h _
theorem A5(n d:Int)(k:CD (yh n,yd n)=true)(j:CD (yh d,yd d)=true)(l:0<d)(a:d=1->∀ob,Q (.dat .str<|AZ n) ob)(i:d≠1->∀ob,Q (.dat .str (AZ n++47::AZ d)) ob):Ends uG (L2 (BW d)<|AZ n) Q:=by
 have b:=uW (n:=d) ae;by_cases h:d=1
 ·rw[b.2 h];exact zt (Az ..)<|zc rfl (zc rfl (zc rfl (zh<|a h _)))
 ·have f:=Dx n d k j ae<|i h;refine zt (Az ..)<|zl (fun c=>zc ?_<|zl (fun e=>?_)<|fun _=>f)<|fun _=>f
  ·have c:((BW d).length:Int)=1:=by simpa using c
   exact w4 ae
  ·exfalso;have c:((BW d).length:Int)=1:=by simpa using c
   have e:(BW d).getD 0 0=1:=by simpa using e
   refine h<|b.1 ?_;cases g:BW d with
   |nil=>rw[g]at c;cases c
   |cons x r=>
    rw[g]at c e;have hr:r=[]:=yi.1 (by have:((r.length+1:Nat):Int)=1:=c;omega);have e:x=1:=e;rw[hr,e]
theorem Ar(N D:Int)(i:CD (yh N,yd N)=true)(j:CD (yh D,yd D)=true)(h0:0<D)(f:∀ob,Q (.dat .str<|CT N D) ob):Ends uG (L1 (yh D) (yd D) (yh N)<|yd N) Q:=by
 obtain⟨n1,w,t⟩:=VR i;obtain⟨d1,d2,d3⟩:=VR j;obtain⟨g0,f1,f2,f3⟩:=Ie (N:=N) h0;have c:Ah D=D:=by rw[Al,Int.natAbs_of_nonneg<|Int.le_of_lt h0]
 have p:CI (yd N) (yd D)=BW (Sp.gI (Ah N) D):=by
  unfold CI;rw[Lg,Lg,c]
 have v:Sp.gI (Ah N) D<=D:=by
  have l:Sp.gI (Ah N) D=(Int.gcd N D:Int):=by rw[GC,Al];rfl
  rw[l];exact Int.le_of_dvd h0<|Int.gcd_dvd_right ..
 have fn:=jW h0 (neg:=yh N) rfl;have q:(z8 N D).num.natAbs<=N.natAbs:=(Gn (n:=N) (d:=D) ae).1;have o:(z8 N D).den<=D.natAbs:=(Gn (n:=N) (d:=D) ae).2;have Cq:=HR (m:=(z8 N D).num) i q;have a:=HR (m:=((z8 N D).den:Int)) j (by rw[Int.natAbs_natCast];exact o);have r:Ah (z8 N D).num<(Sp.B9:Int)^3000:=(VR Cq).2.2;have e:=Sx (N:=N) (D:=D);have s:=(z8 N D).den_pos;have a0:=OQ (z8 N D).num;rw[c]at d3;refine zt (Ak ..) ?_;conv=>zeta
 rw[p,Lg,Lg,c];generalize Sp.gI (Ah N) D=g at*;have b:=Gk (n:=g) (k:=3000) ae ae af;rw[b.2.2.1,fn,f1,f2,Mb];have u:=H5 a0 r;refine zc (Ab (Ab (Ab n1 d1)<|w4 ae)<|w4 ae) (zc (Ab (Ab (Ab (Ab n1 b.1)<|w4 ae)<|w4 ae)<|w4 g0) (zc (Ab (Ab (Ab (Ab d1 b.1)<|w4 ae)<|w4 ae)<|w4 g0)<|zc (w4 ae)<|zc Cq<|A5 _ _ Cq a ae (fun h ob=>?_)<|fun h ob=>?_))
 ·have:=f ob;rw[e,wd ae]at this;exact this
 ·have:=f ob;rw[e,wc ae]at this;exact this
theorem ok:Af A4 83 Nx:=by
 refine BD xT<|fun(i:(Bool×List Int)×(Bool×List Int)) g=>?_;obtain⟨a,b⟩:=i;have g:(CD a&&CD b&&decide (qe b≠0))=true:=g;rw[zd,zd,w5]at g;obtain⟨⟨ha,hb⟩,h0⟩:=g;have k:=AbK ha;have l:=AbK hb;have j:∀ob,Ac Nx (a,b) (.dat .str<|CT (qe a)<|qe b) ob:=fun ob=>yo rfl rfl rfl
 have d:=ha;have e:=hb;rw[k]at d;rw[l]at e;refine ya (Aj a b)<|zl (fun c=>zc ha<|zc hb ?_)<|fun c=>?_
 ·have h:qe b<0:=by
   have:=QO hb;rw[c]at this;exact w6 this.symm
  have:=Ar (Q:=Ac Nx (a,b)) (-qe a) (-qe b) (HR d<|by rw[Int.natAbs_neg];exact ye _) (HR e<|by rw[Int.natAbs_neg];exact ye _) ae (fun ob=>by rw[Vi];exact j ob);exact this
 ·have f:0<qe b:=by
   have:=QO hb;rw[c]at this;have:=w7 this.symm;omega
  have:=Ar (Q:=Ac Nx (a,b)) (qe a) (qe b) d e f j;rw[<-QO ha, <-Ab8 ha, <-QO hb, <-Ab8 hb]at this;exact this
end T83
theorem wD:CE iG:=Aa T143.ok<|Aa T83.ok<|Aa T144.ok<|Aa T145.ok Ay
namespace T81
theorem Wk{n:Int}(a: -9000000000000000000<=n)(b:n<=9000000000000000000):imax n (zf .i64<|0-n)=Ah n:=by
 rw[wr _ ae ae];unfold imax Ah;split<;>split<;>omega
theorem Cb(n d:Int)(v:Z)(b:v=AZ n)(j:v.length<=27001)(h:0<d)(i:d<9000000000000000000)(a:d=1->∀ob,Q (.dat .str<|AZ n) ob)(f:d≠1->∀ob,Q (.dat .str (AZ n++47::AZ d)) ob):Ends iG (L4 d v) Q:=by
 have g:=Pu d 1;have e:IP d 1=AZ d:=by
  rw[Rj ae ae];unfold AZ yv;rw[wc ae]
 refine zt (Ck ..) (zl (fun c=>zc (w4 ae)<|zc (Ab (Ab (ad ae ae) rfl) rfl)<|zc (w4<|by rw[zx,yb];omega)<|zh ?_)<|fun c=>zh ?_)
 ·have c:=w6 c;rw[b,e,List.append_assoc];exact f ae _
 ·have c:=w7 c;rw[b];exact a ae _
theorem Dx(n d:Int)(n1: -9000000000000000000<n)(j:n<9000000000000000000)(f:0<d)(g:d<9000000000000000000)(a:d=1->∀ob,Q (.dat .str<|AZ n) ob)(h:d≠1->∀ob,Q (.dat .str (AZ n++47::AZ d)) ob):Ends iG (L3 n d) Q:=by
 have i:=Pu (Ah n) 1;have k:=Al n;have e:IP (Ah n) 1=zo n.natAbs:=by
  rw[Rj ae ae];congr 1;omega
 have b:=fH n;refine zt (Bq ..) ?_;conv=>zeta
 rw[Wk ae ae];have hr:(decide (0<=Ah n)&&decide (Ah n<9223372036854775808)&&decide ((0:Int)<=1)&&decide ((1:Int)<=20))=true:=Ab (Ab (ad ae ae) rfl) rfl;refine zl (fun c=>zc hr<|zc (w4 ae)<|Cb n d _ ?_ ?_ f g a h) (fun c=>zc hr<|zc (w4 ae)<|Cb n d _ ?_ ?_ f g a h)
 ·have c:=w6 c;rw[wd c]at b;rw[e];exact b.symm
 ·rw[zx,yb];omega
 ·have c:=w7 c;rw[wc c]at b;rw[e];exact b.symm
 ·rw[List.nil_append];omega
theorem A5(n d:Int)(n1: -9000000000000000000<n)(f:n<9000000000000000000)(a:0<d)(g:d<9000000000000000000)(e:∀ob,Q (.dat .str<|CT n d) ob):Ends iG (L2 n d) Q:=by
 obtain⟨k,_⟩:=Ie (N:=n) a;obtain⟨q1,q2⟩:=XP (N:=n) a;obtain⟨l1,l2⟩:=Gn (n:=n) (d:=d) ae;have i:=Al n;have j:=(z8 n d).den_pos;have b:=Sx (N:=n) (D:=d);refine zt (Az ..) ?_;conv=>zeta
 rw[Wk ae ae,q1,q2,wr _ ae ae,wr _ ae ae];have c:decide (Sp.gI (Ah n) d≠0)=true:=w4 ae;refine zc (Ab (Ab (ad ae ae)<|w4 ae)<|w4 ae) (zc c<|zc c<|Dx _ _ ae ae ae ae (fun h ob=>?_)<|fun h ob=>?_)
 ·have:=e ob;rw[b,wd ae]at this;exact this
 ·have:=e ob;rw[b,wc ae]at this;exact this
theorem ok:Af A4 81 ZC:=by
 refine BD wD<|fun(i:Int×Int) e=>?_;obtain⟨n,d⟩:=i;have e:(Ct n&&Ct d&&decide (d≠0))=true:=e;rw[zd,zd,w5]at e;obtain⟨⟨hn,hd⟩,h0⟩:=e;have b:∀ob,Ac ZC (n,d) (.dat .str<|CT n d) ob:=fun ob=>yo rfl rfl rfl
 have a:(CD (yh n,yd n)&&CD (yh d,yd d)&&decide (qe (yh d,yd d)≠0))=true:=Ab (Ab (LN hn)<|LN hd) (by rw[FE];exact w4 h0);refine ya (Aj n d) ?_;conv=>zeta
 rw[Qo];refine zl (fun _=>zc hn<|zc hd<|zc a<|zh<|b _)<|fun g=>zl (fun _=>zc hn<|zc hd<|zc a<|zh<|b _)<|fun f=>zl (fun _=>zc hn<|zc hd<|zc a<|zh<|b _)<|fun h=>zl (fun _=>zc hn<|zc hd<|zc a<|zh<|b _)<|fun j=>?_;have g:=w7 g;have f:=w7 f;have h:=w7 h;have j:=w7 j;refine zt (Ak ..)<|zl (fun c=>?_)<|fun c=>?_
 ·have c:=w6 c;rw[wr (0-n) ae ae,wr (0-d) ae ae,Int.zero_sub,Int.zero_sub];exact A5 (-n) (-d) ae ae ae ae (fun ob=>by rw[Vi];exact b ob)
 ·have c:=w7 c;exact A5 n d ae ae ae ae b
end T81
namespace T80
theorem no3{Q:PV->Ob->Prop}(s:Z)(neg:Bool)(l:s.length<=20)(h:9<(AD s).length\/9<(Sp.AV s).length)(a:∀ob,Q (.tup [.dat i64 0,.dat i64 0,.bl false]) ob):Ends O6 (L3 s neg) Q/\Ends O6 (L4 s) Q:=by
 obtain⟨k,f,g⟩:=BY s;have es:A1 s=((AD s).length:Int):=rfl;have j:=(T163.Du s).1;have e:9<(Sp.AV s).length->(s.length:Int)-(AD s).length>10:=fun h=>by
  cases d:Bw s with
  |true=>
   have i:=wi List.length (f d).2;rw[List.length_drop]at i;omega
  |false=>rw[(g d).2]at h;cases h
 refine⟨zt (Bq ..) (zc (w4 ae)<|zl (fun _=>zh<|a _)<|fun c=>?_),zt (Ck ..)<|zc (w4 ae)<|zl (fun _=>zh<|a _)<|fun c=>?_⟩
 ·have c:=w7 c;rw[es]at c;have b:=e ae;refine zc ?_<|zh<|a _;rw[es,wr _ ae ae];exact w4 b
 ·have c:=w7 c;rw[es]at c;have b:=e ae;refine zc ?_<|zh<|a _;rw[es,wr _ ae ae];exact w4 b
theorem okG:Af A4 80 OE:=by
 refine BD vK<|fun(a:Z) ha=>?_;obtain⟨_,_,k,db⟩:=Py ha;by_cases b:Ei a=true
 ·have e:∀n ob,n=Jj a->Ac OE a (.tup [.dat i64 n,.dat i64<|if Bw (A6 a)=true then AI 0 (Sp.AV<|A6 a)else 1,.bl true]) ob:=fun n ob h=>yo rfl rfl (by
   show(n,_,true)=(qV a,VS a,Ei a);unfold qV VS;rw[wd b,wd b,b,h];rfl)
  unfold Ei at b;rw[zd,zd,w5,w5,w5]at b;obtain⟨⟨f,m⟩,o⟩:=b;clear ha;refine ya (Aj a) (yj (by simp;omega) ?_);cases a with
  |nil=>exact yj rfl (zt (Az ..)<|Cb [] f m o k db<|fun n ob h=>e n ob<|by rw[h];rfl)
  |cons c r=>
   have g:(c::r).getD 0 0=c:=rfl;rw[g];refine zc (by simp) (zc (by simp) (zt (Ak ..)<|zl (fun d=>zc (by simp) ?_)<|fun d=>?_))
   ·have i:c=45:=by
     have:(c.toNat:Int)=45:=by simpa using d
     exact UInt8.toNat_inj.1 (by show _=45;omega)
    have j:A6 (c::r)=r:=by unfold A6;rw[g,wd i];rfl
    have q:Sp.preB (c::r)=true:=by unfold Sp.preB;rw[g];exact w4 i
    have p:List.take (Nat.sub (c::r).length 1) (List.drop 1 (c::r))=r:=y7<|ye _;unfold Jj at e;rw[j]at m o k db e;rw[q]at e;rw[p,d];exact Dx r true (by rw[zj]at f;omega) m o k db (fun n ob h=>e _ ob (by rw[h];try rfl))
   ·have i:c≠45:=by rintro rfl;exact wh d af
    have j:A6 (c::r)=c::r:=by unfold A6;rw[g,wc i]
    have q:Sp.preB (c::r)=false:=by unfold Sp.preB;rw[g];exact w8 i
    unfold Jj at e;rw[j]at m o k db e;rw[q]at e;rw[d];exact Dx (c::r) false f m o k db (fun n ob h=>e _ ob (by rw[h];try rfl))
 ·have t:Ei a=false:=by simpa using b
  have e:∀ob,Ac OE a (.tup [.dat i64 0,.dat i64 0,.bl false]) ob:=fun ob=>yo rfl rfl (by
   show((0:Int),(0:Int),false)=(qV a,VS a,Ei a);unfold qV VS;rw[wc b,wc b,t])
  refine ya (Aj a)<|zl (fun _=>zh<|e _)<|fun f=>?_;have f:a.length<=20:=by have:=w7 f;omega
  have l:9<(AD<|A6 a).length\/9<(Sp.AV<|A6 a).length:=by
   by_cases s:(AD<|A6 a).length<=9
   ·by_cases u:(Sp.AV<|A6 a).length<=9
    ·exact wh (by unfold Ei;rw[w4 f,w4 s,w4 u];rfl) b
    ·exact .inr ae
   ·exact .inl ae
  cases a with
  |nil=>exact yj rfl (zt (Az ..) (no3 [] false f l e).2)
  |cons c r=>
   have g:(c::r).getD 0 0=c:=rfl;rw[g];refine zc (by simp) (zc (by simp)<|zt (Ak ..)<|zl (fun d=>zc (by simp) ?_)<|fun d=>?_)
   ·have i:c=45:=by
     have:(c.toNat:Int)=45:=by simpa using d
     exact UInt8.toNat_inj.1 (by show _=45;omega)
    have j:A6 (c::r)=r:=by unfold A6;rw[g,wd i];rfl
    have p:List.take (Nat.sub (c::r).length 1) (List.drop 1 (c::r))=r:=y7<|ye _;rw[j]at l;rw[p];exact(no3 r _ (by rw[zj]at f;omega) l e).1
   ·have i:c≠45:=by rintro rfl;exact wh d af
    have j:A6 (c::r)=c::r:=by unfold A6;rw[g,wc i]
    rw[j]at l;exact(no3 (c::r) _ f l e).1
end T80
theorem Tm:CE XR6:=Aa T80.okG<|Aa T81.ok<|Aa (T82.ok)<|Aa T84.ok<|Aa T85.ok<|Aa T83.ok Ay
theorem Vz{x y:Int}(a: -1000000000<x)(d:x<1000000000)(b: -1000000000<y)(c:y<1000000000): -1000000000000000000<=x*y/\x*y<=1000000000000000000:=by
 have h:(x*y).natAbs<=1000000000*1000000000:=by
  rw[y9];exact Nat.mul_le_mul ae ae
 omega
theorem T30.ok:Af A4 30 JD:=by
 refine BD Tm<|fun(i:Z×Z) d=>?_;obtain⟨a,b⟩:=i;have d:(A2 a&&A2 b)=true:=d;rw[zd]at d;obtain⟨ha,hb⟩:=d;obtain⟨a1,a2,a3,a4,a5,a6,a7,a8,a9⟩:=D6 ha;obtain⟨b1,b2,b3,b4,b5,b6,b7,b8,b9⟩:=D6 hb;have ad:=(As a).den_pos;have G:=(As b).den_pos;have eq:=(dZ ha hb).2;have j:∀ob,Ac JD (a,b) (.dat .str<|CT (Be a*AR b+Be b*AR a)<|AR a*AR b) ob:=fun ob=>yo rfl rfl eq.symm
 have c:Ends XR6 (T30.L1 a b) (Ac JD (a,b)):=by
  have l:BZ a=yh (Be a):=rfl;have q:BT a=yd (Be a):=rfl;have r:Bz a=yh (AR a):=rfl;have s:Bp a=yd (AR a):=rfl;have g:BZ b=yh (Be b):=rfl;have h:BT b=yd (Be b):=rfl;have o:Bz b=yh (AR b):=rfl;have n:Bp b=yd (AR b):=rfl;rw[l,q]at a1;rw[r,s]at a3;rw[g,h]at b1;rw[o,n]at b3;refine zt (T30.Ak ..) ?_;conv=>zeta
  simp only[l,q,r,s,g,h,o,n,Su,SE,pQ,pH,Qo,FE];have f:=D5 a8 b9;have e:=D5 b8 a9;have p:=D5 a9 b9;rw[<-y9]at f e p;have w:=yu (Int.natAbs_add_le (Be a*AR b)<|Be b*AR a)<|rO (k:=4000+4000) f e;have F:=Ln f af;have v:=Ln e af;have E:=Ln p af;have u:=Ln w af;have A:AR a*AR b≠0:=yq ae ae;exact zc a7<|zc b7<|zc (Ab a1 b3)<|zc (Ab b1 a3)<|zc (Ab F v)<|zc (Ab a3 b3)<|zc (Ab (Ab u E)<|w4 A)<|zh<|j _
 refine ya (T30.Aj a b)<|zc ha<|zc hb<|zl (fun t=>zl (fun B=>?_)<|fun _=>c)<|fun _=>c;obtain⟨D,z,x,C,J,m⟩:=Hb ha t;obtain⟨y1,y2,y3,y4,y5,y6⟩:=Hb hb B;have H:=Vz x C ae y6;have I:=Vz y3 y4 ae m;have K:=Vz ae m ae y6;have y:AR a*AR b≠0:=yq ae ae;rw[D,z,y1,y2,wr (Be a*AR b) ae ae,wr (Be b*AR a) ae ae,wr (Be a*AR b+Be b*AR a) ae ae,wr (AR a*AR b) ae ae];exact zc (Ab (Ab (D8 ae ae)<|D8 ae ae)<|w4 y)<|zh<|j _
theorem T74.ok:Af A4 74 Od:=by
 refine BD Tm<|fun(i:Z×Z) d=>?_;obtain⟨a,b⟩:=i;have d:(A2 a&&A2 b)=true:=d;rw[zd]at d;obtain⟨ha,hb⟩:=d;obtain⟨a1,a2,a3,a4,a5,a6,a7,a8,a9⟩:=D6 ha;obtain⟨b1,b2,b3,b4,b5,b6,b7,b8,b9⟩:=D6 hb;have ad:=(As a).den_pos;have B:=(As b).den_pos;have g:∀ob,Ac Od (a,b) (.dat .str<|CT (Be a*Be b)<|AR a*AR b) ob:=fun ob=>yo rfl rfl (gP).symm
 have c:Ends XR6 (T74.L1 a b) (Ac Od (a,b)):=by
  have h:BZ a=yh (Be a):=rfl;have m:BT a=yd (Be a):=rfl;have o:Bz a=yh (AR a):=rfl;have p:Bp a=yd (AR a):=rfl;have e:BZ b=yh (Be b):=rfl;have f:BT b=yd (Be b):=rfl;have k:Bz b=yh (AR b):=rfl;have j:Bp b=yd (AR b):=rfl;rw[h,m]at a1;rw[o,p]at a3;rw[e,f]at b1;rw[k,j]at b3;refine zt (T74.Ak ..) ?_;conv=>zeta
  simp only[h,m,o,p,e,f,k,j,Su,SE,Qo,FE];have n:=D5 a8 b8;have l:=D5 a9 b9;rw[<-y9]at n l;have A:=Ln n af;have z:=Ln l af;have v:AR a*AR b≠0:=yq ae ae;exact zc a7<|zc b7<|zc (Ab a1 b1)<|zc (Ab a3 b3)<|zc (Ab (Ab A z)<|w4 v)<|zh<|g _
 refine ya (T74.Aj a b)<|zc ha<|zc hb<|zl (fun q=>zl (fun w=>?_)<|fun _=>c)<|fun _=>c;obtain⟨y,u,s,x,D,r⟩:=Hb ha q;obtain⟨y1,y2,y3,y4,y5,y6⟩:=Hb hb w;have C:=Vz s x y3 y4;have E:=Vz ae r ae y6;have t:AR a*AR b≠0:=yq ae ae;rw[y,u,y1,y2,wr _ ae ae,wr (AR a*AR b) ae ae];exact zc (Ab (Ab (D8 ae ae)<|D8 ae ae)<|w4 t)<|zh<|g _
theorem T183.ok:Af A4 183 Aa2:=by
 refine BD Tm<|fun(a:Z) hi=>?_;obtain⟨b,h0⟩:=XF hi;obtain⟨a1,a2,a3,a4,a5,a6,a7,a8,a9⟩:=D6 (H8 b).1;refine ya (T183.Aj a)<|zc a7<|zc (Ab (Ab a3 a1) ?_)<|zh<|yo rfl rfl ?_
 ·rw[a2];exact w4 fun e=>h0 (y8.mp (by rw[a5,e]))
 ·show IJ _ _=RL a;unfold IJ;rw[a2,a4];exact fF.symm
theorem aL:CE XR7:=Aa T183.ok<|Aa T74.ok<|Aa T30.ok<|Aa T86.ok Ay
theorem rJ{s:Z}(h:Di s=true):A2 (MS s)=true/\As (MS s)= -As s:=by
 obtain⟨a,c⟩:=H8 h;obtain⟨t,_⟩:=Gc a;have e:MS s=AH (-As s):=by
  have:=tC<|As s;rwa [t]at this
 have r:As (MS s)= -As s:=by rw[e,DL]
 refine⟨?_,r⟩;have b:(MS s).length<=4000:=by
  unfold MS;split
  ·omega
  ·split
   ·rw[List.length_drop];omega
   ·rw[zj];omega
 unfold A2;rw[r, <-e,w4 rfl,w4 b];rfl
theorem T31.ok:Af A4 31 cI:=by
 refine BD aL<|fun(i:Z×Z) c=>?_;obtain⟨a,b⟩:=i;have c:(A2 a&&Di b)=true:=c;rw[zd]at c;obtain⟨ha,hb⟩:=c;obtain⟨n1,n2⟩:=rJ hb;have d:=(H8 hb).2;refine ya (T31.Aj a b) (zc (w4 ae)<|zc (Ab ha n1)<|zh<|yo rfl rfl ?_);show B5 a (MS b)=Hl a b;unfold B5 Hl;rw[n2,Rat.sub_eq_add_neg]
theorem qD{s:Z}(h:VZ s=true):A2 (RL s)=true:=by
 obtain⟨a,h0⟩:=XF h;obtain⟨a,h2⟩:=H8 a;obtain⟨t,_⟩:=Gc a;have b:(AH<|As s).length<=3000:=by rw[t];exact h2
 unfold RL;generalize As s=q at*;have l1:(zo q.num.natAbs).length<=(yv q.num).length:=by
  unfold yv;split
  ·rw[zj];omega
  ·rw[show q.num.toNat=q.num.natAbs by omega];exact ye _
 have key:(AH q⁻¹).length<=(zo q.num.natAbs).length+(zo q.den).length+2:=by
  have f:=Rat.inv_def q;have g:q.num≠0:=fun e=>h0<|y8.mp e
  have l:=q.den_pos;have m:=Gn (n:=(q.den:Int)) (d:=q.num) g;rw[<-f,Int.natAbs_natCast]at m;have o:=Vm m.1;have k:=Vm m.2;have j:(yv q⁻¹.num).length<=(zo q⁻¹.num.natAbs).length+1:=by
   unfold yv;split
   ·rw[zj];omega
   ·rw[show q⁻¹.num.toNat=q⁻¹.num.natAbs by omega];omega
  unfold AH;split
  ·omega
  ·rw[zx,zj];omega
 have i:(zo q.num.natAbs).length+(zo q.den).length<=3001:=by
  unfold AH at b;split at b
  ·next c=>rw[c,Lib.decDigits_one (show 1<10 by decide),yb];omega
  ·rw[zx,zj]at b;omega
 unfold A2;rw[DL,w4 rfl,w4 ae];rfl
theorem T130.ok:Af A4 130 ZV:=by
 refine BD aL<|fun(i:Z×Z) c=>?_;obtain⟨a,b⟩:=i;have c:(A2 a&&VZ b)=true:=c;rw[zd]at c;obtain⟨ha,hb⟩:=c;refine ya (T130.Aj a b)<|zc hb<|zc (Ab ha<|qD hb)<|zh<|yo rfl rfl ?_;show EH a (RL b)=FD a b;unfold EH FD RL;rw[DL,Rat.div_def]
theorem UH:CE XR8:=Aa T31.ok<|Aa T87.ok<|Aa T139.ok<|Aa T33.ok<|Aa T113.ok<|Aa T114.ok Ay
theorem T32.ok:Af A4 32 PQ:=by
 refine BD UH<|fun(i:Z×Z) d=>?_;obtain⟨a,b⟩:=i;have d:(A2 a&&Di b)=true:=d;have c:=d;rw[zd]at c;obtain⟨ha,hb⟩:=c;have z:=(TD ha).sub<|TD (H8 hb).1;refine ya (T32.Aj a b) (zc d (zc (w4<|P1 z af)<|zh<|yo rfl rfl ?_));show F4 (Hl a b)=EI a b;unfold Hl;rw[Np,oP];rfl
theorem T137.ok:Af A4 137 U4:=by
 refine BD UH<|fun(a:Z) ha=>?_;refine ya (T137.Aj a)<|zc ha<|zh<|yo rfl rfl ?_;show(A1 a==(a.length:Int))=K2 a;obtain⟨e,c,d⟩:=BY a;have es:A1 a=((AD a).length:Int):=rfl;unfold K2;cases b:Bw a with
 |false=>rw[es,(d b).1];simp
 |true=>
  obtain⟨g,f⟩:=c b;rw[es];simp;omega
theorem T61.ok:Af A4 61 TE:=by
 refine BD UH<|fun(a:Z) ha=>?_;have e:a.length<=1000000:=w6 ha;have f:=(T163.Du a).1;have b:∀v ob,v=FT a->Ac TE a (.dat i64 v) ob:=fun v ob h=>yo rfl rfl h
 unfold FT at b;refine ya (T61.Aj a) (zc ha<|zc (w4 ae)<|zl (fun c=>zh<|b _ _ ?_)<|fun c=>zc ha<|zl (fun d=>zh<|b _ _ ?_)<|fun d=>zh<|b _ _ ?_)
 ·have c:=w6 c;rw[wd<|.inl ae]
 ·have d:=w6 d;rw[wd<|.inr ae]
 ·have c:=w7 c;have d:=w7 d;rw[wc ae]
theorem xM:CE XR9:=Aa T82.ok<|Aa T182.ok<|Aa T148.ok<|Aa T137.ok Ay
theorem T129.ok:Af A4 129 UG:=by
 refine BD xM<|fun(a:Z) ha=>?_;obtain⟨a1,a2,a3,a4,a5,f,e,h,a9⟩:=D6 ha;obtain⟨t,hl⟩:=Gc ha;have g:=(As a).den_pos;refine ya (T129.Aj a) (zc (w4 ae) (zl (fun c=>zh<|yo rfl rfl ?_) (fun c=>zc e<|zc (Ab (Ab a1 a3)<|by rw[a4];exact w4 ae)<|zc ?_<|zh<|yo rfl rfl ?_)))
 ·show a=AZ (As a).floor;have d:(As a).den=1:=by
   have b:=(FL<|As a).2.2;rw[t]at b;unfold K2 at c;rw[b]at c;simpa using c
  rw[qc,d];have:(As a).num/((1:Nat):Int)=(As a).num:=Int.ediv_one _;rw[this];conv=>lhs;rw[<-t]
  unfold AH;rw[wd d];rfl
 ·show CD (JQ _ _,JC _ _)=true;unfold JQ JC;rw[a2,a4];exact HR a1<|Int.natAbs_ediv_le_natAbs _ _
 ·show F7 (JQ _ _,JC _ _)=AZ (As a).floor;unfold JQ JC;rw[a2,a4,Mb,qc,a5,f]
theorem eL{f:Ae}{q:Rat}(h:Fk f q){k:Nat}(z:CZ k q)(c:k<=4000):Bd (Gv f.1 f.2)=true/\Sp.vI (Gv f.1 f.2)=q.floor:=by
 have s:=TP z c;have b:=h.den_pos;have d:=cC h.n (by rw[h.vn];exact Int.lt_of_lt_of_le s.1<|AP af af);have a:Sp.vI (Gv f.1 f.2)=q.floor:=by rw[qZ b,h.vn,h.vd,qc]
 refine⟨cC (Zm d b) ?_,a⟩;have e:=(Rr z).1;rw[Rat.num_intCast]at e;rw[a];exact Int.lt_of_lt_of_le (S9 e) (AP af ae)
end Go.Pe
namespace Go.Sp
theorem LC{k:Nat}{t:List AW}(h:GQ k t=true):∀p∈t,p.1.length<=k/\p.2.length<=k:=by
 unfold GQ at h;rw[zm]at h;intro p hp;have:=h p hp;rw[zd,w5,w5]at this;exact this
theorem WV(a b:Z):EI a b<=0↔0<=EI b a:=by
 unfold EI;rw[oY (As a)<|As b];omega
theorem HY(a b:Z):EI a b<=0↔¬As b<As a:=by
 unfold EI;by_cases h:As a<As b
 ·rw[wd h];exact⟨fun _=>yw.2<|Rat.le_of_lt h,fun _=>by decide⟩
 ·rw[wc h];by_cases k:As b<As a
  ·rw[wd k];exact⟨fun x=>wh x af,fun x=>wh k x⟩
  ·rw[wc k];exact⟨fun _=>k,fun _=>by decide⟩
def PG(t:List AW)(i:Nat):Option AW:=if i=0 then none else some<|t.getD (i-1) ([],[])
theorem Gm(p:AW)(l:List AW):DK none (p::l)=if On p.1 p.2≠0 then On p.1 p.2 else DK (some p) l:=by
 rw[DK]
theorem Hw(q p:AW)(l:List AW):DK (some q) (p::l)=if On p.1 p.2≠0 then On p.1 p.2 else if EI p.1 q.1<=0 then 11 else DK (some p) l:=by
 rw[DK]
theorem Vv(o:Option AW):DK o []=0:=by rw[DK]
theorem Yd{t:List AW}{i:Nat}{p:AW}(h:t.getD i ([],[])=p):PG t (i+1)=some p:=by
 unfold PG;rw[wc ae,yg,h]
end Go.Sp
namespace Go.Pe
open Sp
open Go.Det
theorem lP{s:Sh}{sz:Nat}(b:s.sz=sz){id n:Nat}{tail:Ob}{fz:Bool}{t:TypeId}{o:List s.T}{e:Int}(f:n=o.length):KQ [.list s,i64] (.tup [.sl id sz 0 n none,.dat i64 e]) ((id,.arr fz t s o)::tail)=some (true,(o,e)):=by
 subst f b;have a:AS ((id,Obj.arr fz t s o)::tail) id=some (.arr fz t s o):=by unfold AS;rw[Nat.beq_refl];rfl
 have h0:FG ⟨0,.leaf,(id,.arr fz t s o)::tail,0⟩ (.list s) (.sl id s.sz 0 o.length none)=some (true,o):=by
  unfold FG;have g:Dr ⟨0,.leaf,(id,.arr fz t s o)::tail,0⟩ (PV.cells<|.sl id s.sz 0 o.length none)=some (true,[.dat (.list s) o]):=by
   show(match B4 ⟨0,.leaf,(id,.arr fz t s o)::tail,0⟩ (.sl id s.sz 0 o.length none),some (true,[])with|some (c,x),some (d,xs)=>some (c&&d,x::xs)|_,_=>none)=_;have:B4 ⟨0,.leaf,(id,.arr fz t s o)::tail,0⟩ (.sl id s.sz 0 o.length none)=some (true,.dat (.list s) o):=by
    unfold B4 AQ.obj;simp only[a,Nat.beq_refl,we];simp
   rw[this];rfl
  simp only[Ni,Sh.RV];show(match Dr ⟨0,.leaf,(id,.arr fz t s o)::tail,0⟩ (PV.cells<|.sl id s.sz 0 o.length none)with|some (c,cs)=>_|none=>none)=_;rw[g];have:Dv (.list s) [PV.dat (.list s) o]=some o:=by
   unfold Dv CG asD E4;simp
  simp only[QG,this,Bool.true_and]
 unfold KQ H6;simp only;unfold Dt;rw[h0];rfl
theorem xJ:CE XT1:=Aa T202.ok<|Aa T203.ok<|Aa T270.ok<|Aa T96.ok<|Aa T73.ok Ay
theorem bX{a b:Z}(c:An a=0)(d:An b=0):Ds (frS a) (frS b)=EI a b:=by
 rw[Fk.cmp (Jt (C0 c).1)<|Jt (C0 d).1];rfl
theorem Ih{a:Z}(b:An a=0):Sp.Ch (frS a)=true/\DT a=true:=by
 obtain⟨n,z⟩:=C0 b;exact⟨(Jt n).Ch (TP z af),(D6 n).2.2.2.2.2.2.1⟩
namespace T237
theorem Af9{p:AW}{k:Nat}(h:p.1.length<=k/\p.2.length<=k)(a:k<=1000000):(decide ((2:Nat)<=2)&&true&&(decide ((2:Nat)<=1000)&&List.all [p.1,p.2] fun s=>decide (List.length s<=1000000)))=true:=by
 show(decide (p.1.length<=1000000)&&(decide (p.2.length<=1000000)&&true))=true;rw[w4 ae,w4 ae];rfl
theorem dC(t:List AW)(i:Nat)(p:AW)(h:i<t.length)(hp:t.getD i ([],[])=p):(t.take i).map EK++[(Cw p.1,Cw p.2)]=(t.take<|i+1).map EK:=by
 rw[List.take_add_one,List.map_append];congr 1;rw[zy]at hp;rw[zu h]at hp ⊢;have hp:t[i]=p:=hp;rw[hp];rfl
theorem A5(t:List AW)(m:t.length<=64)(v:GQ 1000000 t=true)(a:∀e ob,e≠0->DK none t=e->Q (.tup [.nil,.dat i64 e]) ob)
  (k:DK none t=0->Q (.tup [.sl 0 8 0 ((t.take t.length).map EK).length none,.dat i64 0]) [(0,.arr false 300 bQ<|(t.take t.length).map EK)]):
  ∀(r:List AW) (i n:Nat) (q:AW),t.drop i=r->1<=i->i<=t.length->n=((t.take i).map EK).length->t.getD (i-1) ([],[])=q->An q.1=0->DK none t=DK (some q) r->Ends XT1 (L2 n t (t.length:Int) (i:Int)<|(t.take i).map EK) Q
 |[],i,n,q,h,z,w,s,j,o,b=>by
  have:=drop_nil h w;have e:i=t.length:=ae
  subst e;rw[Vv]at b;rw[s];exact zt (Az ..) (yj (w8 ae)<|zh<|k b)
 |p::r,i,n,q,h,z,w,s,j,o,b=>by
  obtain⟨y,l,J⟩:=drop_cons (d:=(([],[]):AW)) h;have I:p∈t:=yp (by rw[h];exact zr ..);have hp:=LC v p I;have H:n=i:=by rw[s,yr,yk];omega
  have A:=wn (i:=i) ae;have F:zf .i64 ((i:Int)-1)=((i-1:Nat):Int):=by rw[wr _ ae ae];omega
  have G:∀d,((t.take i).map EK).getD (i-1) d=EK q:=by
   intro d;rw[zy,List.getElem?_map,List.getElem?_take_of_lt ae];rw[zy,zu ae]at j;rw[zu ae];have j:t[i-1]=q:=j;rw[j];rfl
  have E:((t.take i).map EK).length=i:=by rw[yr,yk];omega
  rw[Hw]at b;refine zt (Az ..) ?_;conv=>zeta
  rw[A,F,zw,zw,l,G];refine zc (w4 ae) (zc (ad ae ae)<|zc (Af9 hp<|ye _)<|zl (fun c=>zh ?_)<|fun c=>?_)
  ·have c:Fe [p.1,p.2]≠0:=by simpa using c
   have g:On p.1 p.2≠0:=c;rw[wd g]at b;exact a _ _ g b
  ·have c:Fe [p.1,p.2]=0:=by simpa using c
   have g:On p.1 p.2=0:=c;rw[wc<|by rw[g];decide]at b;obtain⟨u,B⟩:=J3 g;have x:=Ih u;have C:=Ih B;have D:=Ih o;have f:Ds (Cw p.1) (EK q).1=EI p.1 q.1:=bX u o;refine zc x.2 (zc C.2<|zc (w4 ae)<|zc (ad ae ae)<|zc (w4 ae)<|zc (Ab x.1 D.1)<|zl (fun d=>zh ?_)<|fun d=>?_)
   ·have d:=w6 d;have d:Ds (Cw p.1) (EK q).1<=0:=d;rw[f]at d;rw[wd d]at b;exact a 11 _ af b
   ·have d:=w7 d;have d:¬Ds (Cw p.1) (EK q).1<=0:=d;rw[f]at d;rw[wc d]at b;have go:=A5 t m v a k r (i+1) (n+1) p J ae y (by rw[yr,yk];omega) (by rw[yg];exact l) u b;rw[<-dC t i p y l]at go;refine zc (Ab (Ab (Ab rfl rfl)<|w4 ae)<|w4 ae) go
theorem ok:Af A4 237 aK:=by
 refine BD xJ<|fun(t:List (Z×Z)) d=>?_;have d:(decide (t.length<=1000)&&GQ 1000000 t)=true:=d;rw[zd,w5]at d;obtain⟨v,hp⟩:=d;have a:∀e ob,e≠0->BN t=e->Ac aK t (.tup [.nil,.dat i64 e]) ob:=fun e ob h k=>yo (y:=([],e)) rfl rfl (by
  show([],e)=(Xi t,BN t);unfold Xi;rw[wd (by rw[k];exact h),k])
 have q:Sp.first [Cv ((t.length:Int)==0) 12,Cv (decide ((t.length:Int)>64)) 5]=if t=[]then 12 else if 64<t.length then 5 else 0:=by
  rw[Kk];by_cases h:t=[]
  ·rw[wd h,h];rfl
  ·have f:((t.length:Int)==0)=false:=by
    have:t.length≠0:=fun k=>h<|yi.1 k
    simp;omega
   rw[wc h,f,wc af];by_cases k:64<t.length
   ·rw[wd k,w4<|show(t.length:Int)>64 by omega];rfl
   ·rw[wc k,w8<|show ¬(t.length:Int)>64 by omega];rfl
 refine ya (Aj t) ?_;conv=>zeta
 rw[q];refine zc rfl (zc rfl (zc rfl ?_));by_cases h:t=[]
 ·rw[wd h];exact zc rfl (zh<|a 12 _ af<|by unfold BN;rw[wd h])
 ·rw[wc h];by_cases k:64<t.length
  ·rw[wd k];exact zc rfl (zh<|a 5 _ af<|by unfold BN;rw[wc h,wd k])
  ·rw[wc k];have g:BN t=DK none t:=by unfold BN;rw[wc h,wc k]
   refine yj rfl ?_;obtain⟨p,r,rfl⟩:∃p r,t=p::r:=by
    cases t with
    |nil=>exact wh rfl h
    |cons p r=>exact⟨p,r,rfl⟩
   have s:(p::r).getD 0 ([],[])=p:=rfl;have i:=LC hp p<|zr ..;refine zt (Ak ..) ?_;conv=>zeta
   rw[show Int.toNat 0=0 from rfl,s];refine zc (w4<|by rw[zj];omega) (zc (Ab rfl (w4<|by rw[zj];omega))<|zc (Af9 i<|ye _)<|zl (fun c=>zh ?_)<|fun c=>?_)
   ·have c:Fe [p.1,p.2]≠0:=by simpa using c
    have b:On p.1 p.2≠0:=c;exact a _ _ b (by rw[g,Gm,wd b];rfl)
   ·have c:Fe [p.1,p.2]=0:=by simpa using c
    have b:On p.1 p.2=0:=c;obtain⟨j,m⟩:=J3 b;have o:=Ih j;have n:=Ih m;have l:zf .i64 ((0:Int)+1)=((1:Nat):Int):=rfl;rw[l];have go:=A5 (Q:=Ac aK (p::r)) (p::r) ae hp (fun e ob f u=>a e ob f<|by rw[g];exact u) (fun h0=>yo (lP rfl rfl) rfl (by
     show(((p::r).take (p::r).length).map EK,(0:Int))=(Xi (p::r),BN (p::r));unfold Xi;rw[g,h0,wc af,List.take_length])) r 1 1 p rfl af (by rw[zj];omega) (by rw[yr,yk,zj];omega) rfl j (by rw[Gm,wc<|by rw[b];decide])
    exact zc o.2<|zc n.2<|yj rfl (zc rfl go)
end T237
theorem wI:CE XT2:=Aa T237.ok Ay
theorem T206.ok:Af A4 206 LH:=by
 refine BD wI<|fun(t:List (Z×Z)) hi=>?_;exact ya (T206.Aj t)<|zc hi<|zh<|yo rfl rfl rfl
theorem vG:CE XT4:=Aa T78.ok<|Aa T32.ok Ay
namespace T112
theorem Ar(t:List AW)(o:t.length<=64)(s:GQ 1000000 t=true)(e:∀ob,Q (.dat i64<|DK none t) ob):
  ∀(r:List AW) (i:Nat),t.drop i=r->i<=t.length->(0<i->An (t.getD (i-1) ([],[])).1=0)->DK none t=DK (PG t i) r->Ends XT4 (L1 t (i:Int)) Q
 |[],i,h,u,g,b=>by
  have:=drop_nil h u;rw[Vv]at b;rw[b]at e;exact zt (Ak ..) (yj (w8 ae)<|zh<|e _)
 |p::r,i,h,u,g,b=>by
  obtain⟨A,m,B⟩:=drop_cons (d:=(([],[]):AW)) h;have z:p∈t:=yp (by rw[h];exact zr ..);obtain⟨l1,l2⟩:=LC s p z;have w:=wn (i:=i) ae;have j:=nb (i:=i) (n:=t.length) ae;have a:=aB p.1 p.2;refine zt (Ak ..) ?_;conv=>zeta
  rw[w,zw,m];refine zc (w4 ae)<|zc j<|zc (w4 l1)<|zl (fun c=>zc j<|zc (w4 l2)<|zl (fun d=>?_)<|fun d=>?_)<|fun c=>?_
  ·have c:An p.1=0:=by simpa using c
   have d:An p.2=0:=by simpa using d
   rw[wc (by rw[c];decide),d]at a;have db:(An p.2 !=0)=false:=by rw[d];rfl
   have n1:=Mi c;have nx:∀v,v=i+1->DK none t=DK (some p) r->Ends XT4 (L1 t ((i+1:Nat):Int)) Q:=fun v _ D=>
    Ar t o s e r (i+1) B A (fun _=>by rw[yg,m];exact c) (by rw[Yd m];exact D)
   by_cases h0:i=0
   ·subst h0;refine yj rfl (yj db<|nx _ rfl ?_);rw[b];show DK none (p::r)=_;rw[Gm,wc<|by rw[a];decide]
   ·have y:zf .i64 ((i:Int)-1)=((i-1:Nat):Int):=by rw[wr _ ae ae];omega
    have g:=g ae;have C:PG t i=some (t.getD (i-1) ([],[])):=by unfold PG;rw[wc h0]
    rw[C,Hw,wc<|by rw[a];decide]at b;rw[y,zw];generalize t.getD (i-1) ([],[])=q at*;have n0:=Mi g;refine zc (w4 ae) (zc (ad ae ae)<|zc j<|zc (Ab (n0.num af)<|n1.Di af)<|zl (fun k=>zc rfl (zh ?_))<|fun k=>yj db<|nx _ rfl ?_)
    ·have k:=w6 k;rw[wd<|(WV _ _).2 k]at b;rw[b]at e;exact e _
    ·have k:=w7 k;rw[wc<|fun x=>k<|(WV _ _).1 x]at b;exact b
  ·have c:An p.1=0:=by simpa using c
   have l:An p.2≠0:=by simpa using d
   rw[wc<|by rw[c];decide]at a;refine zc (by simpa using l)<|zh ?_;have:DK none t=An p.2:=by
    rw[b];cases PG t i with
    |none=>rw[Gm,wd (by rw[a];exact l),a]
    |some q=>rw[Hw,wd (by rw[a];exact l),a]
   rw[<-this];exact e _
  ·have f:An p.1≠0:=by simpa using c
   rw[wd f]at a;have:DK none t=An p.1:=by
    rw[b];cases PG t i with
    |none=>rw[Gm,wd (by rw[a];exact f),a]
    |some q=>rw[Hw,wd (by rw[a];exact f),a]
   refine yj (by simpa using f) (zc (by simpa using f)<|zh ?_);rw[<-this];exact e _
theorem ok:Af A4 112 LH:=by
 refine BD vG<|fun(t:List (Z×Z)) b=>?_;have b:(decide (t.length<=1000)&&GQ 1000000 t)=true:=b;rw[zd,w5]at b;have a:∀e ob,BN t=e->Ac LH t (.dat i64 e) ob:=fun e ob h=>yo rfl rfl h.symm
 unfold BN at a;refine ya (Aj t)<|zl (fun c=>zh<|a _ _ ?_)<|fun c=>zl (fun d=>zh<|a _ _ ?_)<|fun d=>?_
 ·have:t=[]:=yi.1 (by have:(t.length:Int)=0:=(by simpa using c);omega);rw[wd this]
 ·have c:(t.length:Int)≠0:=by simpa using c
  have d:=w6 d;rw[wc (by rintro rfl;exact c rfl),wd ae]
 ·have c:(t.length:Int)≠0:=by simpa using c
  have d:=w7 d;rw[wc (by rintro rfl;exact c rfl),wc ae]at a;exact Ar t ae b.2 (fun ob=>a _ ob rfl) t 0 rfl (Nat.zero_le _) (fun h=>wh h af) rfl
end T112
end Go.Pe
namespace Go.Sp
theorem Ad3{s:Z}(h:A2 s=true){k:Nat}(b:s.length<=k)(d:1<=k):Nu k s (As s):=by
 obtain⟨a,_⟩:=Gc h;have e:(AH<|As s).length<=k:=by rw[a];exact b
 refine⟨a.symm,?_⟩;generalize As s=q at*;have f:(zo q.num.natAbs).length<=(yv q.num).length:=by
  unfold yv;split
  ·rw[zj];omega
  ·rw[show q.num.toNat=q.num.natAbs by omega];exact ye _
 unfold AH at e;split at e
 ·next c=>exact⟨Cs (k:=k) _ ae,by rw[c];exact Lj k ae⟩
 ·rw[zx,zj]at e;exact⟨Cs (k:=k) _ ae,Cs (k:=k) _ ae⟩
theorem HG{s:Z}(h:An s=0){k:Nat}(a:s.length<=k)(b:1<=k):Nu k s (As s):=Ad3 (C0 h).1 a b
def pt(p:AW):Rat×Rat:=(As p.1,As p.2)
theorem pT(t:List AW)(x:Z):LI t x=OC none (t.map pt) (As x):=rfl
theorem Q6(p:Rat×Rat)(l:List (Rat×Rat))(x:Rat):OC none (p::l) x=if p.1<x then OC (some p) l x else p.2:=by rw[OC]
theorem Qd(a b:Rat×Rat)(l:List (Rat×Rat))(x:Rat):OC (some a) (b::l) x=if b.1<x then OC (some b) l x else a.2+(b.2-a.2)*(x-a.1)/(b.1-a.1):=by rw[OC]
theorem TC(p:Rat×Rat)(x:Rat):OC (some p) [] x=p.2:=by rw[OC]
theorem iX(a b c d:Rat):a+b/c*d=a+b*d/c:=by
 rw[Rat.div_def,Rat.div_def,Rat.mul_assoc,Rat.mul_comm c⁻¹ d, <-Rat.mul_assoc]
theorem eB{t:List AW}{x:Z}(h:Yt t x=0):BN t=0/\An x=0:=by
 unfold Yt at h;split at h
 ·next k=>exact wh h k
 ·next k=>exact⟨by omega,h⟩
theorem Ew{t:List AW}(h:BN t=0):t≠[]/\t.length<=64/\DK none t=0:=by
 unfold BN at h;split at h
 ·exact wh h af
 ·next k=>
  split at h
  ·exact wh h af
  ·exact⟨k,by omega,h⟩
theorem HK{q p:AW}{l:List AW}(h:DK (some q) (p::l)=0):An p.1=0/\An p.2=0/\As q.1<As p.1/\DK (some p) l=0:=by
 rw[Hw]at h;split at h
 ·next k=>exact wh h k
 ·next k=>
  split at h
  ·exact wh h af
  ·next d=>
   obtain⟨e,c⟩:=J3 (a:=p.1) (b:=p.2) ae;rw[HY]at d;exact⟨e,c,zz.1 d,h⟩
theorem JS{p:AW}{l:List AW}(h:DK none (p::l)=0):An p.1=0/\An p.2=0/\DK (some p) l=0:=by
 rw[Gm]at h;split at h
 ·next k=>exact wh h k
 ·next k=>
  obtain⟨d,c⟩:=J3 (a:=p.1) (b:=p.2) ae;exact⟨d,c,h⟩
theorem Nt{p q:Rat}(h:q<p):p-q≠0:=fun e=>by
 have:=(Rat.lt_iff_sub_pos q p).1 h;rw[e]at this;exact qd this
end Go.Sp
namespace Go.Pe
open Sp
open Go.Det
theorem uJ:CE XT5:=Aa T32.ok<|Aa T130.ok<|Aa T31.ok<|Aa T74.ok<|Aa T30.ok Ay
namespace T126
theorem Ar(t:List AW)(x:Z)(u:t.length<=64)(v:GQ 100 t=true)(nx:Sp.Nu 600 x (As x))(f:∀ob,Q (.dat .str<|AH<|LI t x) ob):
  ∀(r:List AW) (i:Nat) (q:AW),t.drop i=r->1<=i->i<=t.length->t.getD (i-1) ([],[])=q->Sp.Nu 100 q.1 (As q.1)->Sp.Nu 100 q.2 (As q.2)->DK (some q) r=0->LI t x=OC (some<|Sp.pt q) (r.map Sp.pt) (As x)->Ends XT5 (L1 t x (i:Int)) Q
 |[],i,q,h,A,y,b,n1,g,k,a=>by
  have:=drop_nil h y;have e:i=t.length:=ae
  have o:zf .i64 ((t.length:Int)-1)=((i-1:Nat):Int):=by rw[wr _ ae ae];omega
  have a:LI t x=As q.2:=by rw[a];exact TC _ _
  refine zt (Ak ..) (yj (w8 ae) ?_);rw[o,zw,b];refine zc (ad ae ae)<|zh ?_;have f:=f;rw[a, <-g.t]at f;exact f _
 |p::r,i,q,h,A,y,b,n1,g,k,a=>by
  obtain⟨E,z,F⟩:=drop_cons (d:=(([],[]):AW)) h;have D:p∈t:=yp (by rw[h];exact zr ..);obtain⟨l1,l2⟩:=LC v p D;have C:=wn (i:=i) ae;have o:zf .i64 ((i:Int)-1)=((i-1:Nat):Int):=by rw[wr _ ae ae];omega
  have w:=nb (i:=i) (n:=t.length) ae;obtain⟨G,B,s,k⟩:=HK k;have l:=HG G l1 af;have m:=HG B l2 af;have a:LI t x=if As p.1<As x then OC (some<|Sp.pt p) (r.map Sp.pt) (As x)else As q.2+(As p.2-As q.2)*(As x-As q.1)/(As p.1-As q.1):=by
   rw[a,List.map_cons,Qd];rfl
  have j:=Nt s;refine zt (Ak ..) ?_;conv=>zeta
  rw[C,o,zw,zw,z,b];refine zc (w4 ae) (zc w<|zc (Ab (nx.num af)<|l.Di af)<|zl (fun c=>?_)<|fun c=>?_)
  ·have c:=(Sp.HY _ _).1<|w6 c;rw[wc c]at a;have s1:=m.Hl g;have s2:=l.Hl n1;have s3:=s1.FD s2 j;have s4:=nx.Hl n1;have s5:=s3.EH s4;have s6:=g.B5 s5;have z2:VZ (Hl p.1 q.1)=true:=lM (s2.Di af) (fun e=>j<|(s2.JF af).1 e);refine zc (ad ae ae) (zc w<|zc (Ab (m.num af)<|g.Di af)<|zc (Ab (l.num af)<|n1.Di af) (zc (Ab (s1.num af) z2)<|zc (Ab (nx.num af)<|n1.Di af)<|zc (Ab (s3.num af)<|s4.num af)<|zc (Ab (g.num af)<|s5.num af)<|zh ?_));rw[s6.t,iX, <-a];exact f _
  ·have c:As p.1<As x:=by
    have:=w7 c;rw[Sp.HY]at this;exact zz.1 this
   rw[wd c]at a;exact Ar t x u v nx f r (i+1) p F ae E (by rw[yg];exact z) l m k a
end T126
end Go.Pe
namespace Go.Sp
theorem Bs(x:Int)(l:List Int):first (x::l)=0↔x=0/\first l=0:=by
 rw[first];by_cases h:x=0
 ·simp[h]
 ·simp[h]
theorem oQ{b:Bool}{e:Int}(a:e≠0):Cv b e=0↔b=false:=by
 cases b
 ·exact⟨fun _=>rfl,fun _=>rfl⟩
 ·exact⟨fun h=>wh h a,fun h=>by cases h⟩
theorem Gj{a:Bx}{lo b:Int}(h:BQ a lo b=0):An a=0/\(lo:Rat)<=As a/\As a<=(b:Rat):=by
 unfold BQ at h;by_cases k:An a=0
 ·rw[wc<|by simpa using k]at h;split at h
  ·exact wh h af
  ·next d=>
   rw[not_or]at d;exact⟨k,yw.1 d.1,yw.1 d.2⟩
 ·rw[wd k]at h;exact wh h k
structure eE(s:Bn):Prop where
 rise:An s.1=0
 wind:An s.2.1=0
 lay:An s.2.2.1=0
 roll:An s.2.2.2.1=0
 riseB:(-10000:Rat)<=As s.1/\As s.1<=10000
 windB:(-10000:Rat)<=As s.2.1/\As s.2.1<=10000
 layB:0<=As s.2.2.1/\As s.2.2.1<=10000
 rollB:0<=As s.2.2.2.1/\As s.2.2.2.1<=10000
 len:s.2.2.2.2.length<=16
 obs:∀o∈s.2.2.2.2,0<=o.2/\o.2<=10
theorem Wn:∀ {l:List EB},hZ l=0->∀o∈l,0<=o.2/\o.2<=10
 |[],_,o,a=>by cases a
 |x::l,h,o,a=>by
  unfold hZ at h;split at h
  ·exact wh h af
  ·split at h
   ·exact wh h af
   ·next d=>
    rcases ym.1 a with rfl|a
    ·omega
    ·exact Wn h o a
theorem qK{s:Bn}(h:Ly s=0):eE s:=by
 unfold Ly at h;by_cases k:UU s=0
 ·rw[wc<|by simpa using k]at h;unfold UU at k;rw[Bs,Bs,Bs,Bs,Bs]at k;obtain⟨e,d,c,b,a,_⟩:=k;rw[oQ af]at a;have a:=w7 a;obtain⟨a1,a2,a3⟩:=Gj e;obtain⟨b1,b2,b3⟩:=Gj d;obtain⟨c1,c2,c3⟩:=Gj c;obtain⟨d1,d2,d3⟩:=Gj b;exact⟨a1,b1,c1,d1,⟨a2,a3⟩,⟨b2,b3⟩,⟨c2,c3⟩,⟨d2,d3⟩,by omega,Wn h⟩
 ·rw[wd k]at h;exact wh h k
theorem Sz:∀ {l:List Bn},Jd l=0->∀s∈l,Ly s=0
 |[],_,s,a=>by cases a
 |x::l,h,s,a=>by
  unfold Jd at h;by_cases k:Ly x=0
  ·rw[wc<|by simpa using k]at h;rcases ym.1 a with rfl|a
   ·exact k
   ·exact Sz h s a
  ·rw[wd k]at h;exact wh h k
theorem Sw{n:Int}:∀ {l:List B3} {seen:List Bx},F8 n seen l=0->∀t∈l,(t.2.length:Int)=n/\Ey t.2=false
 |[],_,_,t,a=>by cases a
 |x::l,seen,h,t,a=>by
  unfold F8 at h;split at h
  ·exact wh h af
  ·split at h
   ·exact wh h af
   ·split at h
    ·exact wh h af
    ·next k=>
     split at h
     ·exact wh h af
     ·next d=>
      rcases ym.1 a with rfl|a
      ·exact⟨zz.1 k,by simpa using d⟩
      ·exact Sw h t a
theorem XO{l:List Int}(h:Ey l=false):∀n∈l,1<=n/\n<=10000:=by
 intro n a;unfold Ey at h;rw[List.any_eq_false]at h;have:=h n a;rw[Bool.or_eq_true,w5,w5]at this;omega
theorem So:∀ {l:List Bm} {seen:List Bx},LQ seen l=0->∀x∈l,J8 x=0
 |[],_,_,x,a=>by cases a
 |y::l,seen,h,x,a=>by
  unfold LQ at h;by_cases k:J8 y=0
  ·rw[wc<|by simpa using k]at h;split at h
   ·exact wh h af
   ·rcases ym.1 a with rfl|a
    ·exact k
    ·exact So h x a
  ·rw[wd k]at h;exact wh h k
theorem WM:∀ {l:List AW} {seen:List Bx},Zw seen l=0->(∀w∈l,An w.2=0/\0<=As w.2/\w.1∉seen)/\(l.map Prod.fst).Nodup
 |[],_,_=>⟨fun w hw=>(by cases hw),List.nodup_nil⟩
 |x::l,seen,h=>by
  unfold Zw at h;split at h
  ·exact wh h af
  ·split at h
   ·exact wh h af
   ·next a=>
    have a:x.1∉seen:=by
     unfold has at a;simpa using a
    by_cases k:An x.2=0
    ·rw[wc<|by simpa using k]at h;split at h
     ·exact wh h af
     ·next d=>
      obtain⟨b,g⟩:=WM h;refine⟨fun w hw=>?_,?_⟩
      ·rcases ym.1 hw with rfl|hw
       ·exact⟨k,yw.1 d,a⟩
       ·obtain⟨i,c,j⟩:=b w hw;exact⟨i,c,fun x=>j<|yf _ x⟩
      ·rw[List.map_cons,List.nodup_cons];refine⟨fun f=>?_,g⟩;obtain⟨w,hw,e⟩:=List.mem_map.1 f;exact(b w hw).2.2 (by rw[e];exact zr ..)
    ·rw[wd k]at h;exact wh h k
structure kQ(l:Bm):Prop where
 head:An l.2.1=0
 next:An l.2.2.1=0
 headB:(1:Rat)<=As l.2.1/\As l.2.1<=10000
 nextB:(1:Rat)<=As l.2.2.1/\As l.2.2.1<=10000
 tab:BN l.2.2.2.1=0
 up:SM none l.2.2.2.1=0
 wlen:l.2.2.2.2.length<=16
 wts:∀w∈l.2.2.2.2,An w.2=0/\0<=As w.2
 one:(l.2.2.2.2.map Prod.fst).Nodup
theorem nH{l:Bm}(h:J8 l=0):kQ l:=by
 unfold J8 at h;by_cases k:Mj l=0
 ·rw[wc<|by simpa using k]at h;by_cases u:SM none l.2.2.2.1=0
  ·rw[wc<|by simpa using u]at h;unfold Mj at k;rw[Bs,Bs,Bs,Bs]at k;obtain⟨_,g,e,c,_⟩:=k;obtain⟨a1,a2,a3⟩:=Gj g;obtain⟨b1,b2,b3⟩:=Gj e;unfold OA at h;split at h
   ·exact wh h af
   ·next d=>
    obtain⟨b,f⟩:=WM h;exact⟨a1,b1,⟨a2,a3⟩,⟨b2,b3⟩,c,u,by omega,fun w a=>⟨(b w a).1,(b w a).2.1⟩,f⟩
  ·rw[wd u]at h;exact wh h u
 ·rw[wd k]at h;exact wh h k
structure XX(c:AF):Prop where
 s1:c.1≠[]/\c.1.length<=36
 t1:c.2.1≠[]/\c.2.1.length<=8
 l1:c.2.2≠[]/\c.2.2.length<=8
 st:∀s∈c.1,eE s
 te:∀t∈c.2.1,t.2.length=c.1.length/\∀n∈t.2,1<=n/\n<=10000
 lv:∀l∈c.2.2,kQ l
theorem WT{c:AF}(h:NX c=0):XX c:=by
 unfold NX at h;split at h
 ·exact wh h af
 next a1=>
 split at h
 ·exact wh h af
 next a2=>
 split at h
 ·next k=>exact wh h k
 next a3=>
 unfold Uc at h;split at h
 ·exact wh h af
 next i=>
 split at h
 ·exact wh h af
 next n=>
 split at h
 ·next k=>exact wh h k
 next a=>
 unfold OD at h;split at h
 ·exact wh h af
 next d=>
 split at h
 ·exact wh h af
 next j=>
 have a3:Jd c.1=0:=zz.1 a3;have a:F8 (c.1.length:Int) [] c.2.1=0:=zz.1 a;refine⟨⟨a1,by omega⟩,⟨i,by omega⟩,⟨d,by omega⟩,fun s e=>qK<|Sz a3 s e,fun t g=>?_,fun l f=>nH<|So h l f⟩;obtain⟨m,b⟩:=Sw a t g;exact⟨by omega,XO b⟩
theorem Fo{α:Type}{l:List α}{i:Nat}{d:α}(h:i<l.length):l.getD i d∈l:=by
 rw[zy,zu h];exact List.getElem_mem h
theorem DJ{i n:Int}(h:Lo i n=false):0<=i/\i<n:=by
 unfold Lo at h;rw[z6,w9,w9]at h;omega
theorem JL{c:AF}{b:Bool}(h:JG c b=0):NX c=0/\b=false:=by
 unfold JG at h;split at h
 ·next k=>exact wh h k
 ·next k=>
  split at h
  ·exact wh h af
  ·next d=>exact⟨zz.1 k,by simpa using d⟩
theorem MX{c:AF}(h:IS c=true):c.1.length<=38/\c.2.1.length<=10/\c.2.2.length<=10/\(∀s∈c.1,Bt s=true)/\(∀t∈c.2.1,CM t=true)/\(∀l∈c.2.2,Bh l=true):=by
 unfold IS at h;rw[zd,zd,zd,zd,zd,w5,w5,w5,zm,zm,zm]at h;obtain⟨⟨⟨⟨⟨a,g⟩,b⟩,d⟩,f⟩,e⟩:=h;exact⟨a,g,b,d,f,e⟩
theorem Q9{c:AF}(h:bD c=true):c.1.length<=38/\c.2.1.length<=10/\c.2.2.length<=10/\(∀s∈c.1,Bt s=true)/\(∀t∈c.2.1,Wd t=true)/\(∀l∈c.2.2,Mr l=true):=by
 unfold bD at h;rw[zd,zd,zd,zd,zd,w5,w5,w5,zm,zm,zm]at h;obtain⟨⟨⟨⟨⟨a,g⟩,b⟩,d⟩,f⟩,e⟩:=h;exact⟨a,g,b,d,f,e⟩
theorem OI{s:Bn}(h:Bt s=true):s.1.length<=20/\s.2.1.length<=20/\s.2.2.1.length<=20/\s.2.2.2.1.length<=20/\s.2.2.2.2.length<=20:=by
 unfold Bt at h;rw[zd,zd,zd,zd,w5,w5,w5,w5,w5]at h;obtain⟨⟨⟨⟨a,e⟩,b⟩,d⟩,c⟩:=h;exact⟨a,e,b,d,c⟩
theorem OZ{l:List AW}{n m:Nat}(h:HO l n m=true):∀p∈l,p.1.length<=n/\p.2.length<=m:=by
 intro p hp;unfold HO at h;rw[zm]at h;have:=h p hp;rwa [zd,w5,w5]at this
structure wM(l:Bm):Prop where
 name:l.1.length<=40
 head:l.2.1.length<=20
 next:l.2.2.1.length<=20
 tl:l.2.2.2.1.length<=70
 wl:l.2.2.2.2.length<=20
 tab:∀p∈l.2.2.2.1,p.1.length<=20/\p.2.length<=20
 wts:∀p∈l.2.2.2.2,p.1.length<=40/\p.2.length<=20
theorem Ud{l:Bm}(h:Bh l=true):wM l:=by
 unfold Bh at h;rw[zd,zd,zd,zd,zd,zd,w5,w5,w5,w5,w5]at h;obtain⟨⟨⟨⟨⟨⟨a,g⟩,b⟩,c⟩,f⟩,d⟩,e⟩:=h;exact⟨a,g,b,c,f,OZ d,OZ e⟩
theorem TL{c:AF}{h:Int}(b:XX c)(a:IS c=true)(d:VK c h=false):eE (BH c h)/\Bt (BH c h)=true:=by
 obtain⟨h0,e⟩:=DJ d;have m:BH c h∈c.1:=Fo ae;exact⟨b.st _ m,(MX a).2.2.2.1 _ m⟩
theorem vM{c:AF}{l:Int}(b:XX c)(a:IS c=true)(d:Ox c l=false):kQ (CW c l)/\wM (CW c l):=by
 obtain⟨h0,e⟩:=DJ d;have m:CW c l∈c.2.2:=Fo ae;exact⟨b.lv _ m,Ud<|(MX a).2.2.2.2.2 _ m⟩
theorem AaG{c:AF}{t h:Int}(b:XX c)(d:VP c t=false)(a:VK c h=false):1<=Hk c t h/\Hk c t h<=10000/\(c.2.1.getD t.toNat ([],[])).2.length=c.1.length:=by
 obtain⟨t0,t1⟩:=DJ d;obtain⟨h0,h1⟩:=DJ a;have m:c.2.1.getD t.toNat ([],[])∈c.2.1:=Fo ae;obtain⟨e1,e2⟩:=b.te _ m;have e:Hk c t h∈(c.2.1.getD t.toNat ([],[])).2:=Fo ae;have:=e2 _ e;exact⟨this.1,this.2,e1⟩
structure AhA(l:Bm):Prop where
 head:l.2.1.length<=20
 next:l.2.2.1.length<=20
 tl:l.2.2.2.1.length<=70
 tab:∀p∈l.2.2.2.1,p.1.length<=20/\p.2.length<=20
 wts:∀p∈l.2.2.2.2,p.2.length<=20
theorem AaA{l:Bm}(h:Mr l=true):AhA l:=by
 unfold Mr at h;rw[zd,zd,zd,zd,w5,w5,w5,zm]at h;obtain⟨⟨⟨⟨a,e⟩,b⟩,c⟩,d⟩:=h;exact⟨a,e,b,OZ c,fun p hp=>w6<|d p hp⟩
theorem uV{l:Bm}(h:Bh l=true):Mr l=true:=by
 have k:=Ud h;unfold Bh at h;rw[zd,zd]at h;unfold Mr;rw[w4 k.head,w4 k.next,w4 k.tl,h.1.2,zm.2 fun p hp=>w4 (k.wts p hp).2];rfl
theorem Acq{c:AF}(h:IS c=true):bD c=true:=by
 obtain⟨a,j,b,d,i,f⟩:=MX h;unfold bD;rw[w4 a,w4 j,w4 b,zm.2 d,zm.2<|fun l e=>uV<|f l e,zm.2<|fun t g=>?_]
 ·rfl
 ·have:=i t g;unfold CM at this;rw[zd,w5,w5]at this;exact w4 ae
theorem jN(q:Rat):YH (AH q)=max (zo q.num.natAbs).length (zo q.den).length:=by
 unfold YH;rw[(FL q).1,(DB q.num).2.1,Wy]
theorem lN{s:Z}(h:An s=0):Nu (YH s) s (As s):=by
 obtain⟨n,_⟩:=C0 h;have e:=(Gc n).1;have a:=jN<|As s;rw[e]at a;exact⟨e.symm,Cs _ (by rw[a];exact Nat.le_max_left ..),Cs _<|by rw[a];exact Nat.le_max_right ..⟩
theorem Br(x:Int)(l:List Int):first (x::l)=if x≠0 then x else first l:=by
 by_cases h:x=0
 ·subst h;rw[wc (by simp),first];rfl
 ·rw[wd h,first];simp[h]
theorem E5(b:Bool)(e:Int):Cv b e=if b=true then e else 0:=by cases b<;>rfl
theorem Dp{α:Type}{l r:List α}{x:α}{i:Nat}(h:l.drop i=x::r):l.take (i+1)=l.take i++[x]:=by
 have a:i<l.length:=by
  rcases Nat.lt_or_ge i l.length with b|b
  ·exact b
  ·rw[List.drop_eq_nil_of_le b]at h;cases h
 have c:=List.drop_eq_getElem_cons a;rw[h]at c;simp only[List.cons.injEq]at c;rw[List.take_add_one,zu a,c.1];rfl
end Go.Sp
namespace Go.Pe
open Sp
open Go.Det
structure RS(k:Nat)(f:Ae)(q:Rat):Prop where
 r:Fk f q
 z:CZ k q
theorem RS.mono{i j:Nat}{f:Ae}{q:Rat}(h:RS i f q)(k:i<=j):RS j f q:=⟨h.r,h.z.mono k⟩
theorem RS.s{k:Nat}{f:Ae}{q:Rat}(h:RS k f q)(a:k<=4000):Mm 4000 q:=TP h.z a
theorem RS.Cq{k:Nat}{f:Ae}{q:Rat}(h:RS k f q)(a:k<=4000):yx f=true:=h.r.Cq<|h.s a
theorem RS.Ch{k:Nat}{f:Ae}{q:Rat}(h:RS k f q)(a:k<=4000):Sp.Ch f=true:=h.r.Ch<|h.s a
theorem RS.Ph{i j:Nat}{f g:Ae}{p q:Rat}(a:RS i f p)(c:RS j g q)(b:i<=4000)(d:j<=4000):(yx f&&yx g)=true:=Ab (a.Cq b)<|c.Cq d
theorem RS.add{i j:Nat}{f g:Ae}{p q:Rat}(a:RS i f p)(b:RS j g q)(c:i<=4000)(d:j<=4000):RS (i+j+1) (B0 f g) (p+q):=⟨Fk.add a.r b.r (a.s c)<|b.s d,a.z.add b.z⟩
theorem RS.sub{i j:Nat}{f g:Ae}{p q:Rat}(a:RS i f p)(b:RS j g q)(c:i<=4000)(d:j<=4000):RS (i+j+1) (Gs f g) (p-q):=⟨Fk.sub a.r b.r (a.s c)<|b.s d,a.z.sub b.z⟩
theorem RS.mul{i j:Nat}{f g:Ae}{p q:Rat}(a:RS i f p)(b:RS j g q)(c:i<=4000)(d:j<=4000):RS (i+j) (FO f g) (p*q):=⟨Fk.mul a.r b.r (a.s c)<|b.s d,a.z.mul b.z⟩
theorem RS.div{i j:Nat}{f g:Ae}{p q:Rat}(b:RS i f p)(a:RS j g q)(d:i<=4000)(c:j<=4000)(h0:q≠0):RS (i+j) (Lp f g) (p/q):=⟨Fk.div b.r a.r (b.s d) (a.s c) (TP (a.z.inv h0) c) h0,b.z.div a.z h0⟩
theorem RS.ok3{i j:Nat}{f g:Ae}{p q:Rat}(b:RS i f p)(a:RS j g q)(c:i<=4000)(d:j<=4000)(h0:q≠0):(yx f&&yx g&&decide (Sp.vI g.1≠0))=true:=Ab (b.Ph a c d)<|a.r.Jl.trans<|w4 h0
theorem RS.cmp{i j:Nat}{f g:Ae}{p q:Rat}(a:RS i f p)(b:RS j g q):Ds f g=if p<q then -1 else if q<p then 1 else 0:=Fk.cmp a.r b.r
theorem RS.HY{i j:Nat}{f g:Ae}{p q:Rat}(a:RS i f p)(b:RS j g q):Ds f g<=0↔p<=q:=by
 rw[a.cmp b];by_cases h:p<q
 ·rw[wd h];exact⟨fun _=>Rat.le_of_lt h,fun _=>by decide⟩
 ·rw[wc h];by_cases k:q<p
  ·rw[wd k];exact⟨fun x=>wh x af,fun x=>wh k<|yw.2 x⟩
  ·rw[wc k];exact⟨fun _=>yw.1 k,fun _=>by decide⟩
theorem RS.kD{i j:Nat}{f g:Ae}{p q:Rat}(a:RS i f p)(b:RS j g q):Ds f g<0↔p<q:=by
 rw[a.cmp b];by_cases h:p<q
 ·rw[wd h];exact⟨fun _=>h,fun _=>by decide⟩
 ·rw[wc h];by_cases k:q<p
  ·rw[wd k];exact⟨fun x=>wh x af,fun x=>wh x h⟩
  ·rw[wc k];exact⟨fun x=>wh x af,fun x=>wh x h⟩
theorem RS.No{i j:Nat}{f g:Ae}{p q:Rat}(a:RS i f p)(b:RS j g q):Ds f g>0↔q<p:=by
 have h:=a.HY b;constructor
 ·intro k;exact Rat.not_le.1 fun x=>by have:=h.2 x;omega
 ·intro k;have:¬Ds f g<=0:=fun x=>Rat.not_le.2 k<|h.1 x
  omega
theorem RS.cmp_eq{i j:Nat}{f g:Ae}{p q:Rat}(a:RS i f p)(b:RS j g q):Ds f g=0↔p=q:=by
 rw[a.cmp b];exact Vt p q
theorem RS.Og{k:Nat}{f:Ae}{q:Rat}(h:RS k f q):(Rz f<0↔q<0)/\(Rz f=0↔q=0):=by
 have e:Rz f=Sp.Og q.num:=by unfold Rz;rw[h.r.vn]
 have n1:=Sp.neg_num q;rw[e];unfold Sp.Og;constructor
 ·rw[<-n1.1];split
  ·next c=>exact⟨fun _=>c,fun _=>by decide⟩
  ·next c=>
   split
   ·exact⟨fun x=>wh x af,fun x=>wh x c⟩
   ·exact⟨fun x=>wh x af,fun x=>wh x c⟩
 ·split
  ·next c=>exact⟨fun x=>wh x af,fun x=>wh (n1.1.1 c)<|by rw[x];exact qd⟩
  ·next c=>
   split
   ·next d=>exact⟨fun x=>wh x af,fun x=>wh (n1.2.1 d)<|by rw[x];exact qd⟩
   ·next d=>exact⟨fun _=>y8.1 ae,fun _=>rfl⟩
theorem RS.Dy{k:Nat}{f:Ae}{q:Rat}(h:RS k f q):Sp.Dy f.1=true:=h.r.n
theorem Wv{s:Z}(h:An s=0):RS (Sp.YH s) (Cw s) (As s):=⟨Jt (C0 h).1,(lN h).z⟩
theorem El{s:Z}(h:An s=0){k:Nat}(a:s.length<=k)(b:1<=k):RS k (Cw s) (As s):=⟨Jt (C0 h).1,(HG h a b).z⟩
theorem NF{n:Int}{k:Nat}(h:n.natAbs<10^k)(b:1<=k)(a:k<=18):RS k ((n,BL n),(1,BL 1)) (n:Rat):=by
 have hp:10^k<=10^18:=yn af a;have c:10^1<=10^k:=yn af b;have hr:Ct n=true:=by
  unfold Ct;exact ad ae ae
 refine⟨Ae4 n hr,?_,?_⟩
 ·rw[Rat.num_intCast];exact h
 ·rw[Rat.den_intCast];omega
theorem Gb:RS 1 ((0,BL 0),(1,BL 1)) 0:=NF (n:=0) af af af
theorem kW{k:Nat}{f:Ae}{q:Rat}(h:RS k f q){e:Int}(a:e=0):(Kv f,IM f)=(XJ e q,Yb e q):=AcC h.r a
end Go.Pe
namespace Go.Sp
theorem Yj(s:Bn)(n:Int):plV s n=if (n:Rat)+(As s.1+As s.2.1+As s.2.2.1)<0 then 0 else(n:Rat)+(As s.1+As s.2.1+As s.2.2.1):=rfl
theorem P8(ws:List AW)(o:EB)(l:List EB):obV ws (o::l)=lookW ws o.1*((o.2:Rat)/10)+obV ws l:=by rw[obV]
theorem Kf(k:Bx):∀ws:List AW,lookW ws k=match ws.find? fun w=>decide (w.1=k)with
  |some w=>As w.2
  |none=>0
 |[]=>rfl
 |w::l=>by
  rw[lookW,List.find?_cons];by_cases h:w.1=k
  ·rw[wd h,w4 h]
  ·rw[wc h,w8 h];exact Kf k l
end Go.Sp
namespace Go.Pe
open Sp
open Go.Det
open Go.Sp (AF Bn Bm AW EB Bx)
structure HoR(s:Bn):Prop where
 rise:RS 20 (Cw s.1) (As s.1)
 wind:RS 20 (Cw s.2.1) (As s.2.1)
 lay:RS 20 (Cw s.2.2.1) (As s.2.2.1)
 roll:RS 20 (Cw s.2.2.2.1) (As s.2.2.2.1)
theorem jS{s:Bn}(h:eE s)(k:Sp.Bt s=true):HoR s:=by
 obtain⟨d,c,b,a,_⟩:=OI k;exact⟨El h.rise d af,El h.wind c af,El h.lay b af,El h.roll a af⟩
structure LvR(l:Bm):Prop where
 head:RS 20 (Cw l.2.1) (As l.2.1)
 next:RS 20 (Cw l.2.2.1) (As l.2.2.1)
 hp:0<As l.2.1
 np:0<As l.2.2.1
 wts:∀w∈l.2.2.2.2,RS 20 (Cw w.2) (As w.2)
theorem VO:(0:Rat)<1:=by decide+kernel
theorem Ac4{l:Bm}(h:kQ l)(k:wM l):LvR l:=
 ⟨El h.head k.head af,El h.next k.next af,Std.lt_of_lt_of_le VO h.headB.1,Std.lt_of_lt_of_le VO h.nextB.1,fun w a=>El (h.wts w a).1 (k.wts w a).2 af⟩
structure AtP(c:AF)(t h:Int):Prop where
 co:XX c
 sh:IS c=true
 t0:0<=t/\t<(c.2.1.length:Int)
 h0:0<=h/\h<(c.1.length:Int)
 te:1<=Hk c t h/\Hk c t h<=10000
 tl:(c.2.1.getD t.toNat ([],[])).2.length=c.1.length
 st:eE (BH c h)
 hr:HoR (BH c h)
theorem Tw{c:AF}{t h:Int}(k:Sp.okP c t h=true):AtP c t h:=by
 unfold Sp.okP at k;rw[zd,w5]at k;obtain⟨sh,e⟩:=k;obtain⟨e1,e2⟩:=JL e;rw[z6]at e2;have co:=WT e1;obtain⟨s1,s2⟩:=TL co sh e2.2;obtain⟨t1,t2,t3⟩:=AaG co e2.1 e2.2;exact⟨co,sh,DJ e2.1,DJ e2.2,⟨t1,t2⟩,t3,s1,jS s1 s2⟩
structure AtL(c:AF)(l:Int):Prop where
 co:XX c
 sh:IS c=true
 l0:0<=l/\l<(c.2.2.length:Int)
 lv:kQ (CW c l)
 ls:wM (CW c l)
 lr:LvR (CW c l)
theorem XD{c:AF}{t h l:Int}(k:VI c t h l=true):Sp.okP c t h=true/\Sp.okO c h l=true:=by
 unfold VI at k;rw[zd,w5]at k;obtain⟨sh,e⟩:=k;obtain⟨e1,e2⟩:=JL e;rw[z6,z6]at e2;have mk:∀b:Bool,b=false->JG c b=0:=fun b a=>by
  unfold JG;rw[wc (by simpa using e1),a];rfl
 exact⟨Ab sh (w4<|mk _<|by rw[e2.1,e2.2.1];rfl),Ab sh<|w4<|mk _<|by rw[e2.2.1,e2.2.2];rfl⟩
theorem MU{c:AF}{h l:Int}(k:Sp.okO c h l=true):AtL c l/\(0<=h/\h<(c.1.length:Int))/\eE (BH c h)/\HoR (BH c h):=by
 unfold Sp.okO at k;rw[zd,w5]at k;obtain⟨sh,e⟩:=k;obtain⟨e1,e2⟩:=JL e;rw[z6]at e2;have co:=WT e1;obtain⟨l1,l2⟩:=vM co sh e2.2;obtain⟨s1,s2⟩:=TL co sh e2.1;exact⟨⟨co,sh,DJ e2.2,l1,l2,Ac4 l1 l2⟩,DJ e2.1,s1,jS s1 s2⟩
theorem mG{n:Int}(h:1<=n/\n<=10000):RS 5 (Sp.iF n) (n:Rat):=NF ae af af
theorem iZ{c:AF}{t h:Int}(k:AtP c t h):RS 70 (qN c t h) ((Hk c t h:Rat)+(As (BH c h).1+As (BH c h).2.1+As (BH c h).2.2.1)):=by
 have z:RS 1 Sp.zF 0:=Gb;have a1:=z.add k.hr.rise af af;have a2:=a1.add k.hr.wind af af;have a3:=a2.add k.hr.lay af af;have a4:=(mG k.te).add a3 af af;rw[yz]at a4;exact a4.mono af
theorem kF{c:AF}{t h:Int}(k:AtP c t h):RS 70 (Tj c t h) (MF c t h):=by
 have a:=iZ k;unfold Tj MF;rw[Yj];by_cases s:Rz (qN c t h)<0
 ·rw[wd s,wd<|a.Og.1.1 s];exact(Gb).mono af
 ·rw[wc s,wc fun x=>s<|a.Og.1.2 x];exact a
theorem OT{a b:Rat}(c:0<a)(d:0<=b):0<a+b:=ah
theorem qB{c:AF}{t h l:Int}(k:VI c t h l=true):RS 194 (bM c t h l) (R3 c t h l):=by
 obtain⟨kp,ko⟩:=XD k;have P:=Tw kp;obtain⟨L,_,_,_⟩:=MU ko;have p:=kF P;have r:=P.hr.roll;have a:=P.st.rollB.1;have reach:=L.lr.head.add r af af;have b:=L.lr.next.add r af af;have h0:As (CW c l).2.1+As (BH c h).2.2.2.1≠0:=Rat.ne_of_gt<|OT L.lr.hp a;have n0:As (CW c l).2.2.1+As (BH c h).2.2.2.1≠0:=Rat.ne_of_gt<|OT L.lr.np a;unfold bM R3 dV ID Wh KV;by_cases s:Ds (Tj c t h) (B0 (Cw (CW c l).2.1)<|Cw (BH c h).2.2.2.1)<=0
 ·rw[wd s,wd<|(p.HY reach).1 s];exact((p.mul L.lr.head af af).div reach af af h0).mono af
 ·rw[wc s,wc fun x=>s<|(p.HY reach).2 x];have d:=p.sub reach af af;have m:=d.mul L.lr.next af af;have q:=m.div b af af n0;exact(L.lr.head.add q af af).mono af
theorem LY{n:Int}(h:0<=n/\n<=10):RS 2 (SJ (n,BL n) (10,BL 10)) ((n:Rat)/10):=by
 have a:Ct n=true:=by
  unfold Ct;exact ad ae ae
 obtain⟨a1,a2⟩:=G0 a;obtain⟨b1,b2⟩:=G0 (n:=10) rfl;have r:=Ka a1 b1 (by rw[b2];decide);rw[a2,b2]at r;have e:z8 n 10=(n:Rat)/10:=by rw[Rat.divInt_eq_div];rfl
 rw[e]at r;exact⟨r,by rw[<-e];exact Ii af ae af⟩
theorem iM{ws:List AW}(c:∀w∈ws,RS 20 (Cw w.2)<|As w.2):∀ {l:List EB} {K:Nat} {f:Ae} {q:Rat},(∀o∈l,0<=o.2/\o.2<=10)->RS K f q->K+23*l.length<=4000->RS (K+23*l.length) (Wp ws f l) (q+Sp.obV ws l)
 |[],K,f,q,_,b,_=>by
  show RS K f<|q+0;rw[Rat.add_zero];exact b
 |o::l,K,f,q,e,b,i=>by
  rw[zj]at i ⊢;have h:=e o<|zr ..;have g:=fun x j=>e x<|yf _ j
  rw[P8,Kf,Wp];cases d:ws.find? fun w=>decide (w.1=o.1)with
  |none=>
   simp only;rw[Rat.zero_mul,yz];exact(iM c g b ae).mono ae
  |some w=>
   simp only;have k:=List.mem_of_find?_eq_some d;have m:=(c w k).mul (LY h) af af;have a:=b.add m ae af;have:=iM c (l:=l) g a ae;rw[<-Rat.add_assoc];exact this.mono ae
theorem XE{c:AF}{h l:Int}(k:Sp.okO c h l=true):RS 369 (Sp.obF c h l) (tL c h l):=by
 obtain⟨L,_,S,_⟩:=MU k;have:=iM L.lr.wts (K:=1) (f:=Sp.zF) (q:=0) S.obs Gb (by have:=S.len;omega);rw[yz]at this;exact this.mono (by have:=S.len;omega)
theorem AcE{u v a b:Rat}(h:a<b):u+(v-u)*(b-a)/(b-a)=v:=by
 have h0:b-a≠0:=Nt h;rw[Rat.mul_div_cancel h0];grind
theorem oV{x:Ae}{X:Rat}{K:Nat}(b:RS K x X)(t:K<=2000):∀(l:List AW) (o:Option AW),(o=none->l≠[])->(∀q,o=some q->RS 20 (Cw q.1) (As q.1)/\RS 20 (Cw q.2) (As q.2))->(∀p∈l,p.1.length<=20/\p.2.length<=20)->DK o l=0->RS (K+145) (uD o l x) (OC (o.map Sp.pt) (l.map Sp.pt) X)
 |[],none,h,_,_,_=>wh rfl (h rfl)
 |[],some q,_,f,_,_=>by
  rw[uD];show RS _ _<|OC (some<|Sp.pt q) [] X;rw[TC];exact(f q rfl).2.mono ae
 |p::l,none,_,_,i,m=>by
  obtain⟨s,k,n⟩:=JS m;obtain⟨l1,l2⟩:=i p<|zr ..;have a:=El s l1 af;have g:=El k l2 af;show RS _ _<|OC none (Sp.pt p::l.map Sp.pt) X;rw[Q6,uD];by_cases c:Ds x (Cw p.1)>0
  ·rw[wd c,wd<|show(Sp.pt p).1<X from(b.No a).1 c];exact oV b t l (some p) (fun h=>by cases h) (fun q f=>by cases f;exact⟨a,g⟩) (fun y r=>i y<|yf _ r) n
  ·rw[wc c,wc<|show ¬(Sp.pt p).1<X from fun h=>c<|(b.No a).2 h];exact g.mono ae
 |p::l,some q,_,f,i,m=>by
  obtain⟨s,k,j,n⟩:=HK m;obtain⟨l1,l2⟩:=i p<|zr ..;obtain⟨q1,q2⟩:=f q rfl;have a:=El s l1 af;have g:=El k l2 af;show RS _ _<|OC (some<|Sp.pt q) (Sp.pt p::l.map Sp.pt) X;rw[Qd,uD];by_cases c:Ds x (Cw p.1)>0
  ·rw[wd c,wd<|show(Sp.pt p).1<X from(b.No a).1 c];exact oV b t l (some p) (fun h=>by cases h) (fun q f=>by cases f;exact⟨a,g⟩) (fun y r=>i y<|yf _ r) n
  ·rw[wc c,wc<|show ¬(Sp.pt p).1<X from fun h=>c<|(b.No a).2 h];by_cases d:Ds x (Cw p.1)=0
   ·rw[wd d];have e:X=(Sp.pt p).1:=(b.cmp_eq a).1 d;rw[e,AcE<|show(Sp.pt q).1<(Sp.pt p).1 from j];exact g.mono ae
   ·rw[wc d];have s1:=g.sub q2 af af;have s2:=b.sub q1 ae af;have s3:=s1.mul s2 af ae;have s4:=a.sub q1 af af;have s5:=s3.div s4 ae af<|Nt j;exact(q2.add s5 af ae).mono ae
theorem qT{t:List AW}{x:Ae}{X:Rat}{K:Nat}(g:RS K x X)(c:K<=2000)(d:BN t=0)(e:∀p∈t,p.1.length<=20/\p.2.length<=20):RS (K+145) (Sp.vlF t x) (OC none (Adh t) X):=by
 obtain⟨a,_,b⟩:=Ew d;exact oV g c t none (fun _=>a) (fun q f=>by cases f) e b
theorem AfL{c:AF}{t h l:Int}(k:VI c t h l=true):RS 709 (dY c t h l) (Jx c t h l):=by
 obtain⟨_,ko⟩:=XD k;obtain⟨L,_,_,_⟩:=MU ko;exact((qT (qB k) af L.lv.tab L.ls.tab).add (XE ko) af af).mono af
end Go.Pe
namespace Go.Sp
def OkY(t:List AW)(x:Ae):Prop:=BN t=0/\(∀p∈t,p.1.length<=20/\p.2.length<=20)/\∃X,Go.Pe.RS 300 x X
def okY(t:List AW)(x:Ae):Bool:=@decide (OkY t x) (zk _)
theorem Ady{t:List AW}{x:Ae}(h:okY t x=true):OkY t x:=@w6 _ (zk _) h
theorem AcG{t:List AW}{x:Ae}(h:OkY t x):okY t x=true:=@w4 _ (zk _) h
end Go.Sp
namespace Go.Pe
open Sp
open Go.Det
def Af2:Am:=⟨[.list Ca,Au],fun i=>Sp.okY i.1 i.2,[Au],fun i=>((AhN i.1 i.2,AgH i.1 i.2),(Ag9 i.1 i.2,AgV i.1 i.2)),false⟩
def UZ:Am:=⟨[.list Ca,.str],fun i=>decide (List.length (α:=AW) i.1<=1000)&&GQ 100 i.1&&decide (Yt i.1 i.2=0),[.str],fun i=>lV i.1 i.2,false⟩
def rS:Am:=⟨[Au,Au],fun i=>Sp.Ch (i.1:Ae)&&Sp.Ch (i.2:Ae),[.bool],fun i=>decide (Ds (i.1:Ae) (i.2:Ae)=0),false⟩
def Afd:AL:=X7 [(73,QW)]
def Oz:AL:=Ur [(100,[2,13])] [(100,[(2,[(3,Bc)]),(13,[(12,Te),(13,Au)])])] [(100,[(14,[6,7,10,40,41,42]),(13,[6,7,10,12,13,40,41,42]),(10,[6,7,10,40,41,42]),(9,[6,7,10,40,41,42]),(4,[1,3,6,7,21,22,23]),(3,[1,3,6,7,21,22,23]),(2,[1,2,3,6,7])])] [(96,LU),(57,cF),(68,R0),(120,bT),(65,SO),(59,I4)]
def R1:AL:=Ur [(135,[1,8,9])] [(135,[(1,[(3,Au)]),(8,[(7,Au),(8,Au)]),(9,[(9,Au),(10,Au)])])] [(135,[(10,[0,3,4,11,12,13]),(8,[0,3,4,5,7,8]),(6,[0,3,4,5,7,8]),(3,[0,3,4,11,12,13]),(2,[0,3,4,11,12,13]),(1,[0,3,4]),(9,[3,4,7,8,9,10])])] [(96,LU),(73,QW),(185,rS),(59,I4),(64,tN),(65,SO),(97,jD)]
def Ace:AL:=Ur [(70,[1])] [(70,[(1,[(4,Bc)])])] [(70,[(1,[1,2,3,4,8])])] [(99,cEf),(100,cOb),(135,Af2),(59,I4)]
def Oo:AL:=Ur [(128,[3])] [(128,[(3,[(8,Bt),(9,Bh)])])] [(128,[(8,[7,8,9,10,11]),(9,[7,8,9,10,11]),(7,[7,8,9,10,11]),(6,[7,8,9,10]),(4,[7,8,9,10]),(3,[7,8,9])])] [(81,ZC),(74,Od),(30,JD)]
def Ab4:AL:=Ur [(62,[1])] [(62,[(1,[(4,Bc)])])] [(62,[(1,[1,2,3,4])])] [(126,UZ),(127,AeJ),(128,Aeo),(30,JD)]
end Go.Pe
namespace Go.Sp
def Em(c:AF)(t l:Int):Int:=JG c<|VP c t||Ox c l
def VV(c:AF)(t l:Int):Nat->Nat->Rat
 |_,0=>0
 |i,k+1=>Jx c t (i:Int) l+VV c t l (i+1) k
def exQ(c:AF)(t l:Int):Rat:=VV c t l 0 c.1.length
def suF(c:AF)(t l:Int):Ae->Nat->Nat->Ae
 |f,_,0=>f
 |f,i,k+1=>suF c t l (B0 f<|dY c t (i:Int) l) (i+1) k
def kM(c:AF)(t l:Int):Ae:=suF c t l zF 0 c.1.length
def AbX(c:AF)(t l:Int):Int:=nS<|kM c t l
def Adk(c:AF)(t l:Int):List Int:=nW<|kM c t l
def AdN(c:AF)(t l:Int):Int:=dS<|kM c t l
def Ab6(c:AF)(t l:Int):List Int:=dW<|kM c t l
def AdW(q:Rat):Int:=(q+1/2).floor
def WG(q:Rat):Rat:=(AdW (q*10):Rat)/10
def hfF:Ae:=((1,BL 1),(2,BL 2))
def rnI(f:Ae):AM:=Gv (B0 f hfF).1 (B0 f hfF).2
def rnS(f:Ae):Int:=(rnI f).1
def rnW(f:Ae):List Int:=(rnI f).2
def teF(f:Ae):Ae:=SJ (rnI<|FO f<|iF 10) (10,BL 10)
def AfW(f:Ae):Int:=nS<|teF f
def Afb(f:Ae):List Int:=nW<|teF f
def Agj(f:Ae):Int:=dS<|teF f
def Af6(f:Ae):List Int:=dW<|teF f
def OkT(x:Ae):Prop:=∃X,Go.Pe.RS 3000 x X
def okT(x:Ae):Bool:=@decide (OkT x) (zk _)
theorem Ab3{x:Ae}(h:okT x=true):OkT x:=@w6 _ (zk _) h
theorem AcU{x:Ae}(h:OkT x):okT x=true:=@w4 _ (zk _) h
def OkV(x:Ae):Prop:=∃X,Go.Pe.RS 2000 x X
def okV(x:Ae):Bool:=@decide (OkV x) (zk _)
theorem Acx{x:Ae}(h:okV x=true):OkV x:=@w6 _ (zk _) h
theorem AbY{x:Ae}(h:OkV x):okV x=true:=@w4 _ (zk _) h
def RZ(c:AF):Bool:=IS c&&(decide (NX c≠0)||Xr c 6 4)
def Lq(c:AF)(t l:Int):Bool:=IS c&&decide (Em c t l=0)&&Xr c 6 4
def iI(c:AF)(t l:Int):Bx:=XJ (Em c t l)<|exQ c t l
def iE(c:AF)(t l:Int):Int:=Yb (Em c t l)<|exQ c t l
def iJ(c:AF)(t l:Int):Bx:=XJ (Em c t l)<|WG<|exQ c t l
def iA(c:AF)(t l:Int):Int:=Yb (Em c t l)<|WG<|exQ c t l
def N7(c:AF):Nat:=c.1.length/2
def tZ(c:AF)(t l:Int):Rat:=VV c t l 0<|N7 c
def ouQ(c:AF)(t l:Int):Rat:=VV c t l (N7 c)<|c.1.length-N7 c
def Zp(c:AF)(t l:Int):Bx:=if Em c t l≠0 then[]else AH<|tZ c t l
def Yk(c:AF)(t l:Int):Bx:=if Em c t l≠0 then[]else AH<|ouQ c t l
def wO(c:AF)(t l i k:Int):Bx:=AH<|VV c t l i.toNat (k-i).toNat
def exR(c:AF)(t l:Int):Bx:=AH<|exQ c t l
def raR(c:AF)(t l:Int):Bx:=AH<|WG<|exQ c t l
def Uw(c:AF)(i k:Int):Bool:=decide (0<=i)&&decide (i<=k)&&decide (k<=(c.1.length:Int))
end Go.Sp
namespace Go.Pe
open Sp
open Go.Det
def cEx:Am:=⟨[Bc,i64,i64],fun i=>Lq i.1 i.2.1 i.2.2,[Au],fun i=>((AbX i.1 i.2.1 i.2.2,Adk i.1 i.2.1 i.2.2),(AdN i.1 i.2.1 i.2.2,Ab6 i.1 i.2.1 i.2.2)),false⟩
def Abf:Am:=⟨[Au],fun a=>Sp.okT a,[A3],fun a=>(Sp.rnS a,Sp.rnW a),false⟩
def Aep:Am:=⟨[Au],fun a=>Sp.okV a,[Au],fun a=>((AfW a,Afb a),(Agj a,Af6 a)),false⟩
def jO:Am:=⟨[Bc,i64,i64],fun i=>RZ i.1,[.str,i64],fun i=>(iI i.1 i.2.1 i.2.2,iE i.1 i.2.1 i.2.2),false⟩
def Z1:Am:=⟨[Bc,i64,i64],fun i=>RZ i.1,[.str,i64],fun i=>(iJ i.1 i.2.1 i.2.2,iA i.1 i.2.1 i.2.2),false⟩
def oI:Am:=⟨[Bc,i64,i64],fun i=>RZ i.1,[.str,.str,i64],fun i=>(Zp i.1 i.2.1 i.2.2,Yk i.1 i.2.1 i.2.2,Em i.1 i.2.1 i.2.2),false⟩
def qI:Am:=⟨[Bc,i64,i64,i64,i64],fun i=>Lq i.1 i.2.1 i.2.2.1&&Uw i.1 i.2.2.2.1 i.2.2.2.2,[.str],fun i=>wO i.1 i.2.1 i.2.2.1 i.2.2.2.1 i.2.2.2.2,false⟩
def AcP:Am:=⟨[Bc,i64,i64],fun i=>Lq i.1 i.2.1 i.2.2,[.str],fun i=>Sp.exR i.1 i.2.1 i.2.2,false⟩
def AeD:Am:=⟨[Bc,i64,i64],fun i=>Lq i.1 i.2.1 i.2.2,[.str],fun i=>Sp.raR i.1 i.2.1 i.2.2,false⟩
def NG:Am:=⟨[Bc,Afv],fun i=>Sp.smC i.1&&List.all (α:=B3) (Prod.fst<|Prod.snd (i.1:AF)) Wd,[.bool],fun _=>true,false⟩
def PJ:AL:=X7 [(70,cRt),(57,cF),(59,I4)]
def AeY:AL:=X7 [(68,R0),(59,I4),(132,nR)]
def Aes:AL:=X7 [(57,cF),(65,SO),(66,Abf),(68,R0),(120,bT)]
def Ad5:AL:=X7 [(52,nU),(53,Tx),(51,O9),(54,TJ),(55,cEx),(56,Aep)]
def Nc:AL:=X7 [(52,nU),(53,Tx),(51,O9),(54,TJ),(70,cRt),(57,cF),(59,I4),(60,Gq)]
def yT:AL:=X7 [(62,AeI),(30,JD)]
def AfE:AL:=X7 [(18,qI)]
def Ae1:AL:=X7 [(130,ZV),(30,JD),(129,UG),(74,Od)]
def Afo:AL:=X7 [(19,AcP),(63,bP)]
def Qh:AL:=Ur [(3,[2,7,12])] [(3,[(2,[(2,Bc),(3,Afv),(5,Bc)])])] [(3,[(2,[2,3,5]),(7,[2,3,5,6]),(12,[2,3,5,6,7,8,9,10,11,12,13])])] [(8,Yu),(7,Ky),(9,yL),(10,cCo),(11,wG),(12,jO),(13,Z1),(14,oI),(16,AbB),(15,G7),(17,Sr),(18,qI),(19,AcP),(20,AeD)]
section
open List Int Prod
namespace T3
def T(c:AF)(a:Int×Int×Int):Tr:=tree Qh false 9 3<|Ag ([Bc,zi i64<|zi i64 i64]) (c,a)
def L1(v2:AF)(v3:Int×Int×Int)(v5:AF):Tr:=re ((T ([],([],[])) (0,(0,0))).L)<|Aw 160 [(2,PV.Bb Bc v2 0),(3,PV.Bb (zi i64<|zi i64 i64) v3 0),(5,PV.Bb Bc v5 0)] [] 0
theorem Aj(c:AF)(a:Int×Int×Int):T c a=.ck (Sp.smC c) (L1 c a c):=by kernel_rfl
def L2(v2:AF)(v3:Int×Int×Int)(v5:AF)(a:Int):Tr:=re ((stepT Qh<|L1 ([],([],[])) (0,(0,0)) ([],([],[]))).L.R.L.R.L.L.L.R)<|Aw 160 [(2,PV.Bb Bc v2 0),(3,PV.Bb (zi i64<|zi i64 i64) v3 0),(5,PV.Bb Bc v5 0),(6,.dat i64 a)] [] 0
theorem Ak(v2:AF)(v3:Int×Int×Int)(v5:AF):stepT Qh (L1 v2 v3 v5)=let a:Tr:=.ck true<|.leaf (.dat Sh.bool true) [];let b':=L2 v2 v3 v5<|NX v5;.ck true (.ite false a<|.ck true<|.ite (!IS v5) a<|.ck (IS v5)<|.ite (NX v5==0) (.ck (iD 6 4&&List.all (fst<|snd v5) Wd)<|.ite (!Xr v5 6 4) (.leaf (.bl true) []) b') b'):=by kernel_rfl
def L3(v2:AF)(v3:Int×Int×Int)(v5:AF)(g:Int)(f:Z)(e:Int)(v9:Z)(d:Int)(b a:Z)(c:Int):Tr:=re ((stepT Qh<|L2 ([],([],[])) (0,(0,0)) ([],([],[])) 0).L.L.L.L.L.L.L)<|Aw 160 [(2,PV.Bb Bc v2 0),(3,PV.Bb (zi i64<|zi i64 i64) v3 0),(5,PV.Bb Bc v5 0),(6,.dat i64 g),(7,.dat ze f),(8,.dat i64 e),(9,.dat ze v9),(10,.dat i64 d),(11,.dat ze b),(12,.dat ze a),(13,.dat i64 c)] [] 0
theorem Az(v2:AF)(v3:Int×Int×Int)(v5:AF)(g:Int):stepT Qh (L2 v2 v3 v5 g)=let a:=snd<|snd v3;let b':=Em v2 (fst v3) a;let c:=iI v2 (fst v3) a;let b:=iE v2 (fst v3) a;let e:=iJ v2 (fst v3) a;let f:=iA v2 (fst v3) a;let d:=Zp v2 (fst v3) a;let h':=Yk v2 (fst v3) a;.ck (RZ v2) (.ck (RZ v2)<|.ck (RZ v2)<|.ite (g==0) (.ck true<|.ite (Lo (fst v3) (↑(length<|fst<|snd v2):Int)) (.ck true<|L3 v2 v3 v5 (Cv true 10) c b e f d h' b')<|.ck true<|.ck true<|L3 v2 v3 v5 (Cv (Lo a (↑(length<|snd<|snd v2):Int)) 10) c b e f d h' b')<|L3 v2 v3 v5 g c b e f d h' b'):=by kernel_rfl
theorem Bq(v2:AF)(v3:Int×Int×Int)(v5:AF)(f:Int)(j:Z)(i:Int)(v9:Z)(e:Int)(c b:Z)(d:Int):stepT Qh (L3 v2 v3 v5 f j i v9 e c b d)=let b':Tr:=.leaf (.bl false) [];let a:=snd<|snd v3;let h:=(↑(length<|fst v2):Int);let g:=zf .i64<|Int.tdiv h 2;.ite (f !=0) (.cd (0<=1000000)<|.ite (FZ j i [] f) (.cd (0<=1000000)<|.ite (FZ v9 e [] f) (.ite (c==[]) (.ite (b==[]) (.leaf (.dat Sh.bool<|d==f) []) b') b') b') b') (.ck true<|.ck true<|.ck (Lq v5 (fst v3) a&&Uw v5 0 g)<|.ck (Lq v5 (fst v3) a&&Uw v5 g h)<|.ck (Lq v5 (fst v3) a)<|.cd (length (Sp.exR v5 (fst v3) a)<=1000000)<|.ite (FZ j i (Sp.exR v5 (fst v3) a) 0) (.ck (Lq v5 (fst v3) a)<|.cd (length (Sp.raR v5 (fst v3) a)<=1000000)<|.ite (FZ v9 e (Sp.raR v5 (fst v3) a) 0) (.ite (d==0) (.ite (c==wO v5 (fst v3) a 0 g) (.leaf (.dat Sh.bool<|b==wO v5 (fst v3) a g h) []) b') b') b') b'):=by kernel_rfl
end T3
namespace T14
def T(c:AF)(t l:Int):Tr:=tree Nc false 9 14<|Ag ([Bc,zp zn,zp zn]) (c,t,l)
def L1(c:AF)(t l r v9 q p:Int)(s:List Bn)(a:List B3)(i:List Bm)(o:Int)(f:List Int)(e:Int)(h:List Int)(b:Int)(g:List Int)(j:Int)(m:List Int)(o1:List (Int×Int))(n:List Bn)(d:List B3)(k:List Bm):Tr:=re ((T c t l).L.L.L.R.L.L)<|Aw 22 [(0,PV.yl 6),(1,.ptr 3 0),(2,.ptr 4 0),(3,.ptr 5 0),(8,.dat i64 r),(9,.dat i64 v9)] [(6,Obj.lp 14 8 (vW (AL.C Nc) 14 8) (bK (AL.C Nc) 14 8) (UQ (AL.C Nc) 14 8) LpS.ready 74 [(3,.ptr 0 0),(10,.ptr (yc (yc 0 1) 1) 0)]),(5,.box [.dat i64 q]),(4,.box [.dat i64 p]),(3,.box [.dat (zg Bt) s,.dat (zg CM) a,.dat (zg Bh) i]),(2,.box [.dat i64 o,.dat (z7<|zp zq) f,.dat i64 e,.dat (z7<|zp zq) h,.dat i64 b,.dat (z7<|zp zq) g,.dat i64 j,.dat (z7<|zp zq) m]),(1,.arr false 110 (zi i64 i64) o1),(0,.box [.dat (zg Bt) n,.dat (zg CM) d,.dat (zg Bh) k])] 7
theorem Aj(c:AF)(t l:Int):T c t l=.ck true (.ck true<|.ck (decide (2<=2)&&true&&(IS c&&decide (2<=1000)))<|.ite (Ns c [(t,xZ c),(l,zK c)] !=0) (.leaf (.tup [.dat ze [],.dat ze [],.dat i64<|Ns c [(t,xZ c),(l,zK c)]]) [])<|.ck true<|.ck true<|L1 c t l ((↑(length<|fst c):Int)) 0 l t (fst c) (fst<|snd c) (snd<|snd c) 0 (BL 0) 1 (BL 1) 0 (BL 0) 1 (BL 1) ([(t,xZ c),(l,zK c)]) (fst c) (fst<|snd c)<|snd<|snd c):=by kernel_rfl
def L2(c:AF)(t l r v9 q p:Int)(s:List Bn)(a:List B3)(i:List Bm)(o:Int)(f:List Int)(e:Int)(h:List Int)(b:Int)(g:List Int)(j:Int)(m:List Int)(o1:List (Int×Int))(n:List Bn)(d:List B3)(k:List Bm):Tr:=re ((stepT Nc<|L1 c t l 0 0 0 0 [] [] [] 0 [] 0 [] 0 [] 0 [] [] [] [] []).L.L.L.L.L.L.L)<|Aw 22 [(0,PV.yl 6),(1,.ptr 3 0),(2,.ptr 4 0),(3,.ptr 5 0),(8,.dat i64 r),(9,.dat i64 v9)] [(6,Obj.lp 14 8 (vW (AL.C Nc) 14 8) (bK (AL.C Nc) 14 8) (UQ (AL.C Nc) 14 8) LpS.ready 74 [(3,.ptr 0 0),(10,.ptr 2 0)]),(5,.box [.dat i64 q]),(4,.box [.dat i64 p]),(3,.box [.dat (zg Bt) s,.dat (zg CM) a,.dat (zg Bh) i]),(2,.box [.dat i64 o,.dat (z7<|zp zq) f,.dat i64 e,.dat (z7<|zp zq) h,.dat i64 b,.dat (z7<|zp zq) g,.dat i64 j,.dat (z7<|zp zq) m]),(1,.arr false 110 (zi i64 i64) o1),(0,.box [.dat (zg Bt) n,.dat (zg CM) d,.dat (zg Bh) k])] 7
theorem Az(c:AF)(t l u v9 q p:Int)(r:List Bn)(a:List B3)(b:List Bm)(v:Int)(g:List Int)(f:Int)(i:List Int)(d:Int)(h:List Int)(j:Int)(m:List Int)(o1:List (Int×Int))(s:List Bn)(e:List B3)(k:List Bm):stepT Nc (L2 c t l u v9 q p r a b v g f i d h j m o1 s e k)=let n:=dY (r,a,b) p v9 q;let b':=((d,h),j,m);let o:=((v,g),f,i);let w:=zf .i64<|v9+1;.di (v9<u) (.ck (VI (r,a,b) p v9 q)<|.ck true<|.di (v9>=zf .i64 (Int.tdiv (length s:Int) 2)) (.ck true<|.ck (yx b'&&yx n)<|.ck true<|L2 c t l u w q p r a b v g f i (Jw b' n) (Jp b' n) (JI b' n) (JO b' n) o1 s e k)<|.ck true<|.ck (yx o&&yx n)<|.ck true<|L2 c t l u w q p r a b (Jw o n) (Jp o n) (JI o n) (JO o n) d h j m o1 s e k) (.ck true<|.ck (Sp.Ch o)<|.ck true<|.ck (Sp.Ch b')<|.ck (decide (2<=2)&&true&&decide (2<=1000000))<|.ite (Sp.first [IM o,IM b'] !=0) (.leaf (.tup [.dat ze [],.dat ze [],.dat i64<|Sp.first [IM o,IM b']]) [])<|.leaf (.tup [.dat ze<|Kv o,.dat ze<|Kv b',.dat i64 (0:Int)]) []):=by kernel_rfl
end T14
namespace T18
def T(c:AF)(t l i k:Int):Tr:=tree yT false 9 18<|Ag ([Bc,zp zn,zp zn,zp zn,zp zn]) (c,t,l,i,k)
def L1(v1 v2 v4:Int)(d:Z)(c:Int)(e:List Bn)(a:List B3)(b:List Bm):Tr:=re ((T ([],([],[])) 0 0 0 0))<|Aw 27 [(1,.dat i64 v1),(2,.dat i64 v2),(4,.dat i64 v4),(5,.ptr 0 0),(11,.dat ze d),(12,.dat i64 c)] [(0,.box [.dat (zg Bt) e,.dat (zg CM) a,.dat (zg Bh) b])] 1
theorem Aj(c:AF)(t l i k:Int):T c t l i k=L1 t l k ([(48:UInt8)]) i (fst c) (fst<|snd c) (snd<|snd c):=by kernel_rfl
theorem Ak(v1 v2 v4:Int)(d:Z)(c:Int)(e:List Bn)(a:List B3)(b:List Bm):stepT yT (L1 v1 v2 v4 d c e a b)=let f:=Sp.hoR (e,a,b) v1 c v2;.di (c<v4) (.ck (VI (e,a,b) v1 c v2)<|.ck (A2 d&&A2 f)<|L1 v1 v2 v4 (B5 d f) (zf .i64<|c+1) e a b) (.leaf (.dat ze d) []):=by kernel_rfl
end T18
namespace T19
def T(c:AF)(t l:Int):Tr:=tree AfE false 9 19<|Ag ([Bc,zp zn,zp zn]) (c,t,l)
theorem Aj(c:AF)(t l:Int):T c t l=.ck (Lq c t l&&Uw c 0 (↑(length<|fst c):Int)) (.leaf (.dat ze<|wO c t l 0 (↑(length<|fst c):Int)) []):=by kernel_rfl
end T19
namespace T20
def T(c:AF)(t l:Int):Tr:=tree Afo false 9 20<|Ag ([Bc,zp zn,zp zn]) (c,t,l)
theorem Aj(c:AF)(t l:Int):T c t l=let a:=([49,47,49,48]:Z);.ck (Lq c t l) (.ck (yI (Sp.exR c t l) a)<|.leaf (.dat ze<|Ack (Sp.exR c t l) a) []):=by kernel_rfl
end T20
namespace T63
def T(a u:Z):Tr:=tree Ae1 false 9 63<|Ag ([ze,ze]) (a,u)
theorem Aj(a u:Z):T a u=let b':=([49,47,50]:Z);let b:=B5 (FD a u) b';.ck (A2 a&&VZ u) (.ck (A2 (FD a u)&&A2 b')<|.ck (A2 b)<|.ck (A2 (GA b)&&A2 u)<|.leaf (.dat ze<|EH (GA b) u) []):=by kernel_rfl
end T63
namespace T55
def T(c:AF)(t l:Int):Tr:=tree PJ false 9 55<|Ag ([Bc,zp zn,zp zn]) (c,t,l)
def L1(c:AF)(t l o v9 n m:Int)(p:List Bn)(b:List B3)(g:List Bm)(k:Int)(i:List Int)(e:Int)(f:List Int)(o1 a:Int)(j:List Bn)(d:List B3)(h:List Bm):Tr:=re ((T c t l).L)<|Aw 22 [(0,PV.yl 6),(1,.ptr 3 0),(2,.ptr 4 0),(3,.ptr 5 0),(8,.dat i64 o),(9,.dat i64 v9)] [(6,Obj.lp 55 4 (vW (AL.C PJ) 55 4) (bK (AL.C PJ) 55 4) (UQ (AL.C PJ) 55 4) LpS.ready 21 [(7,.ptr (yc (yc 0 1) 1) 0)]),(5,.box [.dat i64 n]),(4,.box [.dat i64 m]),(3,.box [.dat (zg Bt) p,.dat (zg CM) b,.dat (zg Bh) g]),(2,.box [.dat i64 k,.dat (z7<|zp zq) i,.dat i64 e,.dat (z7<|zp zq) f]),(1,.box [.dat i64 o1,.nil,.dat i64 a,.nil]),(0,.box [.dat (zg Bt) j,.dat (zg CM) d,.dat (zg Bh) h])] 7
theorem Aj(c:AF)(t l:Int):T c t l=.ck true (L1 c t l ((↑(length<|fst c):Int)) 0 l t (fst c) (fst<|snd c) (snd<|snd c) 0 (BL 0) 1 (BL 1) 0 0 (fst c) (fst<|snd c)<|snd<|snd c):=by kernel_rfl
def L2(c:AF)(t l o v9 n m:Int)(p:List Bn)(b:List B3)(g:List Bm)(k:Int)(i:List Int)(e:Int)(f:List Int)(o1 a:Int)(j:List Bn)(d:List B3)(h:List Bm):Tr:=re ((stepT PJ<|L1 c t l 0 0 0 0 [] [] [] 0 [] 0 [] 0 0 [] [] []).L.L.L)<|Aw 22 [(0,PV.yl 6),(1,.ptr 3 0),(2,.ptr 4 0),(3,.ptr 5 0),(8,.dat i64 o),(9,.dat i64 v9)] [(6,Obj.lp 55 4 (vW (AL.C PJ) 55 4) (bK (AL.C PJ) 55 4) (UQ (AL.C PJ) 55 4) LpS.ready 21 [(7,.ptr 2 0)]),(5,.box [.dat i64 n]),(4,.box [.dat i64 m]),(3,.box [.dat (zg Bt) p,.dat (zg CM) b,.dat (zg Bh) g]),(2,.box [.dat i64 k,.dat (z7<|zp zq) i,.dat i64 e,.dat (z7<|zp zq) f]),(1,.box [.dat i64 o1,.nil,.dat i64 a,.nil]),(0,.box [.dat (zg Bt) j,.dat (zg CM) d,.dat (zg Bh) h])] 7
theorem Az(c:AF)(t l p v9 m k:Int)(n:List Bn)(a:List B3)(b:List Bm)(o:Int)(f:List Int)(d:Int)(e:List Int)(o1 g:Int)(q:List Bn)(h:List B3)(i:List Bm):stepT PJ (L2 c t l p v9 m k n a b o f d e o1 g q h i)=let j:=dY (n,a,b) k v9 m;let b':=((o,f),d,e);let r:=z7<|zp zq;.di (v9<p) (.ck (VI (n,a,b) k v9 m)<|.ck (yx b'&&yx j)<|L2 c t l p (zf .i64<|v9+1) m k n a b (Jw b' j) (Jp b' j) (JI b' j) (JO b' j) o1 g q h i) (.leaf (yt [.dat i64 o,.dat r f,.dat i64 d,.dat r e]) []):=by kernel_rfl
end T55
namespace T66
def T(a:Ae):Tr:=tree AeY false 9 66<|Ag ([Au]) a
theorem Aj(a:Ae):T a=let b':=((1,BL 1),2,BL 2);let b:=B0 a b';.ck true (.ck true<|.ck (yx a&&yx b')<|.ck (yx b)<|.leaf (yt [.dat i64<|Sp.flS b,.dat (z7<|zp zq)<|Sp.flW b]) []):=by kernel_rfl
end T66
namespace T56
def T(a:Ae):Tr:=tree Aes false 9 56<|Ag ([Au]) a
theorem Aj(a:Ae):T a=let b':=((10,BL 10),1,BL 1);let d:=z7<|zp zq;let c:=FO a b';let b:=(Sp.rnS c,Sp.rnW c);.ck true (.ck (yx a&&yx b')<|.ck (Sp.okT c)<|.ck true<|.ck (Jv b (10,BL 10))<|.leaf (yt [.dat i64<|tS b (10,BL 10),.dat d<|rR b (10,BL 10),.dat i64<|mS b (10,BL 10),.dat d<|kG b (10,BL 10)]) []):=by kernel_rfl
end T56
namespace T12
def T(c:AF)(t l:Int):Tr:=tree Ad5 false 9 12<|Ag ([Bc,zp zn,zp zn]) (c,t,l)
theorem Aj(c:AF)(t l:Int):T c t l=let a:=((AbX c t l,Adk c t l),AdN c t l,Ab6 c t l);.ck true (.ck true<|.ck (decide (2<=2)&&true&&(IS c&&decide (2<=1000)))<|.ite (Ns c [(t,xZ c),(l,zK c)] !=0) (.leaf (.tup [.dat ze [],.dat i64<|Ns c [(t,xZ c),(l,zK c)]]) [])<|.ck (Lq c t l)<|.ck (Sp.Ch a)<|.leaf (.tup [.dat ze<|Kv a,.dat i64<|IM a]) []):=by kernel_rfl
end T12
namespace T13
def T(c:AF)(t l:Int):Tr:=tree Ad5 false 9 13<|Ag ([Bc,zp zn,zp zn]) (c,t,l)
theorem Aj(c:AF)(t l:Int):T c t l=let a:=((AbX c t l,Adk c t l),AdN c t l,Ab6 c t l);let b':=((AfW a,Afb a),Agj a,Af6 a);.ck true (.ck true<|.ck (decide (2<=2)&&true&&(IS c&&decide (2<=1000)))<|.ite (Ns c [(t,xZ c),(l,zK c)] !=0) (.leaf (.tup [.dat ze [],.dat i64<|Ns c [(t,xZ c),(l,zK c)]]) [])<|.ck (Lq c t l)<|.ck (Sp.okV a)<|.ck (Sp.Ch b')<|.leaf (.tup [.dat ze<|Kv b',.dat i64<|IM b']) []):=by kernel_rfl
end T13
namespace T50
def T(l:Z×Z×Z×List (Z×Z)×List (Z×Z))(n d:Int):Tr:=tree YI false 9 50<|Ag ([zi ze<|zi ze<|zi ze<|zi (zg<|zi ze ze)<|zg<|zi ze ze,zp zn,zp zn]) (l,n,d)
def L1(v2 e:Int)(f a b:Z)(d:List (Z×Z))(c:List (Z×Z)):Tr:=re ((T ([],([],([],([],[])))) 0 0).R.R.R.L.R.L.R)<|Aw 84 [(2,.dat i64 v2),(3,.ptr 0 0),(7,.dat i64 e)] [(0,.box [.dat ze f,.dat ze a,.dat ze b,.dat (zg<|zi ze ze) d,.dat (zg<|zi ze ze) c])] 1
theorem Aj(l:Z×Z×Z×List (Z×Z)×List (Z×Z))(n d:Int):T l n d=let a:Tr:=.leaf (.bl false) [];let b':=snd<|snd<|snd l;let b:=decide (0<=d)&&decide (d<=1000);.di ((↑(length<|fst l):Int)>30) a (.di ((↑(length<|fst b'):Int)>n) a<|.di ((↑(length<|snd b'):Int)>n) a<|.ck b<|.ite (!Sp.Ci (fst<|snd l) d) a<|.ck b<|.ite (!Sp.Ci (fst<|snd<|snd l) d) a<|L1 d 0 (fst l) (fst<|snd l) (fst<|snd<|snd l) (fst b')<|snd b'):=by kernel_rfl
def L2(v2 e:Int)(f a b:Z)(d:List (Z×Z))(c:List (Z×Z)):Tr:=re ((stepT YI<|L1 0 0 [] [] [] [] []).R)<|Aw 84 [(2,.dat i64 v2),(3,.ptr 0 0),(8,.dat i64 e)] [(0,.box [.dat ze f,.dat ze a,.dat ze b,.dat (zg<|zi ze ze) d,.dat (zg<|zi ze ze) c])] 1
theorem Ak(v2 e:Int)(f b c:Z)(a:List (Z×Z))(d:List (Z×Z)):stepT YI (L1 v2 e f b c a d)=let g:=decide (e<(length a:Int));let b':=decide (0<=v2)&&decide (v2<=1000);let h:=getD a (toNat e) ([],[]);.ite g (.ck (decide (0<=e)&&g)<|.ck b'<|.ite (!Sp.Ci (fst h) v2) (.leaf (.bl false) [])<|.ck (decide (0<=e)&&g)<|.ck b'<|.ite (!Sp.Ci (snd h) v2) (.leaf (.bl false) [])<|L1 v2 (zf .i64<|e+1) f b c a d) (L2 v2 0 f b c a d):=by kernel_rfl
theorem Az(v2 e:Int)(f c d:Z)(b:List (Z×Z))(a:List (Z×Z)):stepT YI (L2 v2 e f c d b a)=let g:=decide (e<(length a:Int));.ite g (.ck (decide (0<=e)&&g)<|.ck (decide (0<=v2)&&decide (v2<=1000))<|.ite (!Sp.Ci (snd<|getD a (toNat e) ([],[])) v2) (.leaf (.bl false) [])<|L2 v2 (zf .i64<|e+1) f c d b a) (.leaf (.bl true) []):=by kernel_rfl
end T50
namespace T11
def T(c:List (Z×Z×Z×Z×List (Z×Int))×List (Z×List Int)×List (Z×Z×Z×List (Z×Z)×List (Z×Z)))(n d:Int):Tr:=tree Xw false 9 11<|Ag ([zi (zg<|zi ze<|zi ze<|zi ze<|zi ze<|zg<|zi ze i64)<|zi (zg<|zi ze<|zg i64)<|zg<|zi ze<|zi ze<|zi ze<|zi (zg<|zi ze ze)<|zg<|zi ze ze,zp zn,zp zn]) (c,n,d)
def L1(v1 v2 c:Int)(d:List (Z×Z×Z×Z×List (Z×Int)))(a:List (Z×List Int))(b:List (Z×Z×Z×List (Z×Z)×List (Z×Z))):Tr:=re ((T ([],([],[])) 0 0).R.R.R)<|Aw 93 [(1,.dat i64 v1),(2,.dat i64 v2),(3,.ptr 0 0),(7,.dat i64 c)] [(0,.box [.dat (zg<|zi ze<|zi ze<|zi ze<|zi ze<|zg<|zi ze i64) d,.dat (zg<|zi ze<|zg i64) a,.dat (zg<|zi ze<|zi ze<|zi ze<|zi (zg<|zi ze ze)<|zg<|zi ze ze) b])] 1
theorem Aj(c:List (Z×Z×Z×Z×List (Z×Int))×List (Z×List Int)×List (Z×Z×Z×List (Z×Z)×List (Z×Z)))(n d:Int):T c n d=let a:Tr:=.leaf (.bl false) [];.di ((↑(length<|fst c):Int)>n) a (.di ((↑(length<|fst<|snd c):Int)>n) a<|.di ((↑(length<|snd<|snd c):Int)>n) a<|L1 n d 0 (fst c) (fst<|snd c)<|snd<|snd c):=by kernel_rfl
def L2(v1 v2 v9:Int)(c:List (Z×Z×Z×Z×List (Z×Int)))(a:List (Z×List Int))(b:List (Z×Z×Z×List (Z×Z)×List (Z×Z))):Tr:=re ((stepT Xw<|L1 0 0 0 [] [] []).R)<|Aw 93 [(1,.dat i64 v1),(2,.dat i64 v2),(3,.ptr 0 0),(9,.dat i64 v9)] [(0,.box [.dat (zg<|zi ze<|zi ze<|zi ze<|zi ze<|zg<|zi ze i64) c,.dat (zg<|zi ze<|zg i64) a,.dat (zg<|zi ze<|zi ze<|zi ze<|zi (zg<|zi ze ze)<|zg<|zi ze ze) b])] 1
theorem Ak(v1 v2 c:Int)(d:List (Z×Z×Z×Z×List (Z×Int)))(a:List (Z×List Int))(b:List (Z×Z×Z×List (Z×Z)×List (Z×Z))):stepT Xw (L1 v1 v2 c d a b)=let f:=getD d (toNat c) ([],[],[],[],[]);let b':=decide (0<=v2)&&decide (v2<=1000);let e:Tr:=.leaf (.bl false) [];let h:=decide (c<(length d:Int));let g:=snd<|snd f;.ite h (.ck (decide (0<=c)&&h)<|.di ((↑(length<|snd<|snd g):Int)>v1) e<|.ck b'<|.ite (!Ci (fst f) v2) e<|.ck b'<|.ite (!Ci (fst<|snd f) v2) e<|.ck b'<|.ite (!Ci (fst g) v2) e<|.ck b'<|.ite (!Ci (fst<|snd g) v2) e<|L1 v1 v2 (zf .i64<|c+1) d a b) (L2 v1 v2 0 d a b):=by kernel_rfl
theorem Az(v1 v2 v9:Int)(c:List (Z×Z×Z×Z×List (Z×Int)))(b:List (Z×List Int))(a:List (Z×Z×Z×List (Z×Z)×List (Z×Z))):stepT Xw (L2 v1 v2 v9 c b a)=let d:=getD a (toNat v9) ([],[],[],[],[]);let b':=decide (v9<(length a:Int));let e:=snd<|snd d;.ite b' (.ck (decide (0<=v9)&&b')<|.ck (iD v1 v2)<|.ite (!EX (fst d,fst<|snd d,fst e,fst<|snd e,snd<|snd e) v1 v2) (.leaf (.bl false) [])<|L2 v1 v2 (zf .i64<|v9+1) c b a) (.ck (bD (c,b,a))<|.leaf (.dat Sh.bool<|NX (c,b,a)==0) []):=by kernel_rfl
end T11
namespace T45
def T(l:Bm):Tr:=tree GG false 9 45<|Ag ([Bh]) l
def L1(v3:Int)(e a b:Z)(d c:List AW):Tr:=re ((T ([],([],([],([],[]))))).R.R.R.R.R)<|Aw 83 [(1,.ptr 0 0),(3,.dat i64 v3)] [(0,.box [.dat ze e,.dat ze a,.dat ze b,.dat (zg Ca) d,.dat (zg Ca) c])] 1
theorem Aj(l:Bm):T l=let a:Tr:=.leaf (.bl false) [];let b':=snd<|snd<|snd l;.di ((↑(length<|fst l):Int)>40) a (.di ((↑(length<|fst<|snd l):Int)>20) a<|.di ((↑(length<|fst<|snd<|snd l):Int)>20) a<|.di ((↑(length<|fst b'):Int)>70) a<|.di ((↑(length<|snd b'):Int)>20) a<|L1 0 (fst l) (fst<|snd l) (fst<|snd<|snd l) (fst b')<|snd b'):=by kernel_rfl
def L2(v4:Int)(e a b:Z)(d c:List AW):Tr:=re ((stepT GG<|L1 0 [] [] [] [] []).R)<|Aw 83 [(1,.ptr 0 0),(4,.dat i64 v4)] [(0,.box [.dat ze e,.dat ze a,.dat ze b,.dat (zg Ca) d,.dat (zg Ca) c])] 1
theorem Ak(v3:Int)(f b c:Z)(a d:List AW):stepT GG (L1 v3 f b c a d)=let e:=decide (v3<(length a:Int));let b':=getD a (toNat v3) ([],[]);.ite e (.ck (decide (0<=v3)&&e)<|.di ((↑(length<|fst b'):Int)>20) (.leaf (.bl false) [])<|.ck (decide (0<=v3)&&e)<|.di ((↑(length<|snd b'):Int)>20) (.leaf (.bl false) [])<|L1 (zf .i64<|v3+1) f b c a d) (L2 0 f b c a d):=by kernel_rfl
theorem Az(v4:Int)(f c d:Z)(b a:List AW):stepT GG (L2 v4 f c d b a)=let e:=decide (v4<(length a:Int));let b':=getD a (toNat v4) ([],[]);.ite e (.ck (decide (0<=v4)&&e)<|.di ((↑(length<|fst b'):Int)>40) (.leaf (.bl false) [])<|.ck (decide (0<=v4)&&e)<|.di ((↑(length<|snd b'):Int)>20) (.leaf (.bl false) [])<|L2 (zf .i64<|v4+1) f c d b a) (.leaf (.bl true) []):=by kernel_rfl
end T45
namespace T9
def T(c:AF):Tr:=tree RY false 9 9<|Ag ([Bc]) c
def L1(v3:Int)(c:List Bn)(a:List B3)(b:List Bm):Tr:=re ((T ([],([],[]))).R.R.R)<|Aw 102 [(1,.ptr 0 0),(3,.dat i64 v3)] [(0,.box [.dat (zg Bt) c,.dat (zg CM) a,.dat (zg Bh) b])] 1
theorem Aj(c:AF):T c=let a:Tr:=.leaf (.bl false) [];.di ((↑(length<|fst c):Int)>38) a (.di ((↑(length<|fst<|snd c):Int)>10) a<|.di ((↑(length<|snd<|snd c):Int)>10) a<|L1 0 (fst c) (fst<|snd c)<|snd<|snd c):=by kernel_rfl
def L2(v5:Int)(c:List Bn)(a:List B3)(b:List Bm):Tr:=re ((stepT RY<|L1 0 [] [] []).R)<|Aw 102 [(1,.ptr 0 0),(5,.dat i64 v5)] [(0,.box [.dat (zg Bt) c,.dat (zg CM) a,.dat (zg Bh) b])] 1
theorem Ak(v3:Int)(c:List Bn)(a:List B3)(b:List Bm):stepT RY (L1 v3 c a b)=let e:=getD c (toNat v3) ([],[],[],[],[]);let b':Tr:=.leaf (.bl false) [];let f:=decide (v3<(length c:Int));let d:=snd<|snd e;.ite f (.ck (decide (0<=v3)&&f)<|.di ((↑(length<|fst e):Int)>20) b'<|.di ((↑(length<|fst<|snd e):Int)>20) b'<|.di ((↑(length<|fst d):Int)>20) b'<|.di ((↑(length<|fst<|snd d):Int)>20) b'<|.di ((↑(length<|snd<|snd d):Int)>20) b'<|L1 (zf .i64<|v3+1) c a b) (L2 0 c a b):=by kernel_rfl
def L3(d:Int)(c:List Bn)(a:List B3)(b:List Bm):Tr:=re ((stepT RY<|L2 0 [] [] []).R)<|Aw 102 [(1,.ptr 0 0),(6,.dat i64 d)] [(0,.box [.dat (zg Bt) c,.dat (zg CM) a,.dat (zg Bh) b])] 1
theorem Az(v5:Int)(d:List Bn)(a:List B3)(b:List Bm):stepT RY (L2 v5 d a b)=let c:=decide (v5<(length a:Int));let b':=getD a (toNat v5) ([],[]);.ite c (.ck (decide (0<=v5)&&c)<|.di ((↑(length<|fst b'):Int)>40) (.leaf (.bl false) [])<|.ck (decide (0<=v5)&&c)<|.di ((↑(length<|snd b'):Int)>40) (.leaf (.bl false) [])<|L2 (zf .i64<|v5+1) d a b) (L3 0 d a b):=by kernel_rfl
theorem Bq(c:Int)(e:List Bn)(b:List B3)(a:List Bm):stepT RY (L3 c e b a)=let d:=decide (c<(length a:Int));.ite d (.ck (decide (0<=c)&&d)<|.ck true<|.ite (!Sp.Bh (getD a (toNat c) ([],[],[],[],[]))) (.leaf (.bl false) [])<|L3 (zf .i64<|c+1) e b a) (.leaf (.bl true) []):=by kernel_rfl
end T9
namespace T37
def T(l:Bm):Tr:=tree GG false 9 37<|Ag ([Bh]) l
def L1(v4:Int)(j i f:Z)(c:List AW)(o1 a h k e g:Z)(d b:List AW):Tr:=re ((T ([],([],([],([],[]))))))<|Aw 40 [(1,.ptr 0 0),(2,.ptr 1 0),(3,.ptr 2 0),(4,.dat i64 v4)] [(2,.box [.dat ze j,.dat ze i,.dat ze f,.dat (zg Ca) c,.nil]),(1,.box [.dat ze o1,.dat ze a,.dat ze h,.nil,.nil]),(0,.box [.dat ze k,.dat ze e,.dat ze g,.dat (zg Ca) d,.dat (zg Ca) b])] 3
theorem Aj(l:Bm):T l=L1 0 (fst l) (fst<|snd l) (fst<|snd<|snd l) (fst<|snd<|snd<|snd l) [] [] [] (fst l) (fst<|snd l) (fst<|snd<|snd l) (fst<|snd<|snd<|snd l) (snd<|snd<|snd<|snd l):=by kernel_rfl
def L2(v4:Int)(m:List AW)(l i e:Z)(c:List AW)(j:Nat)(o1 a h k f g:Z)(d b:List AW):Tr:=re ((stepT GG<|L1 0 [] [] [] [] [] [] [] [] [] [] [] []).L.L.L.L)<|Aw 40 [(1,.ptr 0 0),(2,.ptr 1 0),(3,.ptr 2 0),(4,.dat i64 v4)] [(3,.arr false 157 Ca m),(2,.box [.dat ze l,.dat ze i,.dat ze e,.dat (zg Ca) c,.sl 3 2 0 j none]),(1,.box [.dat ze o1,.dat ze a,.dat ze h,.nil,.nil]),(0,.box [.dat ze k,.dat ze f,.dat ze g,.dat (zg Ca) d,.dat (zg Ca) b])] 4
theorem Ak(v4:Int)(j d c:Z)(b:List AW)(o1 e i l g h:Z)(f a:List AW):stepT GG (L1 v4 j d c b o1 e i l g h f a)=let k:=decide (v4<(length a:Int));.ite k (.ck (decide (0<=v4)&&k)<|.ck (decide (0<=v4)&&k)<|.ck (aa 32)<|L2 (zf .i64<|v4+1) ([(getD a (toNat v4) ([],[]))]) j d c b 1 o1 e i l g h f a) (.leaf (yt [.dat ze j,.dat ze d,.dat ze c,.dat (zg Ca) b,.nil]) []):=by kernel_rfl
theorem Az(v4:Int)(l:List AW)(k d c:Z)(b:List AW)(e:Nat)(o1 i j m g h:Z)(f a:List AW):stepT GG (L2 v4 l k d c b e o1 i j m g h f a)=let n:=decide (v4<(length a:Int));let b':=zg Ca;.ite n (.ck (decide (0<=v4)&&n)<|.ck (decide (0<=v4)&&n)<|.ck (ac e (length l) 32)<|L2 (zf .i64<|v4+1) (l++[(getD a (toNat v4) ([],[]))]) k d c b (yc e 1) o1 i j m g h f a) (.leaf (yt [.dat ze k,.dat ze d,.dat ze c,.dat b' b,.sl 3 2 0 e none])<|[(3,.arr false 157 Ca l),(2,.box [.dat ze k,.dat ze d,.dat ze c,.dat b' b,.sl 3 2 0 e none]),(1,.box [.dat ze k,.dat ze d,.dat ze c,.dat b' b,.sl 3 2 0 e none]),(0,.box [.dat ze m,.dat ze g,.dat ze h,.dat b' f,.dat b' a])]):=by kernel_rfl
end T37
namespace T7
def T(c:AF):Tr:=tree B1 false 9 7<|Ag ([Bc]) c
def L1(v1:AF):Tr:=re ((T ([],([],[]))))<|Aw 128 [(1,PV.Bb Bc v1 0),(2,.ptr 0 0),(3,.ptr 1 0)] [(1,.box [.nil,.nil,.nil]),(0,.box [.nil,.nil,.nil])] 2
theorem Aj(c:AF):T c=L1 c:=by kernel_rfl
def L2(v1:AF)(v4:Int):Tr:=re ((stepT B1<|L1 ([],([],[]))))<|Aw 128 [(1,PV.Bb Bc v1 0),(2,.ptr 0 0),(3,.ptr 1 0),(4,.dat i64 v4)] [(1,.box [.nil,.nil,.nil]),(0,.box [.nil,.nil,.nil])] 2
theorem Ak(v1:AF):stepT B1 (L1 v1)=L2 v1 0:=by kernel_rfl
def L3(v1:AF)(v4 d:Int)(e a b c:Z):Tr:=re ((stepT B1<|L2 ([],([],[])) 0).L.L.L.L.L)<|Aw 128 [(1,PV.Bb Bc v1 0),(2,.ptr 0 0),(3,.ptr 1 0),(4,.dat i64 v4),(5,.ptr 2 0),(6,.dat i64 d)] [(2,.box [.dat ze e,.dat ze a,.dat ze b,.dat ze c,.nil]),(1,.box [.nil,.nil,.nil]),(0,.box [.nil,.nil,.nil])] 3
def L4(v1:AF)(a:Int):Tr:=re ((stepT B1<|L2 ([],([],[])) 0).R)<|Aw 128 [(1,PV.Bb Bc v1 0),(2,.ptr 0 0),(3,.ptr 1 0),(7,.dat i64 a)] [(1,.box [.nil,.nil,.nil]),(0,.box [.nil,.nil,.nil])] 2
theorem Az(v1:AF)(v4:Int):stepT B1 (L2 v1 v4)=let b':=getD (fst v1) (toNat v4) ([],[],[],[],[]);let b:=decide (v4<(↑(length<|fst v1):Int));let a:=decide (0<=v4)&&b;.ite b (.ck a<|.ck a<|.ck a<|.ck a<|L3 v1 v4 0 (fst b') (fst<|snd b') (fst<|snd<|snd b')<|fst<|snd<|snd<|snd b') (L4 v1 0):=by kernel_rfl
def L5(v1:AF)(v4 f:Int)(g:List EB)(e c b a:Z)(d:Nat):Tr:=re ((stepT B1<|L3 ([],([],[])) 0 0 [] [] [] []).L.L.L.L.L.L.L)<|Aw 128 [(1,PV.Bb Bc v1 0),(2,.ptr 0 0),(3,.ptr 1 0),(4,.dat i64 v4),(5,.ptr 2 0),(6,.dat i64 f)] [(3,.arr false 84 Te g),(2,.box [.dat ze e,.dat ze c,.dat ze b,.dat ze a,.sl 3 2 0 d none]),(1,.box [.nil,.nil,.nil]),(0,.box [.nil,.nil,.nil])] 4
def L6(v1:AF)(v4:Int)(b:List Bn)(a:Nat):Tr:=re ((stepT B1<|L3 ([],([],[])) 0 0 [] [] [] []).L.R.L)<|Aw 128 [(1,PV.Bb Bc v1 0),(2,.ptr 0 0),(3,.ptr 1 0),(4,.dat i64 v4)] [(2,.arr false 81 Bt b),(1,.box [.sl 2 5 0 a none,.nil,.nil]),(0,.box [.nil,.nil,.nil])] 3
theorem Bq(v1:AF)(v4 d:Int)(f c a b:Z):stepT B1 (L3 v1 v4 d f c a b)=let g:=snd<|snd<|snd<|snd<|getD (fst v1) (toNat v4) ([],[],[],[],[]);let b':=decide (0<=v4)&&decide (v4<(↑(length<|fst v1):Int));let e:=decide (d<(↑(length g):Int));.ck b' (.ite e (.ck b'<|.ck (decide (0<=d)&&e)<|.ck b'<|.ck (decide (0<=d)&&e)<|.ck (aa 24)<|L5 v1 v4 (zf .i64<|d+1) ([(getD g (toNat d) ([],0))]) f c a b 1)<|.ck (aa 88)<|L6 v1 (zf .i64<|v4+1) ([(f,c,a,b,[])]) 1):=by kernel_rfl
def L7(v1:AF)(b:Int)(c:List B3)(a:Nat):Tr:=re ((stepT B1<|L4 ([],([],[])) 0).L.L.L.L)<|Aw 128 [(1,PV.Bb Bc v1 0),(2,.ptr 0 0),(3,.ptr 1 0),(7,.dat i64 b)] [(2,.arr false 87 CM c),(1,.box [.nil,.sl 2 2 0 a none,.nil]),(0,.box [.nil,.nil,.nil])] 3
def L8(v1:AF)(a:Int):Tr:=re ((stepT B1<|L4 ([],([],[])) 0).R)<|Aw 128 [(1,PV.Bb Bc v1 0),(2,.ptr 0 0),(3,.ptr 1 0),(8,.dat i64 a)] [(1,.box [.nil,.nil,.nil]),(0,.box [.nil,.nil,.nil])] 2
theorem Ck(v1:AF)(a:Int):stepT B1 (L4 v1 a)=let b:=decide (a<(↑(length<|fst<|snd v1):Int));.ite b (.ck (decide (0<=a)&&b)<|.ck (decide (0<=a)&&b)<|.ck (aa 40)<|L7 v1 (zf .i64<|a+1) ([(getD (fst<|snd v1) (toNat a) ([],[]))]) 1) (L8 v1 0):=by kernel_rfl
theorem EF(v1:AF)(v4 e:Int)(f:List EB)(h d c b:Z)(a:Nat):stepT B1 (L5 v1 v4 e f h d c b a)=let i:=snd<|snd<|snd<|snd<|getD (fst v1) (toNat v4) ([],[],[],[],[]);let b':=decide (0<=v4)&&decide (v4<(↑(length<|fst v1):Int));let g:=decide (e<(↑(length i):Int));.ck b' (.ite g (.ck b'<|.ck (decide (0<=e)&&g)<|.ck b'<|.ck (decide (0<=e)&&g)<|.ck (ac a (length f) 24)<|L5 v1 v4 (zf .i64<|e+1) (f++[(getD i (toNat e) ([],0))]) h d c b<|yc a 1)<|.ck (decide (0+a<=length f)&&true)<|.ck (aa 88)<|L6 v1 (zf .i64<|v4+1) ([(h,d,c,b,take a f)]) 1):=by kernel_rfl
def L9(v1:AF)(v4 f:Int)(g:List Bn)(e c b a:Z)(d:Nat):Tr:=re ((stepT B1<|L6 ([],([],[])) 0 [] 0).L.L.L.L.L)<|Aw 128 [(1,PV.Bb Bc v1 0),(2,.ptr 0 0),(3,.ptr 1 0),(4,.dat i64 v4),(5,.ptr 2 0),(6,.dat i64 f)] [(3,.arr false 81 Bt g),(2,.box [.dat ze e,.dat ze c,.dat ze b,.dat ze a,.nil]),(1,.box [.sl 3 5 0 d none,.nil,.nil]),(0,.box [.nil,.nil,.nil])] 4
def L10(v1:AF)(b:Int)(c:List Bn)(a:Nat):Tr:=re ((stepT B1<|L6 ([],([],[])) 0 [] 0).R)<|Aw 128 [(1,PV.Bb Bc v1 0),(2,.ptr 0 0),(3,.ptr 1 0),(7,.dat i64 b)] [(2,.arr false 81 Bt c),(1,.box [.sl 2 5 0 a none,.nil,.nil]),(0,.box [.nil,.nil,.nil])] 3
theorem E2(v1:AF)(v4:Int)(c:List Bn)(a:Nat):stepT B1 (L6 v1 v4 c a)=let b':=getD (fst v1) (toNat v4) ([],[],[],[],[]);let d:=decide (v4<(↑(length<|fst v1):Int));let b:=decide (0<=v4)&&d;.ite d (.ck b<|.ck b<|.ck b<|.ck b<|L9 v1 v4 0 c (fst b') (fst<|snd b') (fst<|snd<|snd b') (fst<|snd<|snd<|snd b') a) (L10 v1 0 c a):=by kernel_rfl
def L11(v1:AF)(c:Int)(b:List B3)(a:Nat):Tr:=re ((stepT B1<|L7 ([],([],[])) 0 [] 0).R)<|Aw 128 [(1,PV.Bb Bc v1 0),(2,.ptr 0 0),(3,.ptr 1 0),(8,.dat i64 c)] [(2,.arr false 87 CM b),(1,.box [.nil,.sl 2 2 0 a none,.nil]),(0,.box [.nil,.nil,.nil])] 3
theorem DW(v1:AF)(b:Int)(c:List B3)(a:Nat):stepT B1 (L7 v1 b c a)=let d:=decide (b<(↑(length<|fst<|snd v1):Int));.ite d (.ck (decide (0<=b)&&d)<|.ck (decide (0<=b)&&d)<|.ck (ac a (length c) 40)<|L7 v1 (zf .i64<|b+1) (c++[(getD (fst<|snd v1) (toNat b) ([],[]))])<|yc a 1) (L11 v1 0 c a):=by kernel_rfl
def L12(v1:AF)(c:Int)(b:List Bm)(a:Nat):Tr:=re ((stepT B1<|L8 ([],([],[])) 0).L.L.L.L)<|Aw 128 [(1,PV.Bb Bc v1 0),(2,.ptr 0 0),(3,.ptr 1 0),(8,.dat i64 c)] [(2,.arr false 91 Bh b),(1,.box [.nil,.nil,.sl 2 5 0 a none]),(0,.box [.nil,.nil,.nil])] 3
theorem HH(v1:AF)(a:Int):stepT B1 (L8 v1 a)=let b:=getD (snd<|snd v1) (toNat a) ([],[],[],[],[]);let b':=decide (a<(↑(length<|snd<|snd v1):Int));.ite b' (.ck (decide (0<=a)&&b')<|.ck (hI b)<|.ck (aa 96)<|L12 v1 (zf .i64<|a+1) ([b]) 1) (.leaf (yt [.nil,.nil,.nil]) []):=by kernel_rfl
def L13(v1:AF)(v4 i:Int)(f:List EB)(h:List Bn)(g c b a:Z)(e d:Nat):Tr:=re ((stepT B1<|L9 ([],([],[])) 0 0 [] [] [] [] [] 0).L.L.L.L.L.L.L)<|Aw 128 [(1,PV.Bb Bc v1 0),(2,.ptr 0 0),(3,.ptr 1 0),(4,.dat i64 v4),(5,.ptr 2 0),(6,.dat i64 i)] [(4,.arr false 84 Te f),(3,.arr false 81 Bt h),(2,.box [.dat ze g,.dat ze c,.dat ze b,.dat ze a,.sl 4 2 0 e none]),(1,.box [.sl 3 5 0 d none,.nil,.nil]),(0,.box [.nil,.nil,.nil])] 5
theorem kR(v1:AF)(v4 e:Int)(f:List Bn)(h d c b:Z)(a:Nat):stepT B1 (L9 v1 v4 e f h d c b a)=let i:=snd<|snd<|snd<|snd<|getD (fst v1) (toNat v4) ([],[],[],[],[]);let b':=decide (0<=v4)&&decide (v4<(↑(length<|fst v1):Int));let g:=decide (e<(↑(length i):Int));.ck b' (.ite g (.ck b'<|.ck (decide (0<=e)&&g)<|.ck b'<|.ck (decide (0<=e)&&g)<|.ck (aa 24)<|L13 v1 v4 (zf .i64<|e+1) ([(getD i (toNat e) ([],0))]) f h d c b 1 a)<|.ck (ac a (length f) 88)<|L6 v1 (zf .i64<|v4+1) (f++[(h,d,c,b,[])])<|yc a 1):=by kernel_rfl
def L14(v1:AF)(c:Int)(d:List B3)(e:List Bn)(b a:Nat):Tr:=re ((stepT B1<|L10 ([],([],[])) 0 [] 0).L.L.L.L)<|Aw 128 [(1,PV.Bb Bc v1 0),(2,.ptr 0 0),(3,.ptr 1 0),(7,.dat i64 c)] [(3,.arr false 87 CM d),(2,.arr false 81 Bt e),(1,.box [.sl 2 5 0 b none,.sl 3 2 0 a none,.nil]),(0,.box [.nil,.nil,.nil])] 4
def L15(v1:AF)(c:Int)(b:List Bn)(a:Nat):Tr:=re ((stepT B1<|L10 ([],([],[])) 0 [] 0).R)<|Aw 128 [(1,PV.Bb Bc v1 0),(2,.ptr 0 0),(3,.ptr 1 0),(8,.dat i64 c)] [(2,.arr false 81 Bt b),(1,.box [.sl 2 5 0 a none,.nil,.nil]),(0,.box [.nil,.nil,.nil])] 3
theorem Uf(v1:AF)(b:Int)(c:List Bn)(a:Nat):stepT B1 (L10 v1 b c a)=let d:=decide (b<(↑(length<|fst<|snd v1):Int));.ite d (.ck (decide (0<=b)&&d)<|.ck (decide (0<=b)&&d)<|.ck (aa 40)<|L14 v1 (zf .i64<|b+1) ([(getD (fst<|snd v1) (toNat b) ([],[]))]) c a 1) (L15 v1 0 c a):=by kernel_rfl
def L16(v1:AF)(c:Int)(d:List Bm)(e:List B3)(b a:Nat):Tr:=re ((stepT B1<|L11 ([],([],[])) 0 [] 0).L.L.L.L)<|Aw 128 [(1,PV.Bb Bc v1 0),(2,.ptr 0 0),(3,.ptr 1 0),(8,.dat i64 c)] [(3,.arr false 91 Bh d),(2,.arr false 87 CM e),(1,.box [.nil,.sl 2 2 0 b none,.sl 3 5 0 a none]),(0,.box [.nil,.nil,.nil])] 4
theorem mX(v1:AF)(b:Int)(c:List B3)(a:Nat):stepT B1 (L11 v1 b c a)=let d:=getD (snd<|snd v1) (toNat b) ([],[],[],[],[]);let b':=decide (b<(↑(length<|snd<|snd v1):Int));.ite b' (.ck (decide (0<=b)&&b')<|.ck (hI d)<|.ck (aa 96)<|L16 v1 (zf .i64<|b+1) ([d]) c a 1) (.leaf (yt [.nil,.sl 2 2 0 a none,.nil])<|[(2,.arr false 87 CM c),(1,.box [.nil,.sl 2 2 0 a none,.nil]),(0,.box [.nil,.sl 2 2 0 a none,.nil])]):=by kernel_rfl
theorem pP(v1:AF)(b:Int)(c:List Bm)(a:Nat):stepT B1 (L12 v1 b c a)=let d:=getD (snd<|snd v1) (toNat b) ([],[],[],[],[]);let b':=decide (b<(↑(length<|snd<|snd v1):Int));.ite b' (.ck (decide (0<=b)&&b')<|.ck (hI d)<|.ck (ac a (length c) 96)<|L12 v1 (zf .i64<|b+1) (c++[d])<|yc a 1) (.leaf (yt [.nil,.nil,.sl 2 5 0 a none])<|[(2,.arr false 91 Bh c),(1,.box [.nil,.nil,.sl 2 5 0 a none]),(0,.box [.nil,.nil,.sl 2 5 0 a none])]):=by kernel_rfl
theorem oU(v1:AF)(v4 f:Int)(g:List EB)(h:List Bn)(j e d c:Z)(a b:Nat):stepT B1 (L13 v1 v4 f g h j e d c a b)=let k:=snd<|snd<|snd<|snd<|getD (fst v1) (toNat v4) ([],[],[],[],[]);let b':=decide (0<=v4)&&decide (v4<(↑(length<|fst v1):Int));let i:=decide (f<(↑(length k):Int));.ck b' (.ite i (.ck b'<|.ck (decide (0<=f)&&i)<|.ck b'<|.ck (decide (0<=f)&&i)<|.ck (ac a (length g) 24)<|L13 v1 v4 (zf .i64<|f+1) (g++[(getD k (toNat f) ([],0))]) h j e d c (yc a 1) b)<|.ck (decide (0+a<=length g)&&true)<|.ck (ac b (length h) 88)<|L6 v1 (zf .i64<|v4+1) (h++[(j,e,d,c,take a g)])<|yc b 1):=by kernel_rfl
def L17(v1:AF)(c:Int)(d:List B3)(e:List Bn)(b a:Nat):Tr:=re ((stepT B1<|L14 ([],([],[])) 0 [] [] 0 0).R)<|Aw 128 [(1,PV.Bb Bc v1 0),(2,.ptr 0 0),(3,.ptr 1 0),(8,.dat i64 c)] [(3,.arr false 87 CM d),(2,.arr false 81 Bt e),(1,.box [.sl 2 5 0 b none,.sl 3 2 0 a none,.nil]),(0,.box [.nil,.nil,.nil])] 4
theorem lK(v1:AF)(c:Int)(d:List B3)(f:List Bn)(b a:Nat):stepT B1 (L14 v1 c d f b a)=let e:=decide (c<(↑(length<|fst<|snd v1):Int));.ite e (.ck (decide (0<=c)&&e)<|.ck (decide (0<=c)&&e)<|.ck (ac a (length d) 40)<|L14 v1 (zf .i64<|c+1) (d++[(getD (fst<|snd v1) (toNat c) ([],[]))]) f b<|yc a 1) (L17 v1 0 d f b a):=by kernel_rfl
def L18(v1:AF)(c:Int)(d:List Bm)(e:List Bn)(b a:Nat):Tr:=re ((stepT B1<|L15 ([],([],[])) 0 [] 0).L.L.L.L)<|Aw 128 [(1,PV.Bb Bc v1 0),(2,.ptr 0 0),(3,.ptr 1 0),(8,.dat i64 c)] [(3,.arr false 91 Bh d),(2,.arr false 81 Bt e),(1,.box [.sl 2 5 0 b none,.nil,.sl 3 5 0 a none]),(0,.box [.nil,.nil,.nil])] 4
theorem oC(v1:AF)(b:Int)(c:List Bn)(a:Nat):stepT B1 (L15 v1 b c a)=let d:=getD (snd<|snd v1) (toNat b) ([],[],[],[],[]);let b':=decide (b<(↑(length<|snd<|snd v1):Int));.ite b' (.ck (decide (0<=b)&&b')<|.ck (hI d)<|.ck (aa 96)<|L18 v1 (zf .i64<|b+1) ([d]) c a 1) (.leaf (yt [.sl 2 5 0 a none,.nil,.nil])<|[(2,.arr false 81 Bt c),(1,.box [.sl 2 5 0 a none,.nil,.nil]),(0,.box [.sl 2 5 0 a none,.nil,.nil])]):=by kernel_rfl
theorem rC(v1:AF)(c:Int)(d:List Bm)(e:List B3)(b a:Nat):stepT B1 (L16 v1 c d e b a)=let f:=getD (snd<|snd v1) (toNat c) ([],[],[],[],[]);let b':=decide (c<(↑(length<|snd<|snd v1):Int));.ite b' (.ck (decide (0<=c)&&b')<|.ck (hI f)<|.ck (ac a (length d) 96)<|L16 v1 (zf .i64<|c+1) (d++[f]) e b<|yc a 1) (.leaf (yt [.nil,.sl 2 2 0 b none,.sl 3 5 0 a none])<|[(3,.arr false 91 Bh d),(2,.arr false 87 CM e),(1,.box [.nil,.sl 2 2 0 b none,.sl 3 5 0 a none]),(0,.box [.nil,.sl 2 2 0 b none,.sl 3 5 0 a none])]):=by kernel_rfl
def L19(v1:AF)(e:Int)(d:List Bm)(f:List B3)(g:List Bn)(c a b:Nat):Tr:=re ((stepT B1<|L17 ([],([],[])) 0 [] [] 0 0).L.L.L.L)<|Aw 128 [(1,PV.Bb Bc v1 0),(2,.ptr 0 0),(3,.ptr 1 0),(8,.dat i64 e)] [(4,.arr false 91 Bh d),(3,.arr false 87 CM f),(2,.arr false 81 Bt g),(1,.box [.sl 2 5 0 c none,.sl 3 2 0 a none,.sl 4 5 0 b none]),(0,.box [.nil,.nil,.nil])] 5
theorem nP(v1:AF)(c:Int)(d:List B3)(e:List Bn)(b a:Nat):stepT B1 (L17 v1 c d e b a)=let f:=getD (snd<|snd v1) (toNat c) ([],[],[],[],[]);let b':=decide (c<(↑(length<|snd<|snd v1):Int));.ite b' (.ck (decide (0<=c)&&b')<|.ck (hI f)<|.ck (aa 96)<|L19 v1 (zf .i64<|c+1) ([f]) d e b a 1) (.leaf (yt [.sl 2 5 0 b none,.sl 3 2 0 a none,.nil])<|[(3,.arr false 87 CM d),(2,.arr false 81 Bt e),(1,.box [.sl 2 5 0 b none,.sl 3 2 0 a none,.nil]),(0,.box [.sl 2 5 0 b none,.sl 3 2 0 a none,.nil])]):=by kernel_rfl
theorem lQ(v1:AF)(c:Int)(d:List Bm)(e:List Bn)(b a:Nat):stepT B1 (L18 v1 c d e b a)=let f:=getD (snd<|snd v1) (toNat c) ([],[],[],[],[]);let b':=decide (c<(↑(length<|snd<|snd v1):Int));.ite b' (.ck (decide (0<=c)&&b')<|.ck (hI f)<|.ck (ac a (length d) 96)<|L18 v1 (zf .i64<|c+1) (d++[f]) e b<|yc a 1) (.leaf (yt [.sl 2 5 0 b none,.nil,.sl 3 5 0 a none])<|[(3,.arr false 91 Bh d),(2,.arr false 81 Bt e),(1,.box [.sl 2 5 0 b none,.nil,.sl 3 5 0 a none]),(0,.box [.sl 2 5 0 b none,.nil,.sl 3 5 0 a none])]):=by kernel_rfl
theorem nF(v1:AF)(d:Int)(e:List Bm)(g:List B3)(f:List Bn)(c b a:Nat):stepT B1 (L19 v1 d e g f c b a)=let h:=getD (snd<|snd v1) (toNat d) ([],[],[],[],[]);let b':=decide (d<(↑(length<|snd<|snd v1):Int));.ite b' (.ck (decide (0<=d)&&b')<|.ck (hI h)<|.ck (ac a (length e) 96)<|L19 v1 (zf .i64<|d+1) (e++[h]) g f c b<|yc a 1) (.leaf (yt [.sl 2 5 0 c none,.sl 3 2 0 b none,.sl 4 5 0 a none])<|[(4,.arr false 91 Bh e),(3,.arr false 87 CM g),(2,.arr false 81 Bt f),(1,.box [.sl 2 5 0 c none,.sl 3 2 0 b none,.sl 4 5 0 a none]),(0,.box [.sl 2 5 0 c none,.sl 3 2 0 b none,.sl 4 5 0 a none])]):=by kernel_rfl
end T7
end
end Go.Pe
