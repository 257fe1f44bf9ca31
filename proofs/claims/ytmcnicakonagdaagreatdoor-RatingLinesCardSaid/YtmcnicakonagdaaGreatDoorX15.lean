import Derived.Test.YtmcnicakonagdaaGreatDoorX14
import Derived.Test.YtmcnicakonagdaaGreatDoorX13
/- A part of a proof (no law is stated here). Made by program out of texts by AI agents. -/
noncomputable section
set_option maxRecDepth 10000
open Go.Pe.Ends renaming tt -> zc, leaf -> zf, ite -> zk, Ap -> zm, eq -> zq, ff -> zz
open Bool renaming and_eq_true -> zd, true_and -> yq, or_eq_true -> qn
open Go.IntKind renaming u64 -> ze, wrap -> zj
open Go.Pe.Sh renaming nlist -> zg, str -> zh, pair -> zi, int -> zl, list -> z6
open Go.Lib renaming decDigits -> zn, itoa -> y9
open Int renaming toNat_natCast -> zo, gcd -> yp, natAbs_of_nonneg -> yr, mul_ne_zero -> yx, natAbs_mul -> y7, mul_ediv_cancel_left -> qc, tdiv_eq_ediv_of_dvd -> qg, sign_eq_one_of_pos -> qj, le_of_lt -> qk, mul_nonneg -> qo, gcd_comm -> qp
open Rat renaming divInt -> zp, add_zero -> yg, zero_add -> yz, add_assoc -> qe, num_eq_zero -> qm
open List renaming length_cons -> zr, mem_of_mem_drop -> zt, length_append -> zu, mem_cons_self -> zw, all_eq_true -> ya, length_singleton -> yd, getD_eq_getElem?_getD -> yf, length_map -> yi, length_eq_zero_iff -> yj, take_of_length_le -> yk, getElem?_eq_none -> yo, length_pos_iff -> yy, map_cons -> qd, length_drop -> qf, take_length -> qh, drop_eq_nil_of_le -> qi, mem_map -> qt
open Go.Pe.Ad renaming of -> zx
open Go.Sp renaming BK -> zy, rW -> yb, first -> yc, rN -> yh, B9 -> yt, vR -> qq
open Nat renaming le_refl -> z7, zero_le -> z8, add -> ye, pow_le_pow_right -> yu, lt_of_le_of_lt -> y8
open Classical renaming not_not -> yn
open Prod renaming fst -> yv, snd -> yw
open Go.Fn renaming func -> ql
namespace Go.Sp
open Go.Lib
theorem Wd(n:Int):rN n=decide (n<0):=rfl
theorem MN(a:Bool×List Int):(a.1=true->vR a= -At a.2)/\(a.1=false->vR a=At a.2):=by
 unfold vR;exact⟨fun h=>by rw[wd h],fun h=>by rw[wc (by rw[h];decide)]⟩
theorem NZ{neg:Bool}{w:List Int}{n:Int}(hd:Av B9 w)(h0:0<=At w)(h1:neg=true->n= -At w)(h2:neg=false->n=At w):(Cd neg w,Au w)=(rN n,rW n):=by
 refine iB hd ?_ (fun hn=>?_)
 ·rw[Ah];cases neg with
  |true=>have:=h1 rfl;omega
  |false=>have:=h2 rfl;omega
 ·rw[Wd];cases neg with
  |true=>have:=h1 rfl;symm;rw[w5];omega
  |false=>have:=h2 rfl;symm;rw[w9];omega
theorem IM{n:Int}(h:0<=n):At (BQ n)=n/\Av B9 (BQ n):=⟨CQ (b:=B9) (by decide) h,Fa (b:=B9) (by decide) n⟩
theorem ZC{a b:Bool×List Int}(ha:CI a=true)(hb:CI b=true)(h:a.1=b.1):(Cd a.1 (LR a.2 b.2),Au (LR a.2 b.2))=(Mw a b,Ms a b):=by
 have a0:=(GF ha).2;have b0:=(GF hb).2;obtain⟨e1,e2⟩:=MN a;obtain⟨f1,f2⟩:=MN b;obtain⟨hv,hd⟩:=IM (n:=At a.2+At b.2) (by omega);refine NZ hd (by show 0<=At (BQ _);omega) (fun k=>?_) (fun k=>?_)
 ·rw[e1 k,f1 (by rw[<-h];exact k)];show _= -At (BQ _);omega
 ·rw[e2 k,f2 (by rw[<-h];exact k)];show _=At (BQ _);omega
theorem XK{a b:Bool×List Int}(hb:CI b=true)(h:a.1≠b.1)(hl:At b.2<=At a.2):(Cd a.1 (Gt a.2 b.2),Au (Gt a.2 b.2))=(Mw a b,Ms a b):=by
 have b0:=(GF hb).2;obtain⟨e1,e2⟩:=MN a;obtain⟨f1,f2⟩:=MN b;obtain⟨hv,hd⟩:=IM (n:=At a.2-At b.2) (by omega);refine NZ hd (by show 0<=At (BQ _);omega) (fun k=>?_) (fun k=>?_)
 ·rw[e1 k,f2 (by rw[k]at h;cases hb:b.1 with|true=>exact wh hb.symm h|false=>rfl)];show _= -At (BQ _);omega
 ·rw[e2 k,f1 (by rw[k]at h;cases hb:b.1 with|true=>rfl|false=>exact wh hb.symm h)];show _=At (BQ _);omega
theorem oD{a b:Bool×List Int}(ha:CI a=true)(h:a.1≠b.1)(hl:At a.2<=At b.2):(Cd b.1 (Gt b.2 a.2),Au (Gt b.2 a.2))=(Mw a b,Ms a b):=by
 have:=XK ha (fun k=>h k.symm) hl;rw[this];unfold Mw Ms;rw[Int.add_comm]
theorem bC{a b:Bool×List Int}(ha:CI a=true)(hb:CI b=true):(Cd (a.1 !=b.1) (BQ (At a.2*At b.2)),Au (BQ (At a.2*At b.2)))=(Hd a b,HD a b):=by
 have a0:=(GF ha).2;have b0:=(GF hb).2;obtain⟨e1,e2⟩:=MN a;obtain⟨f1,f2⟩:=MN b;have p0:=qo a0 b0;obtain⟨hv,hd⟩:=IM p0;refine NZ hd (by omega) (fun k=>?_) (fun k=>?_)
 ·rw[hv];cases h1:a.1<;>cases h2:b.1<;>rw[h1,h2]at k
  ·exact wh k (by decide)
  ·rw[e2 h1,f1 h2,Int.mul_neg]
  ·rw[e1 h1,f2 h2,Int.neg_mul]
  ·exact wh k (by decide)
 ·rw[hv];cases h1:a.1<;>cases h2:b.1<;>rw[h1,h2]at k
  ·rw[e2 h1,f2 h2]
  ·exact wh k (by decide)
  ·exact wh k (by decide)
  ·rw[e1 h1,f1 h2,Int.neg_mul,Int.mul_neg,Int.neg_neg]
theorem jL{a:Bool×List Int}(ha:CI a=true):(Cd (!a.1) a.2,Au a.2)=(Se a,Ry a):=by
 have a0:=(GF ha).2;obtain⟨e1,e2⟩:=MN a;refine NZ (Bm (Dr ha).1).2.1 a0 (fun k=>?_) (fun k=>?_)
 ·rw[e2 (by simpa using k)]
 ·rw[e1 (by simpa using k),Int.neg_neg]
theorem nX{w:List Int}{i:Nat}(hl:w.length=i+1):val B9 (w.drop i)=w.getD i 0:=by
 rw[GZ,qi (by omega)];show _+1000000000*0=_;omega
theorem Vo{w:List Int}(hw:A8 w=true){i:Nat}(hl:w.length=i+1):HQ (w.getD i 0) 1=decDigits (val B9 (w.drop i)).toNat/\0<val B9 (w.drop i):=by
 have g:=Bx hw i;have t:=Rm hw (i:=i) (by omega) (by omega);rw[nX hl];exact⟨PS g.1 (by omega),by omega⟩
theorem YM{w:List Int}(hw:A8 w=true)(i:Nat)(h0:0<val B9 (w.drop (i+1))):decDigits (val B9 (w.drop (i+1))).toNat++HQ (w.getD i 0) 9=decDigits (val B9 (w.drop i)).toNat/\0<val B9 (w.drop i):=by
 have g:=Bx hw i;rw[GZ w i,YG g.1 g.2];generalize val B9 (w.drop (i+1))=V at*;generalize w.getD i 0=x at*;have h:=SJ 9 V.toNat x.toNat (by decide) (by omega) (by omega);refine⟨?_,by omega⟩;rw[<-h];congr 1;omega
theorem Z8{a:Bool×List Int}(ha:CI a=true)(hne:a.2≠[]):(if a.1=true then 45::decDigits (At a.2).toNat else decDigits (At a.2).toNat)=HF a:=by
 obtain⟨e1,e2⟩:=MN a;have h0:0<At a.2:=IW (b:=B9) (by decide) (Bm (Dr ha).1).2.1 (Bm (Dr ha).1).2.2 hne;unfold HF AW itoa;by_cases h:a.1=true
 ·rw[wd h,e1 h,wd (by omega),show(-At a.2).natAbs=(At a.2).toNat by omega]
 ·have h:a.1=false:=by simpa using h
  rw[wc (by rw[h];decide),e2 h,wc (by omega)]
theorem iI{a:Bool×List Int}(h:a.2=[]):[48]=HF a:=by
 have:vR a=0:=by
  unfold vR;rw[h];split<;>rfl
 unfold HF AW itoa;rw[this,wc (by decide),show(0:Int).toNat=0 from rfl,decDigits_one (by decide)];rfl
theorem HC{N D:Int}(hD:0<D):0<gI (Ae N) D/\Ae N/gI (Ae N) D=Ae (zp N D).num/\D/gI (Ae N) D=((zp N D).den:Int)/\(N<0↔(zp N D).num<0):=by
 have hs:D.sign=1:=qj hD;have e1:(zp N D).num=N/(yp N D:Int):=by rw[Rat.num_divInt,hs,Int.one_mul,qp]
 have e2:((zp N D).den:Int)=D/(yp N D:Int):=by
  rw[Rat.den_divInt,wc (Int.ne_of_gt hD),qp,Int.natCast_ediv];rw[yr (qk hD)]
 have eg:gI (Ae N) D=(yp N D:Int):=by rw[Gv,Ah];rfl
 have hg:0<yp N D:=Int.gcd_pos_of_ne_zero_right _ (by omega);obtain⟨k,hk⟩:(yp N D:Int)∣N:=Int.gcd_dvd_left ..;rw[eg,e1,e2];have hg:(0:Int)<(yp N D:Int):=by omega
 generalize (yp N D:Int)=g at*;have h1:N/g=k:=by rw[hk,qc _ (by omega)]
 have h2:Ae N/g=Ae k:=by
  rw[Ah,Ah,hk,y7,Int.natCast_mul,show((g.natAbs:Nat):Int)=g by omega,qc _ (by omega)]
 refine⟨hg,by rw[h1,h2],rfl,?_⟩;rw[h1];constructor
 ·intro h;rcases Int.lt_or_le k 0 with x|x
  ·exact x
  ·have:=qo (qk hg) x;omega
 ·intro h;have:=Int.mul_neg_of_pos_of_neg hg h;omega
theorem eJ{N D:Int}(hD:0<D){neg:Bool}(hn:neg=rN N):(Cd neg (BQ (Ae N/gI (Ae N) D)),Au (BQ (Ae N/gI (Ae N) D)))=(rN (zp N D).num,rW (zp N D).num):=by
 obtain⟨_,h1,_,h3⟩:=HC (N:=N) hD;rw[h1];have a0:=Nh (zp N D).num;obtain⟨hv,hd⟩:=IM a0;refine iB hd hv (fun _=>?_);rw[hn,Wd,Wd,decide_eq_decide];exact h3
theorem pC{n:Int}(h0:0<=n):BQ n=[1]↔n=1:=by
 constructor
 ·intro h;have:=(IM h0).1;rw[h]at this;exact this.symm
 ·rintro rfl;rfl
theorem Qm{N D:Int}:C3 N D=if (zp N D).den=1 then AW (zp N D).num else AW (zp N D).num++47::AW ((zp N D).den:Int):=by
 unfold C3 AO;split
 ·rfl
 ·rw[show AW ((zp N D).den:Int)=decDigits (zp N D).den from Lib.itoa_nonneg _];rfl
theorem TA(N D:Int):C3 (-N) (-D)=C3 N D:=by
 unfold C3;rw[Rat.neg_divInt_neg]
theorem O2{s:List UInt8}(h:Bt s=true):A6 s=Iv s/\AH s=R2 s/\Aj (Ay (AZ s))=true/\Aj (AL (AZ s))=true:=by
 obtain⟨t,_⟩:=FV h;obtain⟨c1,c2,c3⟩:=GK (Aw s);obtain⟨p1,p2,p3,p4⟩:=X1 s;obtain⟨i1,i2,i3,i4⟩:=DK (Aw s).num;rw[t]at c1 c2 c3;have hB:Aj (AL s)=true:=by
  rw[c2];split
  ·rfl
  ·exact D5 _
 refine⟨?_,?_,?_,?_⟩
 ·unfold A6 Iv Ce;rw[p1, <-p4];unfold AZ preB;by_cases hc:(Ay s).getD 0 0=45
  ·rw[wd hc,wd hc,wd (w4 hc)]
  ·rw[wc hc,wc hc,wc (by rw[w8 hc];decide)]
 ·unfold AH R2 Ce;rw[p2,p3,wc (Fg hB)]
 ·rw[p1,c1,i2];exact D5 _
 ·rw[p2];exact hB
theorem Gc{s:List UInt8}(h:Bt s=true)(hq:DJ s=true):iM s=A6 s/\Tc s=AH s/\ -1000000000<A6 s/\A6 s<1000000000/\0<AH s/\AH s<1000000000:=by
 obtain⟨h1,h2,h3,h4⟩:=O2 h;have hd:0<AH s:=by
  have:=(EC h).2.2.2.2.2.1;have:=(Aw s).den_pos;omega
 unfold iM Tc;rw[wd hq,wd hq];unfold DJ at hq;rw[zd,zd,w5,w5,w5]at hq;obtain⟨⟨_,l1⟩,l2⟩:=hq;have b1:=Be h3;have b2:=Be h4;have m1:(10:Int)^(Ay (AZ s)).length<=10^9:=AK (by decide) l1;have m2:(10:Int)^(AL (AZ s)).length<=10^9:=AK (by decide) l2;refine⟨h1.symm,h2.symm,?_,?_,hd,?_⟩
 ·rw[h1];unfold Iv;split<;>omega
 ·rw[h1];unfold Iv;split<;>omega
 ·rw[h2];unfold R2;split<;>omega
theorem Yx{a b:List UInt8}(ha:Bt a=true)(hb:Bt b=true):EH a b=C3 (A6 a*AH b+AH a*A6 b) (AH a*AH b)/\EH a b=C3 (A6 a*AH b+A6 b*AH a) (AH a*AH b):=by
 have d1:AH a≠0:=by
  have:=(EC ha).2.2.2.2.2.1;have:=(Aw a).den_pos;omega
 have d2:AH b≠0:=by
  have:=(EC hb).2.2.2.2.2.1;have:=(Aw b).den_pos;omega
 have e:EH a b=C3 (A6 a*AH b+A6 b*AH a) (AH a*AH b):=by
  unfold EH C3 Aw;rw[Rat.divInt_add_divInt _ _ d1 d2]
 exact⟨by rw[e,Int.mul_comm (AH a) (A6 b)],e⟩
theorem Yp{a b:List UInt8}:Es a b=C3 (A6 a*A6 b) (AH a*AH b):=by
 unfold Es C3 Aw;rw[Rat.divInt_mul_divInt]
theorem YO{a:List UInt8}:Qd a=C3 (AH a) (A6 a):=by
 unfold Qd C3 Aw;rw[Rat.inv_divInt]
end Go.Sp
namespace Go.Sp
theorem Ta:∀(f n l:Nat) (acc:List UInt8),(HE f n l acc).length<=acc.length+f
 |0,_,_,acc=>z7 _
 |f+1,n,l,acc=>by
  unfold HE;split
  ·omega
  ·have:=Ta f (n/10) l (UInt8.ofNat (48+n % 10)::acc);rw[zr]at this;omega
theorem Pt(n l:Int):(HQ n l).length<=64:=by
 have:=Ta 64 n.toNat l.toNat [];rw[List.length_nil,Nat.zero_add]at this;exact this
theorem Uk{v:Int}{k:Nat}(h:v<(B9:Int)^k)(hk:1<=k):(zn v.toNat).length<=9*k:=by
 rw[U1]at h;have h4:((10^(9*k):Nat):Int)=(10:Int)^(9*k):=Int.natCast_pow ..;rw[<-h4]at h;refine DO (k:=9*k) ?_ (by omega);have hp:0<10^(9*k):=Nat.pow_pos (by decide);generalize 10^(9*k)=P at*;omega
end Go.Sp
namespace Go.Pe
open Sp
open Go.Det
theorem wJ{s:Sh}(hs:s.sz=1){id n:Nat}{tail:Ob}{fz:Bool}{t:TypeId}{o:List s.T}(hn:n=o.length):La ⟨0,.leaf,(id,.arr fz t s o)::tail,0⟩ (.list s) (.sl id 1 0 n none)=some (true,o):=by
 subst hn;have h1:AP ((id,Obj.arr fz t s o)::tail) id=some (.arr fz t s o):=by unfold AP;rw[Nat.beq_refl];rfl
 unfold La;have h2:Fh ⟨0,.leaf,(id,.arr fz t s o)::tail,0⟩ (PV.cells (.sl id 1 0 o.length none))=some (true,[.dat (.list s) o]):=by
  show(match CT ⟨0,.leaf,(id,.arr fz t s o)::tail,0⟩ (.sl id 1 0 o.length none),some (true,[])with|some (c,x),some (d,xs)=>some (c&&d,x::xs)|_,_=>none)=_;have:CT ⟨0,.leaf,(id,.arr fz t s o)::tail,0⟩ (.sl id 1 0 o.length none)=some (true,.dat (.list s) o):=by
   unfold CT AJ.obj;simp only[h1,hs,Nat.beq_refl,we];simp
  rw[this];rfl
 simp only[Lv,Sh.P6];show(match Fh ⟨0,.leaf,(id,.arr fz t s o)::tail,0⟩ (PV.cells (.sl id 1 0 o.length none))with|some (c,cs)=>_|none=>none)=_;rw[h2];have:DH (.list s) [PV.dat (.list s) o]=some o:=by
  unfold DH Cp sG DS;simp
 simp only[VF,this,yq]
theorem kH{s:Sh}(hs:s.sz=1){id n:Nat}{tail:Ob}{fz:Bool}{t:TypeId}{o:List s.T}(hn:n=o.length):Yj [.list s] (.sl id 1 0 n none) ((id,.arr fz t s o)::tail)=some (true,o):=wJ hs hn
theorem Hc(a:List Int)(i:Nat):HM a (i:Int)=a.getD i 0:=by unfold HM;rw[zo]
theorem jR:DQ XR0:=fun g sp h=>by cases h
theorem T204.ok:Ag Bf 204 VK:=by
 refine BY jR (fun(i:List Int×Int) hi=>?_);obtain⟨a,i⟩:=i;have h0:0<=i:=w6 hi;have hq:∀v ob,v=HM a i->Ad VK (a,i) (.dat i64 v) ob:=fun v ob h=>zx rfl rfl h
 refine zq (T204.Ak a i) (zk (fun c=>zc (Aa (w4 h0) c) (zf (hq _ _ rfl))) (fun c=>zf (hq _ _ ?_)));have c:=w7 c;unfold HM;rw[yf,yo (by omega)];rfl
theorem Xa:DQ UU:=Ab T204.ok (Ab T202.ok AQ)
theorem QY{x y c:Int}(hx:0<=x/\x<1000000000)(hy:0<=y/\y<1000000000)(hc:0<=c/\c<=1):
  zj .i64 (zj .i64 (x+y)+c)=x+y+c/\Int.tmod (x+y+c) 1000000000=(x+y+c) % 1000000000/\zj .i64 (Int.tdiv (x+y+c) 1000000000)=(x+y+c)/1000000000:=by
 refine⟨?_,Int.tmod_eq_emod_of_nonneg (by omega),?_⟩
 ·rw[wr (x+y) (by omega) (by omega)];exact wr _ (by omega) (by omega)
 ·rw[Int.tdiv_eq_ediv_of_nonneg (by omega)];exact wr _ (by omega) (by omega)
theorem jG{a b:List Int}(h:jO a b=true):A8 a=true/\A8 b=true/\a.length<=9000/\b.length<=9000:=by
 unfold jO at h;rw[zd,zd,zd,w5,w5]at h;exact⟨h.1.1.1,h.1.1.2,h.1.2,h.2⟩
theorem dK{a b:List Int}(h1:A8 a=true)(h2:A8 b=true)(h3:a.length<=9000)(h4:b.length<=9000):jO a b=true:=by
 unfold jO;rw[h1,h2,w4 h3,w4 h4];rfl
namespace T160
variable {Q:PV->Ob->Prop}
theorem done(a b o:List Int)(i:Nat)(ha:a.length<=i)(hb:b.length<=i)(hq:Q (.sl 0 1 0 o.length none) [(0,.arr false 3 (.int .i64) o)]):Ends UU (L2 a b o.length 0 i o) Q:=
 zm (AV ..) (zz (w8 (by omega)) (zz (w8 (by omega)) (zz (by decide) (zf hq))))
theorem A4(a b:List Int)(ha:A8 a=true)(hb:A8 b=true)(la:a.length<=9000)(lb:b.length<=9000)(hq:Q (.sl 0 1 0 (LR a b).length none) [(0,.arr false 3 (.int .i64) (LR a b))]):∀(k i:Nat) (o:List Int) (c:Int),i+k=max a.length b.length->Fo a b i o c->Ends UU (L2 a b o.length c i o) Q:=by
 have stop:∀(i:Nat) (o:List Int),a.length<=i->b.length<=i->Fo a b i o 0->Ends UU (L2 a b o.length 0 i o) Q:=fun i o h1 h2 h=>by
  have:=h.fin h1 h2;exact done a b o i h1 h2 (by rw[this];exact hq)
 have next:∀(i:Nat) (o:List Int) (c:Int),i<=9000->Fo a b i o c->(i<a.length\/i<b.length\/0<c->Ends UU (L2 a b (o++[(a.getD i 0+b.getD i 0+c) % 1000000000]).length ((a.getD i 0+b.getD i 0+c)/1000000000) ((i+1:Nat):Int) (o++[(a.getD i 0+b.getD i 0+c) % 1000000000])) Q)->Ends UU (L2 a b o.length c i o) Q:=fun i o c hi h go=>by
  obtain⟨s1,s2,s3⟩:=QY (Bx ha i) (Bx hb i) h.c01;have e1:zj .i64 ((i:Int)+1)=((i+1:Nat):Int):=by rw[wr _ (by omega) (by omega)];omega
  have hl:=h.len;have cap:(decide ((1:Nat)<=(1:Nat))&&true&&decide (o.length=o.length)&&decide ((2*(o.length+1)+1000)*8<=281474976710656))=true:=by
   rw[w4 (z7 1),w4 (p:=o.length=o.length) rfl,Bool.and_true,yq];exact w4 (by omega)
  have h0:decide ((0:Int)<=(i:Int))=true:=w4 (by omega);rw[zu]at go;by_cases c1:(i:Int)<(a.length:Int)
  ·refine zm (AV ..) ?_;conv=>zeta
   rw[Hc,Hc,s1,s2,s3,e1];exact zc (w4 c1) (zc h0 (zc h0 (zc rfl (zc cap (zc rfl (go (.inl (by omega))))))))
  ·by_cases c2:(i:Int)<(b.length:Int)
   ·refine zm (AV ..) ?_;conv=>zeta
    rw[Hc,Hc,s1,s2,s3,e1];exact zz (w8 c1) (zc (w4 c2) (zc h0 (zc h0 (zc rfl (zc cap (zc rfl (go (.inr (.inl (by omega))))))))))
   ·by_cases c3:c>0
    ·refine zm (AV ..) ?_;conv=>zeta
     rw[Hc,Hc,s1,s2,s3,e1];exact zz (w8 c1) (zz (w8 c2) (zc (w4 c3) (zc h0 (zc h0 (zc rfl (zc cap (zc rfl (go (.inr (.inr c3))))))))))
    ·obtain rfl:c=0:=by have:=h.c01;omega
     exact stop i o (by omega) (by omega) h
 intro k;induction k with
 |zero=>
  intro i o c hi h;refine next i o c (by omega) h (fun hc=>?_);have h2:=h.step ha hb hc;have z1:a.getD i 0=0:=by rw[yf,yo (by omega)];rfl
  have z2:b.getD i 0=0:=by rw[yf,yo (by omega)];rfl
  have hc0:=h.c01;have z3:(a.getD i 0+b.getD i 0+c)/1000000000=0:=by rw[z1,z2];omega
  rw[z3]at h2 ⊢;exact stop (i+1) _ (by omega) (by omega) h2
 |succ k ih=>
  intro i o c hi h;exact next i o c (by omega) h (fun hc=>ih (i+1) _ _ (by omega) (h.step ha hb hc))
theorem ok:Ag Bf 160 Vk:=by
 refine BY Xa (fun(i:List Int×List Int) hi=>?_);obtain⟨a,b⟩:=i;obtain⟨ha,hb,la,lb⟩:=jG hi;obtain⟨s1,s2,s3⟩:=QY (Bx ha 0) (Bx hb 0) (c:=0) (by decide);have h0:=Fo.start a b;have e0:(0:Int)=((0:Nat):Int):=rfl;have go:(0<a.length\/0<b.length)->Ends UU (L2 a b 1 ((a.getD 0 0+b.getD 0 0+0)/1000000000) ((1:Nat):Int) [(a.getD 0 0+b.getD 0 0+0) % 1000000000]) (Ad Vk (a,b)):=fun hc=>
  A4 a b ha hb la lb (zx (kH rfl rfl) rfl rfl) (max a.length b.length-1) 1 _ _ (by omega) (h0.step ha hb (by rcases hc with h|h<;>omega))
 refine zq (Ak a b) (zm (Ar ..) ?_);have d1:HM a 0=a.getD 0 0:=rfl;have d2:HM b 0=b.getD 0 0:=rfl;have e1:zj .i64 ((0:Int)+1)=((1:Nat):Int):=rfl;rw[d1,d2,s1,s2,s3,e1];refine zk (fun c=>?_) (fun c1=>zk (fun c=>?_) (fun c2=>zz rfl (zf (zx (y:=[]) rfl rfl ?_))))
 ·exact zc rfl (zc rfl (zc rfl (zc rfl (zc rfl (go (.inl (by have:=w6 c;omega)))))))
 ·exact zc rfl (zc rfl (zc rfl (zc rfl (zc rfl (go (.inr (by have:=w6 c;omega)))))))
 ·have c1:=w7 c1;have c2:=w7 c2;exact h0.fin (by omega) (by omega)
end T160
namespace T162
variable {Q:PV->Ob->Prop}
theorem G4{x y c:Int}(hx:0<=x/\x<1000000000)(hy:0<=y/\y<1000000000)(hc:0<=c/\c<=1):
  zj .i64 (zj .i64 (x-y)-c)=x-y-c/\zj .i64 (x-y-c+1000000000)=x-y-c+1000000000:=by
 refine⟨?_,wr _ (by omega) (by omega)⟩;rw[wr (x-y) (by omega) (by omega)];exact wr _ (by omega) (by omega)
theorem A4(a b:List Int)(ha:A8 a=true)(hb:A8 b=true)(la:a.length<=9000)(hle:At b<=At a)(hq:∀ob,Q (.dat li (Gt a b)) ob):∀(k i:Nat) (o:List Int) (c:Int),i+k=a.length->Gw a b i o c->Ends UU (L2 a b o.length c i o) Q
 |0,i,o,c,hi,h=>by
  have hi:i=a.length:=by omega
  subst hi;have hl:=h.len;refine zm (AV ..) (zz (w8 (by omega)) ?_);rw[yk (z7 _)];refine zc (Aa (Aa (w4 (by omega)) rfl) (w4 (by omega))) (zf ?_);rw[h.fin hb hle];exact hq _
 |k+1,i,o,c,hi,h=>by
  obtain⟨s1,s2⟩:=G4 (Bx ha i) (Bx hb i) h.c01;have e1:zj .i64 ((i:Int)+1)=((i+1:Nat):Int):=by rw[wr _ (by omega) (by omega)];omega
  have hl:=h.len;have cap:(decide ((1:Nat)<=(1:Nat))&&true&&decide (o.length=o.length)&&decide ((2*(o.length+1)+1000)*8<=281474976710656))=true:=by
   rw[w4 (z7 1),w4 (p:=o.length=o.length) rfl,Bool.and_true,yq];exact w4 (by omega)
  refine zm (AV ..) ?_;conv=>zeta
  rw[Hc,zo,s1,s2,e1];refine zc (w4 (by omega)) (zc (Aa (w4 (by omega)) (w4 (by omega))) (zc (w4 (by omega)) (zk (fun d=>zc cap ?_) (fun d=>zc cap ?_))))
  ·have:=A4 a b ha hb la hle hq k (i+1) _ _ (by omega) (h.step ha hb _ 1 (.inl ⟨w6 d,rfl,rfl⟩));rw[zu]at this;exact this
  ·have:=A4 a b ha hb la hle hq k (i+1) _ _ (by omega) (h.step ha hb _ 0 (.inr ⟨w7 d,rfl,rfl⟩));rw[zu]at this;exact this
theorem ok:Ag Bf 162 U2:=by
 refine BY Xa (fun(i:List Int×List Int) hi=>?_);obtain⟨a,b⟩:=i;have hi:(jO a b&&decide (At b<=At a))=true:=hi;rw[zd,w5]at hi;obtain⟨hi,hle⟩:=hi;obtain⟨ha,hb,la,lb⟩:=jG hi;have h0:=Gw.start a b;have hq:∀ob,Ad U2 (a,b) (.dat li (Gt a b)) ob:=fun ob=>zx rfl rfl rfl
 refine zq (Ak a b) (zm (Ar ..) ?_);obtain⟨s1,s2⟩:=G4 (Bx ha 0) (Bx hb 0) (c:=0) (by decide);have d2:HM b 0=b.getD 0 0:=rfl;have e1:zj .i64 ((0:Int)+1)=((1:Nat):Int):=rfl;rw[d2,show Int.toNat 0=0 from rfl,s1,s2,e1];refine zk (fun c=>?_) (fun c=>?_)
 ·have c1:=w6 c;refine zc (Aa rfl c) (zc rfl (zk (fun d=>zc rfl ?_) (fun d=>zc rfl ?_)))
  ·exact A4 a b ha hb la hle hq (a.length-1) 1 _ _ (by omega) (h0.step ha hb _ 1 (.inl ⟨w6 d,rfl,rfl⟩))
  ·exact A4 a b ha hb la hle hq (a.length-1) 1 _ _ (by omega) (h0.step ha hb _ 0 (.inr ⟨w7 d,rfl,rfl⟩))
 ·have c:=w7 c;have hz:a=[]:=yj.1 (by omega);subst hz;refine zc rfl (zf ?_);rw[Gw.fin h0 hb hle];exact hq _
end T162
theorem SM:DQ XR2:=Ab T159.ok (Ab T160.ok (Ab T161.ok (Ab T162.ok (Ab T163.ok (Ab T157.ok AQ)))))
theorem KW{n:Int}{k:Nat}(h0:0<=n)(h:n<(yt:Int)^k):(BQ n).length<=k:=Nz h0 h
theorem Ka{a:Bool×List Int}(h:CI a=true):0<=At a.2/\At a.2<(yt:Int)^3000:=by
 obtain⟨h1,h2,_⟩:=Dr h;refine⟨(GF h).2,Int.lt_of_lt_of_le (Bp (b:=yt) (by decide) (Bm h1).2.1) (AK (by decide) h2)⟩
theorem Wa{x y:Int}{k:Nat}(h1:x<(yt:Int)^k)(h2:y<(yt:Int)^k):x+y<(yt:Int)^(k+1):=by
 have:(yt:Int)^(k+1)=(yt:Int)^k*1000000000:=Int.pow_succ ..;have hp:=AN (b:=(yt:Int)) (by decide) k;rw[this];omega
theorem T84.ok:Ag Bf 84 eB:=by
 refine BY SM (fun(i:(Bool×List Int)×(Bool×List Int)) hi=>?_);obtain⟨a,b⟩:=i;have hi:(CI a&&CI b)=true:=hi;rw[zd]at hi;obtain⟨ha,hb⟩:=hi;obtain⟨a1,a2,_⟩:=Dr ha;obtain⟨b1,b2,_⟩:=Dr hb;obtain⟨va,wa⟩:=Ka ha;obtain⟨vb,wb⟩:=Ka hb;have pl:=dK a1 b1 (by omega) (by omega);have pl2:=dK b1 a1 (by omega) (by omega);refine zq (T84.Ak a b) (zk (fun c=>?_) (fun c=>zc (Aa a1 b1) (zk (fun d=>?_) (fun d=>?_))))
 ·have hl:(LR a.2 b.2).length<=3001:=KW (by omega) (Wa wa wb);exact zc pl (zc (w4 (by omega)) (zf (zx rfl rfl (ZC ha hb (by simpa using c)))))
 ·have hle:At b.2<=At a.2:=by
   have d:=w6 d;unfold Ci at d;split at d
   ·omega
   ·omega
  have hl:(Gt a.2 b.2).length<=3000:=KW (by omega) (by omega);exact zc (Aa pl (w4 hle)) (zc (w4 (by omega)) (zf (zx rfl rfl (XK hb (by simpa using c) hle))))
 ·have hle:At a.2<=At b.2:=by
   have d:=w7 d;unfold Ci at d;split at d
   ·omega
   ·split at d<;>omega
  have hl:(Gt b.2 a.2).length<=3000:=KW (by omega) (by omega);exact zc (Aa pl2 (w4 hle)) (zc (w4 (by omega)) (zf (zx rfl rfl (oD ha (by simpa using c) hle))))
theorem T85.ok:Ag Bf 85 XO:=by
 refine BY SM (fun(i:(Bool×List Int)×(Bool×List Int)) hi=>?_);obtain⟨a,b⟩:=i;have hi:(CI a&&CI b)=true:=hi;rw[zd]at hi;obtain⟨ha,hb⟩:=hi;obtain⟨a1,a2,_⟩:=Dr ha;obtain⟨b1,b2,_⟩:=Dr hb;obtain⟨va,wa⟩:=Ka ha;obtain⟨vb,wb⟩:=Ka hb;have hm:At a.2*At b.2<(yt:Int)^(3000+3000):=by
  rw[Int.pow_add];have hp:(0:Int)<(yt:Int)^3000:=AN (by decide) 3000;exact Int.lt_of_le_of_lt (Int.mul_le_mul_of_nonneg_left (qk wb) va) (Int.mul_lt_mul_of_pos_right wa hp)
 have hl:=KW (qo va vb) hm;exact zq (T85.Ak a b) (zc (Aa (QC (by omega) (Bm a1).2.1) (QC (by omega) (Bm b1).2.1)) (zc (w4 (by omega)) (zf (zx rfl rfl (bC ha hb)))))
theorem T156.ok:Ag Bf 156 WV:=by
 refine BY SM (fun(a:Bool×List Int) ha=>?_);have ha:CI a=true:=ha;have:=(Dr ha).2.1;exact zq (T156.Ak a) (zc (w4 (by omega)) (zf (zx rfl rfl (jL ha))))
theorem lX:DQ XR3:=Ab T154.ok AQ
namespace T158
variable {Q:PV->Ob->Prop}
theorem Aq(neg:Bool)(w:List Int)(hw:A8 w=true)(hwl:w.length<=3000)(hq:∀ob,Q (.dat .str (if neg=true then 45::zn (At w).toNat else zn (At w).toNat)) ob):∀(i:Nat),i<=w.length->0<Sp.val yt (w.drop i)->Ends XR3 (L1 (zn (Sp.val yt (w.drop i)).toNat) ((i:Int)-1) neg w) Q:=by
 have hlen:∀i,(zn (Sp.val yt (w.drop i)).toNat).length<=27000:=fun i=>by
  have h1:=Bp (b:=yt) (by decide) (Ew (Bm hw).2.1 i);have h2:(yt:Int)^(w.drop i).length<=(yt:Int)^3000:=AK (by decide) (by rw[qf];omega);exact Uk (k:=3000) (Int.lt_of_lt_of_le h1 h2) (by decide)
 intro i;induction i with
 |zero=>
  intro _ _;have hl:=hlen 0;rw[List.drop_zero]at hl ⊢;have hl:(zn (At w).toNat).length<=27000:=hl;refine zm (Ar ..) (zz (by decide) (zk (fun c=>zc (w4 (by show 1+(zn (At w).toNat).length<=_;omega)) (zf ?_)) (fun c=>zf ?_)))
  ·rw[wd c]at hq;exact hq _
  ·rw[wc (by rw[c];decide)]at hq;exact hq _
 |succ i ih=>
  intro hi h0;have g:=Bx hw i;have e1:(((i+1:Nat):Int)-1)=(i:Int):=by omega
  have hl:=hlen (i+1);have h9:(HQ (w.getD i 0) 9).length<=64:=by
   have:=Pt (w.getD i 0) 9;exact this
  obtain⟨s1,s2⟩:=YM hw i h0;rw[e1];refine zm (Ar ..) ?_;conv=>zeta
  rw[zo,s1,wr ((i:Int)-1) (by omega) (by omega)];exact zc (w4 (by omega)) (zc (Aa (w4 (by omega)) (w4 (by omega))) (zc (Aa (Aa (Aa (w4 g.1) (w4 (by omega))) rfl) rfl) (zc (w4 (by omega)) (ih (by omega) s2))))
theorem ok:Ag Bf 158 Vl:=by
 refine BY lX (fun(a:Bool×List Int) ha=>?_);have ha:CI a=true:=ha;obtain⟨a1,a2,_⟩:=Dr ha;refine zq (Ak a) (zk (fun c=>zf (zx rfl rfl (iI ?_))) (fun c=>?_))
 ·exact yj.1 (by have:(a.2.length:Int)=0:=(by simpa using c);omega)
 ·have c:(a.2.length:Int)≠0:=by simpa using c
  obtain⟨i,hi⟩:∃i,a.2.length=i+1:=⟨a.2.length-1,by omega⟩;have g:=Bx a1 i;obtain⟨s1,s2⟩:=Vo a1 hi;have e1:zj .i64 ((a.2.length:Int)-1)=(i:Int):=by rw[wr _ (by omega) (by omega)];omega
  have e2:zj .i64 ((a.2.length:Int)-2)=(i:Int)-1:=by rw[wr _ (by omega) (by omega)];omega
  rw[e1,e2,zo,s1];refine zc (Aa (w4 (by omega)) (w4 (by omega))) (zc (Aa (Aa (Aa (w4 g.1) (w4 (by omega))) rfl) rfl) (Aq a.1 a.2 a1 a2 (fun ob=>zx rfl rfl ?_) i (by omega) s2));exact Z8 ha (by intro h;rw[h]at hi;cases hi)
end T158
end Go.Pe
namespace Go.Sp
theorem cP{a k m:Nat}(h:a<10^k)(hk:k<=m):a<10^m:=Nat.lt_of_lt_of_le h (yu (by decide) hk)
theorem fN{a b k:Nat}(h1:a<10^k)(h2:b<10^k):a+b<10^(k+1):=by rw[Nat.pow_succ];omega
theorem J4{n:Int}{k:Nat}(h:n.natAbs<10^k)(hk:k<=27000):CI (rN n,rW n)=true:=Su (cP (m:=27000) h hk)
theorem IU{m n:Int}(h:CI (rN n,rW n)=true)(hm:m.natAbs<=n.natAbs):CI (rN m,rW m)=true:=by
 have:=tJ h;rw[EG]at this;exact Su (y8 hm this)
theorem Rz{n:Int}(h:CA n=true):CI (rN n,rW n)=true:=by
 have h:=Go.Pe.D4 h;exact J4 (k:=20) (by have:10^20=100000000000000000000:=rfl;omega) (by decide)
theorem Uj{n:Int}(h:CI (rN n,rW n)=true):A8 (rW n)=true/\(rW n).length<=3000/\Ae n<(B9:Int)^3000:=by
 obtain⟨h1,h2,_⟩:=Dr h;refine⟨h1,h2,?_⟩;have:=(Go.Pe.Ka h).2;rwa [show At (rN n,rW n).2=Ae n from JE n]at this
theorem S0{n:Int}(h:CI (rN n,rW n)=true):(AW n).length<=27001:=by
 have h1:=(Uj h).2.2;have h2:=Uk h1 (by decide);have e:(Ae n).toNat=n.natAbs:=by rw[Ah];omega
 rw[e]at h2;unfold AW y9;split
 ·rw[zr];omega
 ·rw[show n.toNat=n.natAbs by omega];omega
theorem Pc(n:Int):HF (rN n,rW n)=AW n:=by unfold HF;rw[EG]
theorem V8{N D:Int}(hD:0<D):Int.tdiv N (gI (Ae N) D)=(zp N D).num/\Int.tdiv D (gI (Ae N) D)=((zp N D).den:Int):=by
 have hs:D.sign=1:=qj hD;have eg:gI (Ae N) D=(yp N D:Int):=by rw[Gv,Ah];rfl
 have d1:(yp N D:Int)∣N:=Int.gcd_dvd_left ..;have d2:(yp N D:Int)∣D:=Int.gcd_dvd_right ..;rw[eg,qg d1,qg d2];refine⟨?_,(HC (N:=N) hD).2.2.1▸?_⟩
 ·rw[Rat.num_divInt,hs,Int.one_mul,qp]
 ·rw[eg]
theorem QI(x y:Int):Hd (rN x,rW x) (rN y,rW y)=rN (x*y):=by unfold Hd;rw[EG,EG]
theorem Q3(x y:Int):HD (rN x,rW x) (rN y,rW y)=rW (x*y):=by unfold HD;rw[EG,EG]
theorem eP(x y:Int):Mw (rN x,rW x) (rN y,rW y)=rN (x+y):=by unfold Mw;rw[EG,EG]
theorem bH(x y:Int):Ms (rN x,rW x) (rN y,rW y)=rW (x+y):=by unfold Ms;rw[EG,EG]
theorem PF(x y:Int):HK (rN x,rW x) (rN y,rW y)=C3 x y:=by unfold HK;rw[EG,EG]
theorem UN{a b:Nat}(h:a<=b):(zn a).length<=(zn b).length:=by
 have h1:=Lib.lt_pow_nDigits b;have h2:1<=(zn b).length:=yy.2 (fE b);rw[<-Lib.decDigits_length]at h1;exact DO (y8 h h1) h2
theorem neg_num(x:Rat):(x.num<0↔x<0)/\(x.num>0↔0<x):=by
 rw[Rat.lt_iff,Rat.lt_iff];have:(0:Rat).num=0:=rfl;have h1:((0:Rat).den:Int)=1:=rfl;rw[this,h1];omega
end Go.Sp
namespace Go.Pe
open Sp
open Go.Det
theorem kL:DQ jP:=Ab T156.ok (Ab T129.ok (Ab T157.ok (Ab T159.ok (Ab T158.ok AQ))))
namespace T83
variable {Q:PV->Ob->Prop}
theorem C0(n d:Int)(hn:CI (yh n,yb n)=true)(hd:CI (yh d,yb d)=true)(d0:0<=d)(hq:∀ob,Q (.dat .str (AW n++47::AW d)) ob):Ends jP (L3 (BQ d) (AW n)) Q:=by
 have l1:=S0 hn;have l2:=S0 hd;have e:yb d=BQ d:=by unfold yb;rw[Ah,yr d0]
 have l3:=(Uj hd).2.1;rw[e]at l3;obtain⟨hv,hg⟩:=IM d0;have hp:(Cd false (BQ d),Au (BQ d))=(yh d,yb d):=NZ hg (by omega) (fun k=>(by cases k)) (fun _=>hv.symm);refine zm (CF ..) ?_;conv=>zeta
 rw[hp,Pc];refine zc (w4 (by omega)) (zc (w4 (by omega)) (zc hd (zc (w4 (by rw[zu,yd];omega)) (zf ?_))));rw[List.append_assoc];exact hq _
theorem A4(n d:Int)(hn:CI (yh n,yb n)=true)(hd:CI (yh d,yb d)=true)(d0:0<d)(hq1:d=1->∀ob,Q (.dat .str (AW n)) ob)(hq:d≠1->∀ob,Q (.dat .str (AW n++47::AW d)) ob):Ends jP (L2 (BQ d) (AW n)) Q:=by
 have h1:=pC (n:=d) (by omega);by_cases h:d=1
 ·rw[h1.2 h];exact zm (AV ..) (zc rfl (zc rfl (zc rfl (zf (hq1 h _)))))
 ·have h3:=C0 n d hn hd (by omega) (hq h);refine zm (AV ..) (zk (fun c=>zc ?_ (zk (fun e=>?_) (fun _=>h3))) (fun _=>h3))
  ·have c:((BQ d).length:Int)=1:=by simpa using c
   exact w4 (by omega)
  ·exfalso;have c:((BQ d).length:Int)=1:=by simpa using c
   have e:(BQ d).getD 0 0=1:=by simpa using e
   refine h (h1.1 ?_);cases hl:BQ d with
   |nil=>rw[hl]at c;cases c
   |cons x r=>
    rw[hl]at c e;have hr:r=[]:=yj.1 (by have:((r.length+1:Nat):Int)=1:=c;omega);have e:x=1:=e;rw[hr,e]
theorem Aq(N D:Int)(hN:CI (yh N,yb N)=true)(hD:CI (yh D,yb D)=true)(h0:0<D)(hq:∀ob,Q (.dat .str (C3 N D)) ob):Ends jP (L1 (yh D) (yb D) (yh N) (yb N)) Q:=by
 obtain⟨n1,n2,n3⟩:=Uj hN;obtain⟨d1,d2,d3⟩:=Uj hD;obtain⟨g0,f1,f2,f3⟩:=HC (N:=N) h0;have eD:Ae D=D:=by rw[Ah,yr (qk h0)]
 have ec:Cm (yb N) (yb D)=BQ (Sp.gI (Ae N) D):=by
  unfold Cm;rw[JE,JE,eD]
 have gd:Sp.gI (Ae N) D<=D:=by
  have eg:Sp.gI (Ae N) D=(yp N D:Int):=by rw[Gv,Ah];rfl
  rw[eg];exact Int.le_of_dvd h0 (Int.gcd_dvd_right ..)
 have fn:=eJ h0 (neg:=yh N) rfl;have nn:(zp N D).num.natAbs<=N.natAbs:=(Ff (n:=N) (d:=D) (by omega)).1;have dd:(zp N D).den<=D.natAbs:=(Ff (n:=N) (d:=D) (by omega)).2;have BK:=IU (m:=(zp N D).num) hN nn;have okD:=IU (m:=((zp N D).den:Int)) hD (by rw[Int.natAbs_natCast];exact dd);have lg:Ae (zp N D).num<(yt:Int)^3000:=(Uj BK).2.2;have ft:=Qm (N:=N) (D:=D);have dp:=(zp N D).den_pos;have a0:=Nh (zp N D).num;rw[eD]at d3;refine zm (Ar ..) ?_;conv=>zeta
 rw[ec,JE,JE,eD];generalize Sp.gI (Ae N) D=g at*;have fg:=GI (n:=g) (k:=3000) (by omega) (by omega) (by decide);rw[fg.2.2.1,fn,f1,f2,Pc];have ll:=KW a0 lg;refine zc (Aa (Aa (Aa n1 d1) (w4 (by omega))) (w4 (by omega))) (zc (Aa (Aa (Aa (Aa n1 fg.1) (w4 (by omega))) (w4 (by omega))) (w4 g0)) (zc (Aa (Aa (Aa (Aa d1 fg.1) (w4 (by omega))) (w4 (by omega))) (w4 g0)) (zc (w4 (by omega)) (zc BK (A4 _ _ BK okD (by omega) (fun h ob=>?_) (fun h ob=>?_))))))
 ·have:=hq ob;rw[ft,wd (by omega)]at this;exact this
 ·have:=hq ob;rw[ft,wc (by omega)]at this;exact this
theorem ok:Ag Bf 83 LI:=by
 refine BY kL (fun(i:(Bool×List Int)×(Bool×List Int)) hi=>?_);obtain⟨a,b⟩:=i;have hi:(CI a&&CI b&&decide (qq b≠0))=true:=hi;rw[zd,zd,w5]at hi;obtain⟨⟨ha,hb⟩,h0⟩:=hi;have ea:=rK ha;have eb:=rK hb;have hq:∀ob,Ad LI (a,b) (.dat .str (C3 (qq a) (qq b))) ob:=fun ob=>zx rfl rfl rfl
 have ha2:=ha;have hb2:=hb;rw[ea]at ha2;rw[eb]at hb2;refine zq (Ak a b) (zk (fun c=>zc ha (zc hb ?_)) (fun c=>?_))
 ·have hneg:qq b<0:=by
   have:=Pp hb;rw[c]at this;exact w6 this.symm
  have:=Aq (Q:=Ad LI (a,b)) (-qq a) (-qq b) (IU ha2 (by rw[Int.natAbs_neg];exact z7 _)) (IU hb2 (by rw[Int.natAbs_neg];exact z7 _)) (by omega) (fun ob=>by rw[TA];exact hq ob);exact this
 ·have hpos:0<qq b:=by
   have:=Pp hb;rw[c]at this;have:=w7 this.symm;omega
  have:=Aq (Q:=Ad LI (a,b)) (qq a) (qq b) ha2 hb2 hpos hq;rw[<-Pp ha, <-tZ ha, <-Pp hb, <-tZ hb]at this;exact this
end T83
theorem oR:DQ Z2:=Ab T152.ok (Ab T83.ok (Ab T153.ok (Ab T154.ok AQ)))
namespace T81
variable {Q:PV->Ob->Prop}
theorem TC{n:Int}(h1: -9000000000000000000<=n)(h2:n<=9000000000000000000):imax n (zj .i64 (0-n))=Ae n:=by
 rw[wr _ (by omega) (by omega)];unfold imax Ae;split<;>split<;>omega
theorem BU(n d:Int)(v:List UInt8)(hv:v=AW n)(hl:v.length<=27001)(d0:0<d)(d1:d<9000000000000000000)(hq1:d=1->∀ob,Q (.dat .str (AW n)) ob)(hq:d≠1->∀ob,Q (.dat .str (AW n++47::AW d)) ob):Ends Z2 (L4 d v) Q:=by
 have h9:=Pt d 1;have e:HQ d 1=AW d:=by
  rw[PS (by omega) (by omega)];unfold AW y9;rw[wc (by omega)]
 refine zm (Cy ..) (zk (fun c=>zc (w4 (by omega)) (zc (Aa (Aa (Aa (w4 (by omega)) (w4 (by omega))) rfl) rfl) (zc (w4 (by rw[zu,yd];omega)) (zf ?_)))) (fun c=>zf ?_))
 ·have c:=w6 c;rw[hv,e,List.append_assoc];exact hq (by omega) _
 ·have c:=w7 c;rw[hv];exact hq1 (by omega) _
theorem C0(n d:Int)(n1: -9000000000000000000<n)(n2:n<9000000000000000000)(d0:0<d)(d1:d<9000000000000000000)(hq1:d=1->∀ob,Q (.dat .str (AW n)) ob)(hq:d≠1->∀ob,Q (.dat .str (AW n++47::AW d)) ob):Ends Z2 (L3 n d) Q:=by
 have h9:=Pt (Ae n) 1;have ha:=Ah n;have e:HQ (Ae n) 1=zn n.natAbs:=by
  rw[PS (by omega) (by omega)];congr 1;omega
 have ei:=YE n;refine zm (CF ..) ?_;conv=>zeta
 rw[TC (by omega) (by omega)];have hr:(decide (0<=Ae n)&&decide (Ae n<9223372036854775808)&&decide ((0:Int)<=1)&&decide ((1:Int)<=20))=true:=Aa (Aa (Aa (w4 (by omega)) (w4 (by omega))) rfl) rfl;refine zk (fun c=>zc hr (zc (w4 (by omega)) (BU n d _ ?_ ?_ d0 d1 hq1 hq))) (fun c=>zc hr (zc (w4 (by omega)) (BU n d _ ?_ ?_ d0 d1 hq1 hq)))
 ·have c:=w6 c;rw[wd c]at ei;rw[e];exact ei.symm
 ·rw[zu,yd];omega
 ·have c:=w7 c;rw[wc c]at ei;rw[e];exact ei.symm
 ·rw[List.nil_append];omega
theorem A4(n d:Int)(n1: -9000000000000000000<n)(n2:n<9000000000000000000)(d0:0<d)(d1:d<9000000000000000000)(hq:∀ob,Q (.dat .str (C3 n d)) ob):Ends Z2 (L2 n d) Q:=by
 obtain⟨g0,_⟩:=HC (N:=n) d0;obtain⟨q1,q2⟩:=V8 (N:=n) d0;obtain⟨l1,l2⟩:=Ff (n:=n) (d:=d) (by omega);have ha:=Ah n;have dp:=(zp n d).den_pos;have ft:=Qm (N:=n) (D:=d);refine zm (AV ..) ?_;conv=>zeta
 rw[TC (by omega) (by omega),q1,q2,wr _ (by omega) (by omega),wr _ (by omega) (by omega)];have hg:decide (Sp.gI (Ae n) d≠0)=true:=w4 (by omega);refine zc (Aa (Aa (Aa (w4 (by omega)) (w4 (by omega))) (w4 (by omega))) (w4 (by omega))) (zc hg (zc hg (C0 _ _ (by omega) (by omega) (by omega) (by omega) (fun h ob=>?_) (fun h ob=>?_))))
 ·have:=hq ob;rw[ft,wd (by omega)]at this;exact this
 ·have:=hq ob;rw[ft,wc (by omega)]at this;exact this
theorem ok:Ag Bf 81 gD:=by
 refine BY oR (fun(i:Int×Int) hi=>?_);obtain⟨n,d⟩:=i;have hi:(CA n&&CA d&&decide (d≠0))=true:=hi;rw[zd,zd,w5]at hi;obtain⟨⟨hn,hd⟩,h0⟩:=hi;have hq:∀ob,Ad gD (n,d) (.dat .str (C3 n d)) ob:=fun ob=>zx rfl rfl rfl
 have slow:(CI (yh n,yb n)&&CI (yh d,yb d)&&decide (qq (yh d,yb d)≠0))=true:=Aa (Aa (Rz hn) (Rz hd)) (by rw[EG];exact w4 h0);refine zq (Ak n d) ?_;conv=>zeta
 rw[PF];refine zk (fun _=>zc hn (zc hd (zc slow (zf (hq _))))) (fun c1=>zk (fun _=>zc hn (zc hd (zc slow (zf (hq _))))) (fun c2=>zk (fun _=>zc hn (zc hd (zc slow (zf (hq _))))) (fun c3=>zk (fun _=>zc hn (zc hd (zc slow (zf (hq _))))) (fun c4=>?_))));have c1:=w7 c1;have c2:=w7 c2;have c3:=w7 c3;have c4:=w7 c4;refine zm (Ar ..) (zk (fun c=>?_) (fun c=>?_))
 ·have c:=w6 c;rw[wr (0-n) (by omega) (by omega),wr (0-d) (by omega) (by omega),Int.zero_sub,Int.zero_sub];exact A4 (-n) (-d) (by omega) (by omega) (by omega) (by omega) (fun ob=>by rw[TA];exact hq ob)
 ·have c:=w7 c;exact A4 n d (by omega) (by omega) (by omega) (by omega) hq
end T81
namespace T80
theorem no3{Q:PV->Ob->Prop}(s:List UInt8)(neg:Bool)(hl:s.length<=20)(h:9<(Ay s).length\/9<(Sp.AL s).length)(hq:∀ob,Q (.tup [.dat i64 0,.dat i64 0,.bl false]) ob):Ends Nj (L3 s neg) Q/\Ends Nj (L4 s) Q:=by
 obtain⟨c1,c2,c3⟩:=BN s;have es:A0 s=((Ay s).length:Int):=rfl;have hle:=(T69.C2 s).1;have hB:9<(Sp.AL s).length->(s.length:Int)-(Ay s).length>10:=fun h=>by
  cases hc:Bq s with
  |true=>
   have k2:=wi List.length (c2 hc).2;rw[qf]at k2;omega
  |false=>rw[(c3 hc).2]at h;cases h
 refine⟨zm (CF ..) (zc (w4 (by omega)) (zk (fun _=>zf (hq _)) (fun c=>?_))),zm (Cy ..) (zc (w4 (by omega)) (zk (fun _=>zf (hq _)) (fun c=>?_)))⟩
 ·have c:=w7 c;rw[es]at c;have hb:=hB (by omega);refine zc ?_ (zf (hq _));rw[es,wr _ (by omega) (by omega)];exact w4 hb
 ·have c:=w7 c;rw[es]at c;have hb:=hB (by omega);refine zc ?_ (zf (hq _));rw[es,wr _ (by omega) (by omega)];exact w4 hb
theorem okG:Ag Bf 80 Nt:=by
 refine BY nU (fun(a:List UInt8) ha=>?_);obtain⟨_,_,da,db⟩:=O2 ha;by_cases hqk:DJ a=true
 ·have hq:∀n ob,n=Iv a->Ad Nt a (.tup [.dat i64 n,.dat i64 (if Bq (AZ a)=true then AA 0 (Sp.AL (AZ a))else 1),.bl true]) ob:=fun n ob h=>zx rfl rfl (by
   show(n,_,true)=(iM a,Tc a,DJ a);unfold iM Tc;rw[wd hqk,wd hqk,hqk,h];rfl)
  unfold DJ at hqk;rw[zd,zd,w5,w5,w5]at hqk;obtain⟨⟨hl,la⟩,lb⟩:=hqk;clear ha;refine zq (Ak a) (zz (by simp;omega) ?_);cases a with
  |nil=>exact zz rfl (zm (AV ..) (BU [] hl la lb da db (fun n ob h=>hq n ob (by rw[h];rfl))))
  |cons c r=>
   have g0:(c::r).getD 0 0=c:=rfl;rw[g0];refine zc (by simp) (zc (by simp) (zm (Ar ..) (zk (fun d=>zc (by simp) ?_) (fun d=>?_))))
   ·have hc:c=45:=by
     have:(c.toNat:Int)=45:=by simpa using d
     exact UInt8.toNat_inj.1 (by show _=45;omega)
    have ep:AZ (c::r)=r:=by unfold AZ;rw[g0,wd hc];rfl
    have eb:Sp.preB (c::r)=true:=by unfold Sp.preB;rw[g0];exact w4 hc
    have et:List.take (Nat.sub (c::r).length 1) (List.drop 1 (c::r))=r:=yk (z7 _);unfold Iv at hq;rw[ep]at la lb da db hq;rw[eb]at hq;rw[et,d];exact C0 r true (by rw[zr]at hl;omega) la lb da db (fun n ob h=>hq _ ob (by rw[h];try rfl))
   ·have hc:c≠45:=by rintro rfl;exact wh d (by decide)
    have ep:AZ (c::r)=c::r:=by unfold AZ;rw[g0,wc hc]
    have eb:Sp.preB (c::r)=false:=by unfold Sp.preB;rw[g0];exact w8 hc
    unfold Iv at hq;rw[ep]at la lb da db hq;rw[eb]at hq;rw[d];exact C0 (c::r) false hl la lb da db (fun n ob h=>hq _ ob (by rw[h];try rfl))
 ·have hf:DJ a=false:=by simpa using hqk
  have hq:∀ob,Ad Nt a (.tup [.dat i64 0,.dat i64 0,.bl false]) ob:=fun ob=>zx rfl rfl (by
   show((0:Int),(0:Int),false)=(iM a,Tc a,DJ a);unfold iM Tc;rw[wc hqk,wc hqk,hf])
  refine zq (Ak a) (zk (fun _=>zf (hq _)) (fun hl=>?_));have hl:a.length<=20:=by have:=w7 hl;omega
  have h9:9<(Ay (AZ a)).length\/9<(Sp.AL (AZ a)).length:=by
   by_cases h1:(Ay (AZ a)).length<=9
   ·by_cases h2:(Sp.AL (AZ a)).length<=9
    ·exact wh (by unfold DJ;rw[w4 hl,w4 h1,w4 h2];rfl) hqk
    ·exact .inr (by omega)
   ·exact .inl (by omega)
  cases a with
  |nil=>exact zz rfl (zm (AV ..) (no3 [] false hl h9 hq).2)
  |cons c r=>
   have g0:(c::r).getD 0 0=c:=rfl;rw[g0];refine zc (by simp) (zc (by simp) (zm (Ar ..) (zk (fun d=>zc (by simp) ?_) (fun d=>?_))))
   ·have hc:c=45:=by
     have:(c.toNat:Int)=45:=by simpa using d
     exact UInt8.toNat_inj.1 (by show _=45;omega)
    have ep:AZ (c::r)=r:=by unfold AZ;rw[g0,wd hc];rfl
    have et:List.take (Nat.sub (c::r).length 1) (List.drop 1 (c::r))=r:=yk (z7 _);rw[ep]at h9;rw[et];exact(no3 r _ (by rw[zr]at hl;omega) h9 hq).1
   ·have hc:c≠45:=by rintro rfl;exact wh d (by decide)
    have ep:AZ (c::r)=c::r:=by unfold AZ;rw[g0,wc hc]
    rw[ep]at h9;exact(no3 (c::r) _ hl h9 hq).1
end T80
theorem SK:DQ qT:=Ab T80.okG (Ab T81.ok (Ab (T82.ok) (Ab T84.ok (Ab T85.ok (Ab T83.ok AQ)))))
theorem Tt{x y:Int}(h1: -1000000000<x)(h2:x<1000000000)(h3: -1000000000<y)(h4:y<1000000000): -1000000000000000000<=x*y/\x*y<=1000000000000000000:=by
 have h:(x*y).natAbs<=1000000000*1000000000:=by
  rw[y7];exact Nat.mul_le_mul (by omega) (by omega)
 omega
theorem T19.ok:Ag Bf 19 QB:=by
 refine BY SK (fun(i:List UInt8×List UInt8) hi=>?_);obtain⟨a,b⟩:=i;have hi:(Bt a&&Bt b)=true:=hi;rw[zd]at hi;obtain⟨ha,hb⟩:=hi;obtain⟨a1,a2,a3,a4,a5,a6,a7,a8,a9⟩:=EC ha;obtain⟨b1,b2,b3,b4,b5,b6,b7,b8,b9⟩:=EC hb;have ad:=(Aw a).den_pos;have bd:=(Aw b).den_pos;have eq:=(Yx ha hb).2;have hq:∀ob,Ad QB (a,b) (.dat .str (C3 (A6 a*AH b+A6 b*AH a) (AH a*AH b))) ob:=fun ob=>zx rfl rfl eq.symm
 have slow:Ends qT (T19.L1 a b) (Ad QB (a,b)):=by
  have e1:BB a=yh (A6 a):=rfl;have e2:Bu a=yb (A6 a):=rfl;have e3:Bj a=yh (AH a):=rfl;have e4:Bg a=yb (AH a):=rfl;have e5:BB b=yh (A6 b):=rfl;have e6:Bu b=yb (A6 b):=rfl;have e7:Bj b=yh (AH b):=rfl;have e8:Bg b=yb (AH b):=rfl;rw[e1,e2]at a1;rw[e3,e4]at a3;rw[e5,e6]at b1;rw[e7,e8]at b3;refine zm (T19.Ar ..) ?_;conv=>zeta
  simp only[e1,e2,e3,e4,e5,e6,e7,e8,QI,Q3,eP,bH,PF,EG];have m1:=DA a8 b9;have m2:=DA b8 a9;have m3:=DA a9 b9;rw[<-y7]at m1 m2 m3;have m4:=y8 (Int.natAbs_add_le (A6 a*AH b) (A6 b*AH a)) (fN (k:=4000+4000) m1 m2);have k1:=J4 m1 (by decide);have k2:=J4 m2 (by decide);have k3:=J4 m3 (by decide);have k4:=J4 m4 (by decide);have k5:AH a*AH b≠0:=yx (by omega) (by omega);exact zc a7 (zc b7 (zc (Aa a1 b3) (zc (Aa b1 a3) (zc (Aa k1 k2) (zc (Aa a3 b3) (zc (Aa (Aa k4 k3) (w4 k5)) (zf (hq _))))))))
 refine zq (T19.Ak a b) (zc ha (zc hb (zk (fun qa=>zk (fun qb=>?_) (fun _=>slow)) (fun _=>slow))));obtain⟨x1,x2,x3,x4,x5,x6⟩:=Gc ha qa;obtain⟨y1,y2,y3,y4,y5,y6⟩:=Gc hb qb;have p1:=Tt x3 x4 (by omega) y6;have p2:=Tt y3 y4 (by omega) x6;have p3:=Tt (by omega) x6 (by omega) y6;have p4:AH a*AH b≠0:=yx (by omega) (by omega);rw[x1,x2,y1,y2,wr (A6 a*AH b) (by omega) (by omega),wr (A6 b*AH a) (by omega) (by omega),wr (A6 a*AH b+A6 b*AH a) (by omega) (by omega),wr (AH a*AH b) (by omega) (by omega)];exact zc (Aa (Aa (DF (by omega) (by omega)) (DF (by omega) (by omega))) (w4 p4)) (zf (hq _))
theorem T20.ok:Ag Bf 20 S2:=by
 refine BY SK (fun(i:List UInt8×List UInt8) hi=>?_);obtain⟨a,b⟩:=i;have hi:(Bt a&&Bt b)=true:=hi;rw[zd]at hi;obtain⟨ha,hb⟩:=hi;obtain⟨a1,a2,a3,a4,a5,a6,a7,a8,a9⟩:=EC ha;obtain⟨b1,b2,b3,b4,b5,b6,b7,b8,b9⟩:=EC hb;have ad:=(Aw a).den_pos;have bd:=(Aw b).den_pos;have hq:∀ob,Ad S2 (a,b) (.dat .str (C3 (A6 a*A6 b) (AH a*AH b))) ob:=fun ob=>zx rfl rfl (Yp).symm
 have slow:Ends qT (T20.L1 a b) (Ad S2 (a,b)):=by
  have e1:BB a=yh (A6 a):=rfl;have e2:Bu a=yb (A6 a):=rfl;have e3:Bj a=yh (AH a):=rfl;have e4:Bg a=yb (AH a):=rfl;have e5:BB b=yh (A6 b):=rfl;have e6:Bu b=yb (A6 b):=rfl;have e7:Bj b=yh (AH b):=rfl;have e8:Bg b=yb (AH b):=rfl;rw[e1,e2]at a1;rw[e3,e4]at a3;rw[e5,e6]at b1;rw[e7,e8]at b3;refine zm (T20.Ar ..) ?_;conv=>zeta
  simp only[e1,e2,e3,e4,e5,e6,e7,e8,QI,Q3,PF,EG];have m1:=DA a8 b8;have m3:=DA a9 b9;rw[<-y7]at m1 m3;have k1:=J4 m1 (by decide);have k3:=J4 m3 (by decide);have k5:AH a*AH b≠0:=yx (by omega) (by omega);exact zc a7 (zc b7 (zc (Aa a1 b1) (zc (Aa a3 b3) (zc (Aa (Aa k1 k3) (w4 k5)) (zf (hq _))))))
 refine zq (T20.Ak a b) (zc ha (zc hb (zk (fun qa=>zk (fun qb=>?_) (fun _=>slow)) (fun _=>slow))));obtain⟨x1,x2,x3,x4,x5,x6⟩:=Gc ha qa;obtain⟨y1,y2,y3,y4,y5,y6⟩:=Gc hb qb;have p1:=Tt x3 x4 y3 y4;have p3:=Tt (by omega) x6 (by omega) y6;have p4:AH a*AH b≠0:=yx (by omega) (by omega);rw[x1,x2,y1,y2,wr _ (by omega) (by omega),wr (AH a*AH b) (by omega) (by omega)];exact zc (Aa (Aa (DF (by omega) (by omega)) (DF (by omega) (by omega))) (w4 p4)) (zf (hq _))
theorem T148.ok:Ag Bf 148 rZ:=by
 refine BY SK (fun(a:List UInt8) hi=>?_);obtain⟨hs,h0⟩:=aO hi;obtain⟨a1,a2,a3,a4,a5,a6,a7,a8,a9⟩:=EC (Ke hs).1;refine zq (T148.Ak a) (zc a7 (zc (Aa (Aa a3 a1) ?_) (zf (zx rfl rfl ?_))))
 ·rw[a2];exact w4 fun e=>h0 (qm.mp (by rw[a5,e]))
 ·show HK _ _=Qd a;unfold HK;rw[a2,a4];exact YO.symm
theorem Xc:DQ XR7:=Ab T148.ok (Ab T20.ok (Ab T19.ok (Ab T86.ok AQ)))
theorem iT{s:List UInt8}(h:E0 s=true):Bt (Lg s)=true/\Aw (Lg s)= -Aw s:=by
 obtain⟨h1,h2⟩:=Ke h;obtain⟨t,_⟩:=FV h1;have e:Lg s=AO (-Aw s):=by
  have:=bR (Aw s);rwa [t]at this
 have r:Aw (Lg s)= -Aw s:=by rw[e,CW]
 refine⟨?_,r⟩;have hl:(Lg s).length<=4000:=by
  unfold Lg;split
  ·omega
  ·split
   ·rw[qf];omega
   ·rw[zr];omega
 unfold Bt;rw[r, <-e,w4 rfl,w4 hl];rfl
theorem T21.ok:Ag Bf 21 eQ:=by
 refine BY Xc (fun(i:List UInt8×List UInt8) hi=>?_);obtain⟨a,b⟩:=i;have hi:(Bt a&&E0 b)=true:=hi;rw[zd]at hi;obtain⟨ha,hb⟩:=hi;obtain⟨n1,n2⟩:=iT hb;have hl:=(Ke hb).2;refine zq (T21.Ak a b) (zc (w4 (by omega)) (zc (Aa ha n1) (zf (zx rfl rfl ?_))));show EH a (Lg b)=Ie a b;unfold EH Ie;rw[n2,Rat.sub_eq_add_neg]
theorem iU{s:List UInt8}(h:ZZ s=true):Bt (Qd s)=true:=by
 obtain⟨h1,h0⟩:=aO h;obtain⟨h1,h2⟩:=Ke h1;obtain⟨t,_⟩:=FV h1;have hl:(AO (Aw s)).length<=3000:=by rw[t];exact h2
 unfold Qd;generalize Aw s=q at*;have l1:(zn q.num.natAbs).length<=(y9 q.num).length:=by
  unfold y9;split
  ·rw[zr];omega
  ·rw[show q.num.toNat=q.num.natAbs by omega];exact z7 _
 have key:(AO q⁻¹).length<=(zn q.num.natAbs).length+(zn q.den).length+2:=by
  have hi:=Rat.inv_def q;have hz:q.num≠0:=fun e=>h0 (qm.mp e)
  have hd:=q.den_pos;have m:=Ff (n:=(q.den:Int)) (d:=q.num) hz;rw[<-hi,Int.natAbs_natCast]at m;have k1:=UN m.1;have k2:=UN m.2;have l2:(y9 q⁻¹.num).length<=(zn q⁻¹.num.natAbs).length+1:=by
   unfold y9;split
   ·rw[zr];omega
   ·rw[show q⁻¹.num.toNat=q⁻¹.num.natAbs by omega];omega
  unfold AO;split
  ·omega
  ·rw[zu,zr];omega
 have l3:(zn q.num.natAbs).length+(zn q.den).length<=3001:=by
  unfold AO at hl;split at hl
  ·next c=>rw[c,Lib.decDigits_one (show 1<10 by decide),yd];omega
  ·rw[zu,zr]at hl;omega
 unfold Bt;rw[CW,w4 rfl,w4 (by omega)];rfl
theorem T75.ok:Ag Bf 75 fP:=by
 refine BY Xc (fun(i:List UInt8×List UInt8) hi=>?_);obtain⟨a,b⟩:=i;have hi:(Bt a&&ZZ b)=true:=hi;rw[zd]at hi;obtain⟨ha,hb⟩:=hi;refine zq (T75.Ak a b) (zc hb (zc (Aa ha (iU hb)) (zf (zx rfl rfl ?_))));show Es a (Qd b)=Kl a b;unfold Es Kl Qd;rw[CW,Rat.div_def]
theorem pX:DQ XR8:=Ab T21.ok (Ab T79.ok (Ab T127.ok (Ab T52.ok (Ab T53.ok (Ab T54.ok AQ)))))
theorem T72.ok:Ag Bf 72 SL:=by
 refine BY pX (fun(a:List UInt8) ha=>?_);have hl:a.length<=1000000:=w6 ha;have hc:=(T69.C2 a).1;have hq:∀v ob,v=ET a->Ad SL a (.dat i64 v) ob:=fun v ob h=>zx rfl rfl h
 unfold ET at hq;refine zq (T72.Ak a) (zc ha (zc (w4 (by omega)) (zk (fun c=>zf (hq _ _ ?_)) (fun c=>zc ha (zk (fun d=>zf (hq _ _ ?_)) (fun d=>zf (hq _ _ ?_)))))))
 ·have c:=w6 c;rw[wd (.inl (by omega))]
 ·have d:=w6 d;rw[wd (.inr (by omega))]
 ·have c:=w7 c;have d:=w7 d;rw[wc (by omega)]
end Go.Pe
namespace Go.Sp
theorem bU(q:Rat):HN (AO q)=max (zn q.num.natAbs).length (zn q.den).length:=by
 unfold HN;rw[(GK q).1,(DK q.num).2.1,Ty]
theorem EW{s:List UInt8}(h:AG s=0):Nu (HN s) s (Aw s):=by
 obtain⟨n,_⟩:=JZ h;have e:=(FV n).1;have hz:=bU (Aw s);rw[e]at hz;exact⟨e.symm,B3 _ (by rw[hz];exact Nat.le_max_left ..),B3 _ (by rw[hz];exact Nat.le_max_right ..)⟩
theorem TM(x:Int)(l:List Int):first (x::l)=if x≠0 then x else first l:=by
 by_cases h:x=0
 ·subst h;rw[wc (by simp),first];rfl
 ·rw[wd h,first];simp[h]
theorem gS(b:Bool)(e:Int):Ku b e=if b=true then e else 0:=by cases b<;>rfl
theorem PD(p:BH)(l:List BH):qK (p::l)=if K1 p.1 p.2≠0 then K1 p.1 p.2 else qK l:=by rw[qK]
theorem TW:∀ {l:List BH},qK l=0->∀p∈l,AG p.1=0/\AG p.2=0
 |[],_,p,hp=>by cases hp
 |x::l,h,p,hp=>by
  rw[PD]at h;split at h
  ·next k=>exact wh h k
  ·next k=>
   rcases List.mem_cons.1 hp with rfl|hp
   ·exact QS (yn.1 k)
   ·exact TW h p hp
theorem DW{l:List BH}(h:B4 l=0):l≠[]/\l.length<=256/\∀p∈l,AG p.1=0/\AG p.2=0:=by
 unfold B4 at h;split at h
 ·exact wh h (by decide)
 ·next k=>
  split at h
  ·exact wh h (by decide)
  ·exact⟨k,by omega,TW h⟩
theorem CB{l:List BH}(h:Jm l=true):l.length<=10/\∀p∈l,HN p.1<=10/\HN p.2<=10:=by
 unfold Jm at h;rw[zd,w5,ya]at h;refine⟨h.1,fun p hp=>?_⟩;have:=h.2 p hp;rwa [zd,w5,w5]at this
theorem N4{l:List BH}{k:Nat}(h:JQ k l=true):∀p∈l,p.1.length<=k/\p.2.length<=k:=by
 intro p hp;unfold JQ at h;rw[ya]at h;have:=h p hp;rwa [zd,w5,w5]at this
theorem XA{l:List BH}(h:PQ l=true):l.length<=1000000/\(∀p∈l,p.1.length<=1000000/\p.2.length<=1000000)/\(B4 l=0->Jm l=true):=by
 unfold PQ at h;rw[zd,zd,qn,w5,w5]at h;exact⟨h.1.1,N4 h.1.2,fun k=>h.2.resolve_left fun x=>x k⟩
theorem LU{l:List BH}{k n:Nat}(h:B4 l=0)(hn:l.length<=n)(hk:∀p∈l,HN p.1<=k/\HN p.2<=k):Qe k n (AS l):=by
 obtain⟨h1,_,h3⟩:=DW h;refine⟨?_,?_,fun q hq=>?_⟩
 ·unfold AS;rw[yi];exact yy.2 h1
 ·unfold AS;rw[yi];exact hn
 ·unfold AS at hq;obtain⟨p,hp,rfl⟩:=qt.1 hq;exact⟨(EW (h3 p hp).1).z.mono (hk p hp).1,(EW (h3 p hp).2).z.mono (hk p hp).2⟩
theorem Jr:((10:Nat):Int)*((10:Int)^10)^10<=(10:Int)^101:=by decide+kernel
theorem QL:((10:Nat):Int)*(2*(10:Int)^10*(2*(10:Int)^10))<=(10:Int)^22:=by decide+kernel
theorem X9(l:List BH):(AS l).map yv=l.map fun p=>Aw p.1:=by
 unfold AS;rw[List.map_map];rfl
theorem WM(l:List BH):(AS l).map yw=l.map fun p=>Aw p.2:=by
 unfold AS;rw[List.map_map];rfl
theorem G7{α:Type}{l r:List α}{x:α}{i:Nat}(h:l.drop i=x::r):l.take (i+1)=l.take i++[x]:=by
 have hlt:i<l.length:=by
  rcases Nat.lt_or_ge i l.length with h1|h1
  ·exact h1
  ·rw[qi h1]at h;cases h
 have h2:=List.drop_eq_getElem_cons hlt;rw[h]at h2;simp only[List.cons.injEq]at h2;rw[List.take_add_one,List.getElem?_eq_getElem hlt,h2.1];rfl
theorem ZN(a b:Rat)(l:List (Rat×Rat))(p:Rat×Rat):Dn a b (l++[p])=Dn a b l+(p.1-a)*(p.2-b):=by
 rw[Um];show _+(_+0)=_;rw[yg]
theorem XM(a b:Rat)(l:List (Rat×Rat))(p:Rat×Rat):P1 a b (l++[p])=P1 a b l+(p.2-(a*p.1+b))*(p.2-(a*p.1+b)):=by
 rw[dX];show _+(_+0)=_;rw[yg]
theorem Ug(a:Rat):∀l k:List (Rat×Rat),CH a (l++k)=CH a l+CH a k
 |[],k=>(yz _).symm
 |p::l,k=>by
  rw[List.cons_append,CH,CH,Ug a l k];grind
theorem Yr(a:Rat)(l:List (Rat×Rat))(p:Rat×Rat):CH a (l++[p])=CH a l+(p.1-a)*(p.1-a):=by
 rw[Ug];show _+(_+0)=_;rw[yg]
end Go.Sp
namespace Go.Pe
open Go.Det
theorem Qn(a b:List UInt8):yc [Sp.AG a,Sp.AG b]=Sp.K1 a b:=by
 rw[Qk,Sp.Yb]
theorem Rx{a:List UInt8}(ha:Sp.AG a=0):Sp.E8 (frS a)=true/\Sp.Dd a=true:=by
 obtain⟨n,z⟩:=Sp.JZ ha;exact⟨(Tw n).E8 (VL z (by decide)),(Sp.EC n).2.2.2.2.2.2.1⟩
end Go.Pe
namespace Go.Sp
theorem vM{s:List UInt8}(h:Bt s=true){k:Nat}(hl:s.length<=k)(hk:1<=k):Nu k s (Aw s):=by
 obtain⟨h1,_⟩:=FV h;have e:(AO (Aw s)).length<=k:=by rw[h1];exact hl
 refine⟨h1.symm,?_⟩;generalize Aw s=q at*;have h3:(zn q.num.natAbs).length<=(y9 q.num).length:=by
  unfold y9;split
  ·rw[zr];omega
  ·rw[show q.num.toNat=q.num.natAbs by omega];exact z7 _
 unfold AO at e;split at e
 ·next c=>exact⟨B3 (k:=k) _ (by omega),by rw[c];exact JY k (by omega)⟩
 ·rw[zu,zr]at e;exact⟨B3 (k:=k) _ (by omega),B3 (k:=k) _ (by omega)⟩
end Go.Sp
namespace Go.Pe
open Sp
open Go.Det
structure RS(k:Nat)(f:An)(q:Rat):Prop where
 r:Fe f q
 z:Dh k q
theorem RS.mono{i j:Nat}{f:An}{q:Rat}(h:RS i f q)(k:i<=j):RS j f q:=⟨h.r,h.z.mono k⟩
theorem RS.s{k:Nat}{f:An}{q:Rat}(h:RS k f q)(hk:k<=4000):KU 4000 q:=VL h.z hk
theorem RS.BK{k:Nat}{f:An}{q:Rat}(h:RS k f q)(hk:k<=4000):zy f=true:=h.r.BK (h.s hk)
theorem RS.E8{k:Nat}{f:An}{q:Rat}(h:RS k f q)(hk:k<=4000):Sp.E8 f=true:=h.r.E8 (h.s hk)
theorem RS.qR{i j:Nat}{f g:An}{p q:Rat}(hf:RS i f p)(hg:RS j g q)(hi:i<=4000)(hj:j<=4000):(zy f&&zy g)=true:=Aa (hf.BK hi) (hg.BK hj)
theorem RS.add{i j:Nat}{f g:An}{p q:Rat}(hf:RS i f p)(hg:RS j g q)(hi:i<=4000)(hj:j<=4000):RS (i+j+1) (Gs f g) (p+q):=⟨Fe.add hf.r hg.r (hf.s hi) (hg.s hj),hf.z.add hg.z⟩
theorem RS.sub{i j:Nat}{f g:An}{p q:Rat}(hf:RS i f p)(hg:RS j g q)(hi:i<=4000)(hj:j<=4000):RS (i+j+1) (FM f g) (p-q):=⟨Fe.sub hf.r hg.r (hf.s hi) (hg.s hj),hf.z.sub hg.z⟩
theorem RS.mul{i j:Nat}{f g:An}{p q:Rat}(hf:RS i f p)(hg:RS j g q)(hi:i<=4000)(hj:j<=4000):RS (i+j) (G6 f g) (p*q):=⟨Fe.mul hf.r hg.r (hf.s hi) (hg.s hj),hf.z.mul hg.z⟩
theorem RS.div{i j:Nat}{f g:An}{p q:Rat}(hf:RS i f p)(hg:RS j g q)(hi:i<=4000)(hj:j<=4000)(h0:q≠0):RS (i+j) (HP f g) (p/q):=⟨Fe.div hf.r hg.r (hf.s hi) (hg.s hj) (VL (hg.z.inv h0) hj) h0,hf.z.div hg.z h0⟩
theorem RS.ok3{i j:Nat}{f g:An}{p q:Rat}(hf:RS i f p)(hg:RS j g q)(hi:i<=4000)(hj:j<=4000)(h0:q≠0):(zy f&&zy g&&decide (Sp.vI g.1≠0))=true:=Aa (hf.qR hg hi hj) (hg.r.Hz.trans (w4 h0))
theorem RS.P8{k:Nat}{f:An}{q:Rat}(h:RS k f q):(P7 f<0↔q<0)/\(P7 f=0↔q=0):=by
 have e:P7 f=Sp.P8 q.num:=by unfold P7;rw[h.r.vn]
 have n1:=Sp.neg_num q;rw[e];unfold Sp.P8;constructor
 ·rw[<-n1.1];split
  ·next c=>exact⟨fun _=>c,fun _=>by decide⟩
  ·next c=>
   split
   ·exact⟨fun x=>wh x (by decide),fun x=>wh x c⟩
   ·exact⟨fun x=>wh x (by decide),fun x=>wh x c⟩
 ·split
  ·next c=>exact⟨fun x=>wh x (by decide),fun x=>wh (n1.1.1 c) (by rw[x];exact Rat.lt_irrefl)⟩
  ·next c=>
   split
   ·next d=>exact⟨fun x=>wh x (by decide),fun x=>wh (n1.2.1 d) (by rw[x];exact Rat.lt_irrefl)⟩
   ·next d=>exact⟨fun _=>qm.1 (by omega),fun _=>rfl⟩
theorem RS.Db{k:Nat}{f:An}{q:Rat}(h:RS k f q):Sp.Db f.1=true:=h.r.n
theorem KX{s:List UInt8}(h:AG s=0):RS (Sp.HN s) (FI s) (Aw s):=⟨Tw (JZ h).1,(EW h).z⟩
theorem eR{n:Int}{k:Nat}(h:n.natAbs<10^k)(hk:1<=k)(h18:k<=18):RS k ((n,Ck n),(1,Ck 1)) (n:Rat):=by
 have hp:10^k<=10^18:=yu (by decide) h18;have h1:10^1<=10^k:=yu (by decide) hk;have hr:CA n=true:=by
  unfold CA;exact Aa (w4 (by omega)) (w4 (by omega))
 refine⟨zG n hr,?_,?_⟩
 ·rw[Rat.num_intCast];exact h
 ·rw[Rat.den_intCast];omega
theorem K0:RS 1 ((0,Ck 0),(1,Ck 1)) 0:=eR (n:=0) (by decide) (by decide) (by decide)
theorem bV{k:Nat}{f:An}{q:Rat}(h:RS k f q){e:Int}(he:e=0):(JH f,Hy f)=(Zj e q,ZX e q):=tT h.r he
namespace T68
theorem loop{Q:PV->Ob->Prop}(l:List Int)(hl:l.length<=1000000)(hq:∀ob,Q (.dat i64 (yc l)) ob):∀(r:List Int) (i:Nat),l.drop i=r->i<=l.length->yc l=yc r->Ends yG (L1 l ((l.length:Int)) (i:Int)) Q
 |[],i,h,hi,e=>by
  have he:=drop_nil h hi;refine zm (Ar ..) (zz (w8 (by omega)) (zf ?_));rw[e]at hq;exact hq _
 |x::r,i,h,hi,e=>by
  obtain⟨h1,h2,h3⟩:=drop_cons (d:=0) h;refine zm (Ar ..) ?_;conv=>zeta
  have e1:zj .i64 ((i:Int)+1)=((i+1:Nat):Int):=by rw[wr _ (by omega) (by omega)];omega
  rw[e1,zo,h2];refine zc (w4 (by omega)) (zc (Aa (w4 (by omega)) (w4 (by omega))) ?_);by_cases hx:x=0
  ·subst hx;refine zz rfl (loop l hl hq r (i+1) h3 h1 ?_);rw[e];rfl
  ·have ex:yc (x::r)=x:=by unfold yc;rw[wd hx]
   refine zc (by simpa using hx) (zf ?_);rw[e,ex]at hq;exact hq _
theorem ok:Ag Bf 68 JO:=by
 refine BY iK (fun(l:List Int) hl=>?_);exact zq (Ak l) (loop l (w6 hl) (fun ob=>zx rfl rfl rfl) l 0 rfl (z8 _) rfl)
end T68
theorem T87.ok:Ag Bf 87 Qp:=by
 refine BY iK (fun⟨c,e⟩ _=>?_);refine zq (T87.Ak c e) (zk (fun h=>zf (zx rfl rfl ?_)) (fun h=>zf (zx rfl rfl ?_)))
 ·show e=Ku c e;rw[h];rfl
 ·show(0:Int)=Ku c e;rw[h];rfl
theorem cN:DQ yA:=Ab T68.ok (Ab T87.ok AQ)
theorem count_eq(n m:Int):yc [Ku (n==0) 12,Ku (decide (n>m)) 5]=Ef n m:=by
 rw[Qk,gS,gS];unfold Ef;by_cases h:n=0
 ·subst h;rfl
 ·have e:(n==0)=false:=by simpa using h
  rw[e,wc (show ¬(if false=true then(12:Int)else 0)≠0 by decide),wc h];by_cases k:m<n
  ·rw[wd k,w4 (show n>m from k)];rfl
  ·rw[wc k,w8 (show ¬n>m from k)];rfl
theorem T97.ok:Ag Bf 97 aY:=by
 refine BY cN (fun(i:Int×Int) _=>?_);obtain⟨n,m⟩:=i;refine zq (T97.Ak n m) ?_;conv=>zeta
 rw[count_eq];exact zc rfl (zc rfl (zc rfl (zf (zx rfl rfl rfl))))
theorem S3:DQ VV:=Ab T69.ok (Ab T68.ok (Ab T87.ok (Ab T97.ok AQ)))
end Go.Pe
namespace Go.Sp
theorem Oe{α:Type}(l:List α):Ef (l.length:Int) 256=if l=[]then 12 else if 256<l.length then 5 else 0:=by
 unfold Ef;cases l with
 |nil=>rfl
 |cons x l=>
  rw[wc (by rw[zr];omega),wc (List.cons_ne_nil x l)];by_cases h:256<(x::l).length
  ·rw[wd h,wd (by omega)]
  ·rw[wc h,wc (by omega)]
theorem U8(l:List BH):B4 l=if Ef (l.length:Int) 256≠0 then Ef (l.length:Int) 256 else qK l:=by
 rw[Oe];unfold B4;by_cases h:l=[]
 ·rw[wd h,wd h,wd (by decide)]
 ·rw[wc h,wc h];by_cases k:256<l.length
  ·rw[wd k,wd k,wd (by decide)]
  ·rw[wc k,wc k,wc (by decide)]
theorem Ub(l:List (List UInt8)):F6 l=if Ef (l.length:Int) 256≠0 then Ef (l.length:Int) 256 else Cf l:=by
 rw[Oe];unfold F6;by_cases h:l=[]
 ·rw[wd h,wd h,wd (by decide)]
 ·rw[wc h,wc h];by_cases k:256<l.length
  ·rw[wd k,wd k,wd (by decide)]
  ·rw[wc k,wc k,wc (by decide)]
theorem Gk(s:List UInt8)(l:List (List UInt8)):Cf (s::l)=if AG s≠0 then AG s else Cf l:=by rw[Cf]
end Go.Sp
namespace Go.Pe
open Sp
open Go.Det
namespace T55
theorem loop{Q:PV->Ob->Prop}(l:List BH)(hl:l.length<=1000000)(hs:∀p∈l,p.1.length<=1000000/\p.2.length<=1000000):∀(r:List BH) (i:Nat),l.drop i=r->i<=l.length->(∀ob,Q (.dat i64 (qK r)) ob)->Ends VV (L1 l (l.length:Int) (i:Int)) Q
 |[],i,h,hi,hq=>by
  have:=drop_nil h hi;exact zm (Ar ..) (zz (w8 (by omega)) (zf (hq _)))
 |p::r,i,h,hi,hq=>by
  obtain⟨g1,g2,g3⟩:=drop_cons (d:=(([],[]):BH)) h;obtain⟨s1,s2⟩:=hs p (zt (by rw[h];exact zw ..));have e1:zj .i64 ((i:Int)+1)=((i+1:Nat):Int):=by rw[wr _ (by omega) (by omega)];omega
  rw[PD]at hq;refine zm (Ar ..) ?_;conv=>zeta
  rw[zo,g2,e1,Qn];refine zc (w4 (by omega)) (zc (Aa (w4 (by omega)) (w4 (by omega))) (zc (w4 s1) (zc (w4 s2) (zc rfl (zk (fun c=>zf ?_) (fun c=>loop l hl hs r (i+1) g3 g1 ?_))))))
  ·have c:K1 p.1 p.2≠0:=by simpa using c
   rw[wd c]at hq;exact hq _
  ·have c:K1 p.1 p.2=0:=by simpa using c
   rw[wc (by rw[c];decide)]at hq;exact hq
theorem ok:Ag Bf 55 Yy:=by
 refine BY S3 (fun(l:List BH) hi=>?_);have hi:(decide (l.length<=1000000)&&JQ 1000000 l)=true:=hi;rw[zd,w5]at hi;have he:=U8 l;have hq:∀e ob,e=B4 l->Ad Yy l (.dat i64 e) ob:=fun e ob h=>zx rfl rfl h
 refine zq (Ak l) (zc rfl (zk (fun c=>zf (hq _ _ ?_)) (fun c=>?_)))
 ·have c:Ef (l.length:Int) 256≠0:=by simpa using c
  rw[he,wd c]
 ·have c:Ef (l.length:Int) 256=0:=by simpa using c
  rw[wc (by rw[c];decide)]at he;exact loop l hi.1 (N4 hi.2) l 0 rfl (z8 _) (fun ob=>hq _ _ he.symm)
end T55
namespace T76
theorem loop{Q:PV->Ob->Prop}(l:List (List UInt8))(hl:l.length<=1000000)(hs:∀s∈l,s.length<=1000000):∀(r:List (List UInt8)) (i:Nat) (e:Int),l.drop i=r->i<=l.length->(∀ob,Q (.dat i64 (if e≠0 then e else Cf r)) ob)->Ends VV (L1 l e (i:Int)) Q
 |[],i,e,h,hi,hq=>by
  have:=drop_nil h hi;have he:(if e≠0 then e else Cf [])=e:=by
   split
   ·rfl
   ·next k=>exact(yn.1 k).symm
  rw[he]at hq;exact zm (Ar ..) (zz (w8 (by omega)) (zf (hq _)))
 |x::r,i,e,h,hi,hq=>by
  obtain⟨g1,g2,g3⟩:=drop_cons (d:=([]:List UInt8)) h;have hx:=hs x (zt (by rw[h];exact zw ..));have e1:zj .i64 ((i:Int)+1)=((i+1:Nat):Int):=by rw[wr _ (by omega) (by omega)];omega
  refine zm (Ar ..) ?_;conv=>zeta
  rw[zo,g2,e1];refine zc (w4 (by omega)) (zk (fun c=>zc (Aa (w4 (by omega)) (w4 (by omega))) (zc (w4 hx) (loop l hl hs r (i+1) _ g3 g1 ?_))) (fun c=>zf ?_))
  ·have c:e=0:=by simpa using c
   rw[c,Gk,wc (by decide)]at hq;exact hq
  ·have c:e≠0:=by simpa using c
   rw[wd c]at hq;exact hq _
theorem ok:Ag Bf 76 bQ:=by
 refine BY S3 (fun(l:List (List UInt8)) hi=>?_);have hi:(decide (l.length<=1000000)&&l.all fun s=>decide (s.length<=1000000))=true:=hi;rw[zd,w5,ya]at hi;exact zq (Ak l) (zc rfl (loop l hi.1 (fun s h=>w6 (hi.2 s h)) l 0 _ rfl (z8 _) (fun ob=>zx rfl rfl (Ub l).symm)))
end T76
theorem eL:DQ yE:=Ab T138.ok (Ab T139.ok AQ)
theorem T67.ok:Ag Bf 67 Xp:=by
 refine BY eL (fun(a:(Int×List Int)×(Int×List Int)) ha=>?_);refine zq (T67.Ak a) (zc ha (zk (fun c=>zf (zx rfl rfl ?_)) (fun c=>zc ha (zf (zx rfl rfl ?_)))))
 ·have c:H7 a=true:=c;show([],(4:Int))=(JH a,Hy a);unfold JH Hy;rw[wd c,wd c]
 ·have c:H7 a=false:=c;show(Jx a,(0:Int))=(JH a,Hy a);unfold JH Hy;rw[wc (by rw[c];decide),wc (by rw[c];decide)]
theorem ZA:DQ Yd:=Ab T51.ok AQ
namespace T15
theorem loop{Q:PV->Ob->Prop}(l:List (List UInt8))(hl:l.length<=1000000)(hs:∀s∈l,s.length<=1000000):∀(r:List (List UInt8)) (i:Nat),l.drop i=r->i<=l.length->(∀ob,Q (.dat i64 (Cf r)) ob)->Ends Yd (L1 l (i:Int)) Q
 |[],i,h,hi,hq=>by
  have:=drop_nil h hi;exact zm (Ar ..) (zz (w8 (by omega)) (zf (hq _)))
 |x::r,i,h,hi,hq=>by
  obtain⟨g1,g2,g3⟩:=drop_cons (d:=([]:List UInt8)) h;have hx:=hs x (zt (by rw[h];exact zw ..));have e1:zj .i64 ((i:Int)+1)=((i+1:Nat):Int):=by rw[wr _ (by omega) (by omega)];omega
  rw[Gk]at hq;refine zm (Ar ..) ?_;conv=>zeta
  rw[zo,g2,e1];refine zc (w4 (by omega)) (zc (Aa (w4 (by omega)) (w4 (by omega))) (zc (w4 hx) (zk (fun c=>zf ?_) (fun c=>loop l hl hs r (i+1) g3 g1 ?_))))
  ·have c:AG x≠0:=by simpa using c
   rw[wd c]at hq;exact hq _
  ·have c:AG x=0:=by simpa using c
   rw[wc (by rw[c];decide)]at hq;exact hq
theorem ok:Ag Bf 15 sP:=by
 refine BY ZA (fun(l:List (List UInt8)) hi=>?_);have hi:(decide (l.length<=1000000)&&l.all fun s=>decide (s.length<=1000000))=true:=hi;rw[zd,w5,ya]at hi;exact zq (Ak l) (loop l hi.1 (fun s h=>w6 (hi.2 s h)) l 0 rfl (z8 _) (fun ob=>zx rfl rfl rfl))
end T15
theorem jF:DQ mA:=Ab T15.ok AQ
namespace T9
theorem loop{Q:PV->Ob->Prop}(l:List BH)(hl:l.length<=1000000)(hs:∀p∈l,p.1.length<=1000000/\p.2.length<=1000000):∀(r:List BH) (i:Nat),l.drop i=r->i<=l.length->(∀ob,Q (.dat i64 (qK r)) ob)->Ends mA (L1 l (i:Int)) Q
 |[],i,h,hi,hq=>by
  have:=drop_nil h hi;exact zm (Ar ..) (zz (w8 (by omega)) (zf (hq _)))
 |p::r,i,h,hi,hq=>by
  obtain⟨g1,g2,g3⟩:=drop_cons (d:=(([],[]):BH)) h;obtain⟨s1,s2⟩:=hs p (zt (by rw[h];exact zw ..));have e1:zj .i64 ((i:Int)+1)=((i+1:Nat):Int):=by rw[wr _ (by omega) (by omega)];omega
  have bd:(decide ((0:Int)<=(i:Int))&&decide ((i:Int)<(l.length:Int)))=true:=Aa (w4 (by omega)) (w4 (by omega));rw[PD]at hq;refine zm (Ar ..) ?_;conv=>zeta
  rw[zo,g2,e1];have s3:(decide ((2:Nat)<=2)&&true&&(decide ((2:Nat)<=1000000)&&List.all [p.1,p.2] fun s=>decide (List.length s<=1000000)))=true:=by
   show(decide (p.1.length<=1000000)&&(decide (p.2.length<=1000000)&&true))=true;rw[w4 s1,w4 s2];rfl
  refine zc (w4 (by omega)) (zc bd (zc bd (zc s3 (zk (fun c=>zf ?_) (fun c=>loop l hl hs r (i+1) g3 g1 ?_)))))
  ·have c:K1 p.1 p.2≠0:=by
    have c:(Cf [p.1,p.2] !=0)=true:=c;simpa [K1]using c
   rw[wd c]at hq;exact hq _
  ·have c:K1 p.1 p.2=0:=by
    have c:(Cf [p.1,p.2] !=0)=false:=c;simpa [K1]using c
   rw[wc (by rw[c];decide)]at hq;exact hq
theorem ok:Ag Bf 9 Yy:=by
 refine BY jF (fun(l:List BH) hi=>?_);have hi:(decide (l.length<=1000000)&&JQ 1000000 l)=true:=hi;rw[zd,w5]at hi;have hq:∀e ob,e=B4 l->Ad Yy l (.dat i64 e) ob:=fun e ob h=>zx rfl rfl h
 refine zq (Ak l) (zk (fun c=>zf (hq _ _ ?_)) (fun c=>zk (fun d=>zf (hq _ _ ?_)) (fun d=>?_)))
 ·have c:(l.length:Int)=0:=by simpa using c
  have c:l=[]:=List.eq_nil_of_length_eq_zero (by omega);unfold B4;rw[wd c]
 ·have c:l≠[]:=fun x=>by rw[x]at c;cases c
  have d:256<l.length:=by have:=w6 d;omega
  unfold B4;rw[wc c,wd d]
 ·have c:l≠[]:=fun x=>by rw[x]at c;cases c
  have d:¬256<l.length:=by have:=w7 d;omega
  exact loop l hi.1 (N4 hi.2) l 0 rfl (z8 _) (fun ob=>hq _ _ (by unfold B4;rw[wc c,wc d]))
end T9
theorem Y7:DQ Xz:=Ab T72.ok AQ
theorem T13.ok:Ag Bf 13 Qz:=by
 refine BY Y7 (fun(i:List UInt8×Int×Int×List UInt8) hi=>?_);obtain⟨a,e,bad,w⟩:=i;have hq:∀v ob,v=Gg a e w bad->Ad Qz (a,e,bad,w) (.dat .bool v) ob:=fun v ob h=>zx rfl rfl h
 have hqb:∀v ob,v=Gg a e w bad->Ad Qz (a,e,bad,w) (.bl v) ob:=fun v ob h=>zx rfl rfl h
 have key:∀x:Int,x=(if bad=0 then ET w else bad)->Gg a e w bad=if x≠0 then decide (a=[])&&decide (e=x)else decide (e=0)&&decide (a=w):=by
  rintro x rfl;rfl
 have yes:∀(x:Int) ob,x=(if bad=0 then ET w else bad)->x≠0->Ends Xz (.ite (a==[]) (.leaf (PV.dat Sh.bool (e==x)) ob) (.leaf (PV.bl false) ob)) (Ad Qz (a,e,bad,w)):=fun x ob h h0=>by
  have k:=key x h;rw[wd h0]at k;refine zk (fun c=>zf (hq _ _ ?_)) (fun c=>zf (hqb _ _ ?_))
  ·have c:a=[]:=by simpa using c
   rw[k,w4 c,yq];rfl
  ·have c:a≠[]:=by simpa using c
   rw[k,w8 c];rfl
 have no:∀(x:Int) ob,x=(if bad=0 then ET w else bad)->x=0->Ends Xz (.ite (e==0) (.leaf (PV.dat Sh.bool (a==w)) ob) (.leaf (PV.bl false) ob)) (Ad Qz (a,e,bad,w)):=fun x ob h h0=>by
  have k:=key x h;rw[wc (by rw[h0];decide)]at k;refine zk (fun c=>zf (hq _ _ ?_)) (fun c=>zf (hqb _ _ ?_))
  ·have c:e=0:=by simpa using c
   rw[k,w4 c,yq];by_cases h:a=w
   ·rw[w4 h];simpa using h
   ·rw[w8 h];simpa using h
  ·have c:e≠0:=by simpa using c
   rw[k,w8 c];rfl
 refine zq (T13.Ak a e bad w) (zk (fun c=>zc hi (zk (fun d=>?_) (fun d=>?_))) (fun c=>zk (fun d=>?_) (fun d=>?_)))
 ·have c:bad=0:=by simpa using c
  exact yes _ _ (by rw[wd c]) (by simpa using d)
 ·have c:bad=0:=by simpa using c
  exact no _ _ (by rw[wd c]) (by simpa using d)
 ·have c:bad≠0:=by simpa using c
  exact yes _ _ (by rw[wc c]) c
 ·have c:bad≠0:=by simpa using c
  exact wh (by simpa using d) c
section
open List Int Prod
namespace T58
def T(p:List UInt8×List UInt8):Tr:=tree UW false 9 58 (Af ([zi zh zh]) p)
theorem Ak(p:List UInt8×List UInt8):T p=let a':=zg (zl ze);.ite (Dd (fst p)) (.leaf (PV.agg [.dat i64 (Mc (fst p)),.dat a' (Po (fst p)),.dat i64 (J3 (fst p)),.dat a' (LQ (fst p))]) ([(ye 0 1,.box [.dat i64 (Mc (fst p)),.dat a' (Po (fst p)),.dat i64 (J3 (fst p)),.dat a' (LQ (fst p))]),(0,.box [.dat zh (fst p),.dat zh (snd p)])])) .fail:=by kernel_rfl
end T58
namespace T61
def T(p:List UInt8×List UInt8):Tr:=tree UW false 9 61 (Af ([zi zh zh]) p)
theorem Ak(p:List UInt8×List UInt8):T p=let a':=zg (zl ze);.ite (Dd (snd p)) (.leaf (PV.agg [.dat i64 (Mc (snd p)),.dat a' (Po (snd p)),.dat i64 (J3 (snd p)),.dat a' (LQ (snd p))]) ([(ye 0 1,.box [.dat i64 (Mc (snd p)),.dat a' (Po (snd p)),.dat i64 (J3 (snd p)),.dat a' (LQ (snd p))]),(0,.box [.dat zh (fst p),.dat zh (snd p)])])) .fail:=by kernel_rfl
end T61
namespace T62
def T(p:List UInt8×List UInt8)(x:(Int×List Int)×Int×List Int):Tr:=tree UW false 9 62 (Af ([zi zh zh,Sh.ptr (zi (zi i64 (zg (zl ze))) (zi i64 (zg (zl ze))))]) (p,x))
theorem Ak(p:List UInt8×List UInt8)(x:(Int×List Int)×Int×List Int):T p x=let b':=zg (zl ze);let c':=FI (fst p);let a':=FM c' x;.ite (Dd (fst p)) (.ite (zy c'&&zy x) (.ite (zy a'&&zy a') (.leaf (PV.agg [.dat i64 (Kr a' a'),.dat b' (Kc a' a'),.dat i64 (K3 a' a'),.dat b' (KM a' a')]) ([(ye (ye 0 1) 1,.box [.dat i64 (dY c' x),.dat b' (jB c' x),.dat i64 (cB c' x),.dat b' (iC c' x)]),(ye 0 1,.box [.dat i64 (Kr a' a'),.dat b' (Kc a' a'),.dat i64 (K3 a' a'),.dat b' (KM a' a')]),(0,.box [.dat zh (fst p),.dat zh (snd p)])])) .fail) .fail) .fail:=by kernel_rfl
end T62
namespace T66
def T(p:List UInt8×List UInt8)(x:(Int×List Int)×Int×List Int)(y:(Int×List Int)×Int×List Int):Tr:=tree UW false 9 66 (Af ([zi zh zh,Sh.ptr (zi (zi i64 (zg (zl ze))) (zi i64 (zg (zl ze)))),Sh.ptr (zi (zi i64 (zg (zl ze))) (zi i64 (zg (zl ze))))]) (p,x,y))
theorem Ak(p:List UInt8×List UInt8)(x:(Int×List Int)×Int×List Int)(y:(Int×List Int)×Int×List Int):T p x y=let a':=FM (FI (fst p)) x;let b':=FM (FI (snd p)) y;let c':=zg (zl ze);.ite (Dd (fst p)) (.ite (zy (FI (fst p))&&zy x) (.ite (Dd (snd p)) (.ite (zy (FI (snd p))&&zy y) (.ite (zy a'&&zy b') (.leaf (PV.agg [.dat i64 (Kr a' b'),.dat c' (Kc a' b'),.dat i64 (K3 a' b'),.dat c' (KM a' b')]) ([(ye 0 1,.box [.dat i64 (Kr a' b'),.dat c' (Kc a' b'),.dat i64 (K3 a' b'),.dat c' (KM a' b')]),(0,.box [.dat zh (fst p),.dat zh (snd p)])])) .fail) .fail) .fail) .fail) .fail:=by kernel_rfl
end T66
namespace T70
def T(p:List UInt8×List UInt8)(a:(Int×List Int)×Int×List Int)(b:(Int×List Int)×Int×List Int):Tr:=tree UW false 9 70 (Af ([zi zh zh,Sh.ptr (zi (zi i64 (zg (zl ze))) (zi i64 (zg (zl ze)))),Sh.ptr (zi (zi i64 (zg (zl ze))) (zi i64 (zg (zl ze))))]) (p,a,b))
theorem Ak(p:List UInt8×List UInt8)(a:(Int×List Int)×Int×List Int)(b:(Int×List Int)×Int×List Int):T p a b=let c':=zg (zl ze);let d':=FI (snd p);let e':=FI (fst p);let b':=Gs (G6 a e') b;let a':=FM d' b';.ite (Dd (snd p)) (.ite (Dd (fst p)) (.ite (zy a&&zy e') (.ite (zy (G6 a e')&&zy b) (.ite (zy d'&&zy b') (.ite (zy a'&&zy a') (.leaf (PV.agg [.dat i64 (Kr a' a'),.dat c' (Kc a' a'),.dat i64 (K3 a' a'),.dat c' (KM a' a')]) ([(ye (ye 0 1) 1,.box [.dat i64 (dY d' b'),.dat c' (jB d' b'),.dat i64 (cB d' b'),.dat c' (iC d' b')]),(ye 0 1,.box [.dat i64 (Kr a' a'),.dat c' (Kc a' a'),.dat i64 (K3 a' a'),.dat c' (KM a' a')]),(0,.box [.dat zh (fst p),.dat zh (snd p)])])) .fail) .fail) .fail) .fail) .fail) .fail:=by kernel_rfl
end T70
namespace T150
def T(a:(Int×List Int)×Int×List Int):Tr:=tree UW false 9 150 (Af ([zi (zi i64 (zg (zl ze))) (zi i64 (zg (zl ze)))]) a)
theorem Ak(a:(Int×List Int)×Int×List Int):T a=let a':=zg (zl ze);.leaf (PV.agg [.dat i64 (fst (fst a)),.dat a' (snd (fst a)),.dat i64 (fst (snd a)),.dat a' (snd (snd a))]) ([(ye 0 1,.box [.dat i64 (fst (fst a)),.dat a' (snd (fst a)),.dat i64 (fst (snd a)),.dat a' (snd (snd a))]),(0,.box [.dat i64 (fst (fst a)),.dat a' (snd (fst a)),.dat i64 (fst (snd a)),.dat a' (snd (snd a))])]):=by kernel_rfl
end T150
namespace T11
def T(l:List (List UInt8×List UInt8)):Tr:=tree Dy false 9 11 (Af ([z6 (zi zh zh)]) l)
def L1(v0:List (List UInt8×List UInt8))(v6:(Int×List Int)×Int×List Int):Tr:=re ((T []).L.R.L) (AE 68 [(0,.dat (z6 (zi zh zh)) v0),(6,PV.CO (zi (zi i64 (zg (zl ze))) (zi i64 (zg (zl ze)))) v6 0)] [] 0)
theorem Ak(l:List (List UInt8×List UInt8)):T l=.ite (decide (length l<=1000000)&&JQ 1000000 l) (.ite (B4 l !=0) (.leaf (.tup [.dat zh [],.dat zh [],.dat i64 (B4 l)]) []) (.ite true (L1 l ((((length l:Int),[]),1,[]))) .fail)) .fail:=by kernel_rfl
def L2(v0:List (List UInt8×List UInt8))(v6:(Int×List Int)×Int×List Int)(v9:List (List UInt8×List UInt8))(v10 v11 o1:Int)(o1_1:List Int)(o1_2:Int)(o1_3:List Int)(o0 o0_1:Int):Tr:=re ((stepT Dy (L1 v0 v6)).L) (AE 22 [(1,PV.fn (ql 58) [] []),(4,.ptr 0 0),(5,.ptr 1 0),(9,.dat (z6 (zi zh zh)) v9),(10,.dat i64 v10),(11,.dat i64 v11)] [(1,.box [.dat i64 o1,.dat (zg (zl ze)) o1_1,.dat i64 o1_2,.dat (zg (zl ze)) o1_3]),(0,.box [.dat i64 o0,.nil,.dat i64 o0_1,.nil])] 2)
theorem Ar(v0:List (List UInt8×List UInt8))(v6:(Int×List Int)×Int×List Int):stepT Dy (L1 v0 v6)=.ite true (L2 v0 v6 v0 ((length v0:Int)) 0 0 (Ck 0) 1 (Ck 1) 0 0) .fail:=by kernel_rfl
def L3(v0:List (List UInt8×List UInt8))(v6:(Int×List Int)×Int×List Int)(v9:List (List UInt8×List UInt8))(v10 v11 o1:Int)(o1_1:List Int)(o1_2:Int)(o1_3:List Int)(o0 o0_1:Int)(v9':List (List UInt8×List UInt8))(v10':Int)(v11':Int)(o4:Int)(o4_1:List Int)(o4_2:Int)(o4_3:List Int)(o3 o3_1 o2:Int)(o2_1:List Int)(o2_2:Int)(o2_3:List Int)(o1':Int)(o1_1':List Int)(o1_2':Int)(o1_3':List Int)(o0':Int)(o0_1':List Int)(o0_2:Int)(o0_3:List Int):Tr:=re ((stepT Dy (L2 v0 v6 v9 v10 v11 o1 o1_1 o1_2 o1_3 o0 o0_1)).R.L.L) (AE 22 [(1,PV.fn (ql 61) [] []),(4,.ptr 3 0),(5,.ptr 4 0),(9,.dat (z6 (zi zh zh)) v9'),(10,.dat i64 v10'),(11,.dat i64 v11')] [(4,.box [.dat i64 o4,.dat (zg (zl ze)) o4_1,.dat i64 o4_2,.dat (zg (zl ze)) o4_3]),(3,.box [.dat i64 o3,.nil,.dat i64 o3_1,.nil]),(2,.box [.dat i64 o2,.dat (zg (zl ze)) o2_1,.dat i64 o2_2,.dat (zg (zl ze)) o2_3]),(1,.box [.dat i64 o1',.dat (zg (zl ze)) o1_1',.dat i64 o1_2',.dat (zg (zl ze)) o1_3']),(0,.box [.dat i64 o0',.dat (zg (zl ze)) o0_1',.dat i64 o0_2,.dat (zg (zl ze)) o0_3])] 5)
theorem AV(v0:List (List UInt8×List UInt8))(v6:(Int×List Int)×Int×List Int)(v9:List (List UInt8×List UInt8))(v10 v11 o1:Int)(o1_1:List Int)(o1_2:Int)(o1_3:List Int)(o0 o0_1:Int):stepT Dy (L2 v0 v6 v9 v10 v11 o1 o1_1 o1_2 o1_3 o0 o0_1)=let a':=((o1,o1_1),o1_2,o1_3);let c':=fst (getD v9 (toNat v11) ([],[]));let b':=FI c';.ite (decide (v11<v10)) (.ite (decide (0<=v11)&&decide (v11<(length v9:Int))) (.ite (Dd c') (.ite (zy a'&&zy b') (L2 v0 v6 v9 v10 (zj .i64 (v11+1)) (Mq a' b') (Mz a' b') (MY a' b') (MV a' b') o0 o0_1) .fail) .fail) .fail) (.ite (zy a'&&zy v6&&decide (Sp.vI (fst (fst v6),snd (fst v6))≠0)) (.ite true (L3 v0 v6 v9 v10 v11 o1 o1_1 o1_2 o1_3 o0 o0_1 v0 ((length v0:Int)) 0 0 (Ck 0) 1 (Ck 1) 0 0 (Ye a' v6) (Xg a' v6) (WW a' v6) (WQ a' v6) o1 o1_1 o1_2 o1_3 o1 o1_1 o1_2 o1_3) .fail) .fail):=by kernel_rfl
def L4(v0:List (List UInt8×List UInt8))(v7:(Int×List Int)×Int×List Int)(o0:Int)(o0_1:List Int)(o0_2:Int)(o0_3:List Int):Tr:=re ((stepT Dy (L3 [] ((0,[]),(0,[])) [] 0 0 0 [] 0 [] 0 0 [] 0 0 0 [] 0 [] 0 0 0 [] 0 [] 0 [] 0 [] 0 [] 0 [])).R.L) (AE 68 [(0,.dat (z6 (zi zh zh)) v0),(7,PV.CO (zi (zi i64 (zg (zl ze))) (zi i64 (zg (zl ze)))) v7 0),(8,.ptr 0 0)] [(0,.box [.dat i64 o0,.dat (zg (zl ze)) o0_1,.dat i64 o0_2,.dat (zg (zl ze)) o0_3])] 1)
theorem CF(v0:List (List UInt8×List UInt8))(v6:(Int×List Int)×Int×List Int)(v9:List (List UInt8×List UInt8))(v10 v11 o1:Int)(o1_1:List Int)(o1_2:Int)(o1_3:List Int)(o0 o0_1:Int)(v9':List (List UInt8×List UInt8))(v10':Int)(v11':Int)(o4:Int)(o4_1:List Int)(o4_2:Int)(o4_3:List Int)(o3 o3_1 o2:Int)(o2_1:List Int)(o2_2:Int)(o2_3:List Int)(o1':Int)(o1_1':List Int)(o1_2':Int)(o1_3':List Int)(o0':Int)(o0_1':List Int)(o0_2:Int)(o0_3:List Int):stepT Dy (L3 v0 v6 v9 v10 v11 o1 o1_1 o1_2 o1_3 o0 o0_1 v9' v10' v11' o4 o4_1 o4_2 o4_3 o3 o3_1 o2 o2_1 o2_2 o2_3 o1' o1_1' o1_2' o1_3' o0' o0_1' o0_2 o0_3)=let b':=((o4,o4_1),o4_2,o4_3);let c':=snd (getD v9' (toNat v11') ([],[]));let a':=FI c';.ite (decide (v11'<v10')) (.ite (decide (0<=v11')&&decide (v11'<(↑(length v9'):Int))) (.ite (Dd c') (.ite (zy b'&&zy a') (L3 v0 v6 v9 v10 v11 o1 o1_1 o1_2 o1_3 o0 o0_1 v9' v10' (zj .i64 (v11'+1)) (Mq b' a') (Mz b' a') (MY b' a') (MV b' a') o3 o3_1 o2 o2_1 o2_2 o2_3 o1' o1_1' o1_2' o1_3' o0' o0_1' o0_2 o0_3) .fail) .fail) .fail) (.ite (zy b'&&zy v6&&decide (Sp.vI (fst (fst v6),snd (fst v6))≠0)) (L4 v0 (((o2,o2_1),o2_2,o2_3)) (Ye b' v6) (Xg b' v6) (WW b' v6) (WQ b' v6)) .fail):=by kernel_rfl
def L5(v0:List (List UInt8×List UInt8))(v7:(Int×List Int)×Int×List Int)(o0:Int)(o0_1:List Int)(o0_2:Int)(o0_3:List Int)(v1:(Int×List Int)×Int×List Int)(v9:List (List UInt8×List UInt8))(v10 v11 o2:Int)(o2_1:List Int)(o2_2:Int)(o2_3:List Int)(o1 o1_1:Int)(o0':Int)(o0_1':List Int)(o0_2':Int)(o0_3':List Int):Tr:=re ((stepT Dy (L4 v0 v7 o0 o0_1 o0_2 o0_3)).L) (AE 22 [(1,PV.fn (ql 62) [] [PV.CO (zi (zi i64 (zg (zl ze))) (zi i64 (zg (zl ze)))) v1 0]),(4,.ptr 1 0),(5,.ptr 2 0),(9,.dat (z6 (zi zh zh)) v9),(10,.dat i64 v10),(11,.dat i64 v11)] [(2,.box [.dat i64 o2,.dat (zg (zl ze)) o2_1,.dat i64 o2_2,.dat (zg (zl ze)) o2_3]),(1,.box [.dat i64 o1,.nil,.dat i64 o1_1,.nil]),(0,.box [.dat i64 o0',.dat (zg (zl ze)) o0_1',.dat i64 o0_2',.dat (zg (zl ze)) o0_3'])] 3)
theorem Cy(v0:List (List UInt8×List UInt8))(v7:(Int×List Int)×Int×List Int)(o0:Int)(o0_1:List Int)(o0_2:Int)(o0_3:List Int):stepT Dy (L4 v0 v7 o0 o0_1 o0_2 o0_3)=.ite true (L5 v0 v7 o0 o0_1 o0_2 o0_3 v7 v0 ((length v0:Int)) 0 0 (Ck 0) 1 (Ck 1) 0 0 o0 o0_1 o0_2 o0_3) .fail:=by kernel_rfl
def L6(v0:List (List UInt8×List UInt8))(v7:(Int×List Int)×Int×List Int)(v8:(Int×List Int)×Int×List Int)(o0:Int)(o0_1:List Int)(o0_2:Int)(o0_3:List Int):Tr:=re ((stepT Dy (L5 [] ((0,[]),(0,[])) 0 [] 0 [] ((0,[]),(0,[])) [] 0 0 0 [] 0 [] 0 0 0 [] 0 [])).R.L.R) (AE 68 [(0,.dat (z6 (zi zh zh)) v0),(7,PV.CO (zi (zi i64 (zg (zl ze))) (zi i64 (zg (zl ze)))) v7 0),(8,PV.CO (zi (zi i64 (zg (zl ze))) (zi i64 (zg (zl ze)))) v8 0),(9,.ptr 0 0)] [(0,.box [.dat i64 o0,.dat (zg (zl ze)) o0_1,.dat i64 o0_2,.dat (zg (zl ze)) o0_3])] 1)
theorem EY(v0:List (List UInt8×List UInt8))(v7:(Int×List Int)×Int×List Int)(o0:Int)(o0_1:List Int)(o0_2:Int)(o0_3:List Int)(v1:(Int×List Int)×Int×List Int)(v9:List (List UInt8×List UInt8))(v10 v11 o2:Int)(o2_1:List Int)(o2_2:Int)(o2_3:List Int)(o1 o1_1:Int)(o0':Int)(o0_1':List Int)(o0_2':Int)(o0_3':List Int):stepT Dy (L5 v0 v7 o0 o0_1 o0_2 o0_3 v1 v9 v10 v11 o2 o2_1 o2_2 o2_3 o1 o1_1 o0' o0_1' o0_2' o0_3')=let b':=zg (zl ze);let c':=((o2,o2_1),o2_2,o2_3);let e':=getD v9 (toNat v11) ([],[]);let a':=(fst e',snd e');let d':=tS a' v1;.ite (decide (v11<v10)) (.ite (decide (0<=v11)&&decide (v11<(length v9:Int))) (.ite (Sp.okW a' v1) (.ite (zy c'&&zy d') (L5 v0 v7 o0 o0_1 o0_2 o0_3 v1 v9 v10 (zj .i64 (v11+1)) (Mq c' d') (Mz c' d') (MY c' d') (MV c' d') o1 o1_1 o0' o0_1' o0_2' o0_3') .fail) .fail) .fail) (.ite (Sp.Db (o2,o2_1)) (.ite (P7 c'==0) (.leaf (.tup [.dat zh [],.dat zh [],.dat i64 (14:Int)]) ([(3,.box [.dat i64 o2,.dat b' o2_1,.dat i64 o2_2,.dat b' o2_3]),(2,.box [.dat i64 o2,.dat b' o2_1,.dat i64 o2_2,.dat b' o2_3]),(1,.box [.dat i64 o2,.dat b' o2_1,.dat i64 o2_2,.dat b' o2_3]),(0,.box [.dat i64 o0',.dat b' o0_1',.dat i64 o0_2',.dat b' o0_3'])])) (L6 v0 v7 (((o0',o0_1'),o0_2',o0_3')) o2 o2_1 o2_2 o2_3)) .fail):=by kernel_rfl
def L7(v0:List (List UInt8×List UInt8))(v7:(Int×List Int)×Int×List Int)(v8:(Int×List Int)×Int×List Int)(o0:Int)(o0_1:List Int)(o0_2:Int)(o0_3:List Int)(v1:(Int×List Int)×Int×List Int)(v1_1:(Int×List Int)×Int×List Int)(v9:List (List UInt8×List UInt8))(v10 v11 o2:Int)(o2_1:List Int)(o2_2:Int)(o2_3:List Int)(o1 o1_1:Int)(o0':Int)(o0_1':List Int)(o0_2':Int)(o0_3':List Int):Tr:=re ((stepT Dy (L6 v0 v7 v8 o0 o0_1 o0_2 o0_3)).L) (AE 22 [(1,PV.fn (ql 66) [] [PV.CO (zi (zi i64 (zg (zl ze))) (zi i64 (zg (zl ze)))) v1 0,PV.CO (zi (zi i64 (zg (zl ze))) (zi i64 (zg (zl ze)))) v1_1 0]),(4,.ptr 1 0),(5,.ptr 2 0),(9,.dat (z6 (zi zh zh)) v9),(10,.dat i64 v10),(11,.dat i64 v11)] [(2,.box [.dat i64 o2,.dat (zg (zl ze)) o2_1,.dat i64 o2_2,.dat (zg (zl ze)) o2_3]),(1,.box [.dat i64 o1,.nil,.dat i64 o1_1,.nil]),(0,.box [.dat i64 o0',.dat (zg (zl ze)) o0_1',.dat i64 o0_2',.dat (zg (zl ze)) o0_3'])] 3)
theorem FU(v0:List (List UInt8×List UInt8))(v7:(Int×List Int)×Int×List Int)(v8:(Int×List Int)×Int×List Int)(o0:Int)(o0_1:List Int)(o0_2:Int)(o0_3:List Int):stepT Dy (L6 v0 v7 v8 o0 o0_1 o0_2 o0_3)=.ite true (L7 v0 v7 v8 o0 o0_1 o0_2 o0_3 v7 v8 v0 ((length v0:Int)) 0 0 (Ck 0) 1 (Ck 1) 0 0 o0 o0_1 o0_2 o0_3) .fail:=by kernel_rfl
theorem EP(v0:List (List UInt8×List UInt8))(v7:(Int×List Int)×Int×List Int)(v8:(Int×List Int)×Int×List Int)(o0:Int)(o0_1:List Int)(o0_2:Int)(o0_3:List Int)(v1:(Int×List Int)×Int×List Int)(v1_1:(Int×List Int)×Int×List Int)(v9:List (List UInt8×List UInt8))(v10 v11 o2:Int)(o2_1:List Int)(o2_2:Int)(o2_3:List Int)(o1 o1_1:Int)(o0':Int)(o0_1':List Int)(o0_2':Int)(o0_3':List Int):stepT Dy (L7 v0 v7 v8 o0 o0_1 o0_2 o0_3 v1 v1_1 v9 v10 v11 o2 o2_1 o2_2 o2_3 o1 o1_1 o0' o0_1' o0_2' o0_3')=let d':=zg (zl ze);let e':=((o2,o2_1),o2_2,o2_3);let f':=((o0',o0_1'),o0_2',o0_3');let h':=getD v9 (toNat v11) ([],[]);let b':=HP e' f';let c':=tG (fst h',snd h') v1 v1_1;let g':=FM v8 (G6 b' v7);let a':=[(ye (ye 3 1) 1,.arr false 29 i64 [Hy b',Hy g']),(ye 3 1,.box [.dat i64 (Ye e' f'),.dat d' (Xg e' f'),.dat i64 (WW e' f'),.dat d' (WQ e' f')]),(3,.box [.dat i64 o2,.dat d' o2_1,.dat i64 o2_2,.dat d' o2_3]),(2,.box [.dat i64 o2,.dat d' o2_1,.dat i64 o2_2,.dat d' o2_3]),(1,.box [.dat i64 o2,.dat d' o2_1,.dat i64 o2_2,.dat d' o2_3]),(0,.box [.dat i64 o0',.dat d' o0_1',.dat i64 o0_2',.dat d' o0_3'])];.ite (decide (v11<v10)) (.ite (decide (0<=v11)&&decide (v11<(length v9:Int))) (.ite (Sp.okB (fst h',snd h') v1 v1_1) (.ite (zy e'&&zy c') (L7 v0 v7 v8 o0 o0_1 o0_2 o0_3 v1 v1_1 v9 v10 (zj .i64 (v11+1)) (Mq e' c') (Mz e' c') (MY e' c') (MV e' c') o1 o1_1 o0' o0_1' o0_2' o0_3') .fail) .fail) .fail) (.ite (zy e'&&zy f'&&decide (Sp.vI (o0',o0_1')≠0)) (.ite (Sp.E8 b') (.ite (zy b'&&zy v7) (.ite (zy v8&&zy (G6 b' v7)) (.ite (Sp.E8 g') (.ite (decide (2<=2)&&true&&decide (2<=1000000)) (.ite (yc [Hy b',Hy g'] !=0) (.leaf (.tup [.dat zh [],.dat zh [],.dat i64 (yc [Hy b',Hy g'])]) a') (.leaf (.tup [.dat zh (JH b'),.dat zh (JH g'),.dat i64 (0:Int)]) a')) .fail) .fail) .fail) .fail) .fail) .fail):=by kernel_rfl
end T11
namespace T12
def T(l:List (List UInt8×List UInt8))(a b:List UInt8):Tr:=tree Dy false 9 12 (Af ([z6 (zi zh zh),zh,zh]) (l,a,b))
def L1(v0:List (List UInt8×List UInt8))(v9:(Int×List Int)×Int×List Int)(v10:(Int×List Int)×Int×List Int):Tr:=re ((T [] [] []).L.L.L.L.R.L.L) (AE 32 [(0,.dat (z6 (zi zh zh)) v0),(9,PV.CO (zi (zi i64 (zg (zl ze))) (zi i64 (zg (zl ze)))) v9 0),(10,PV.CO (zi (zi i64 (zg (zl ze))) (zi i64 (zg (zl ze)))) v10 0)] [] 0)
theorem Ak(l:List (List UInt8×List UInt8))(a b:List UInt8):T l a b=.ite (decide (length l<=1000000)&&JQ 1000000 l) (.ite (decide (length a<=1000000)) (.ite (decide (length b<=1000000)) (.ite (decide (3<=3)&&true&&decide (3<=1000000)) (.ite (yc [B4 l,AG a,AG b] !=0) (.leaf (.tup [.dat zh [],.dat i64 (yc [B4 l,AG a,AG b])]) ([(0,.arr false 29 i64 [B4 l,AG a,AG b])])) (.ite (Dd a) (.ite (Dd b) (L1 l (((Mc a,snd (CD (A6 a))),J3 a,snd (CD (AH a)))) (((Mc b,snd (CD (A6 b))),J3 b,snd (CD (AH b))))) .fail) .fail)) .fail) .fail) .fail) .fail:=by kernel_rfl
def L2(v0:List (List UInt8×List UInt8))(v9:(Int×List Int)×Int×List Int)(v10:(Int×List Int)×Int×List Int)(v1:(Int×List Int)×Int×List Int)(v1_1:(Int×List Int)×Int×List Int)(v9':List (List UInt8×List UInt8))(v10':Int)(v11 o1:Int)(o1_1:List Int)(o1_2:Int)(o1_3:List Int)(o0 o0_1:Int):Tr:=re ((stepT Dy (L1 v0 v9 v10)).L) (AE 22 [(1,PV.fn (ql 70) [] [PV.CO (zi (zi i64 (zg (zl ze))) (zi i64 (zg (zl ze)))) v1 0,PV.CO (zi (zi i64 (zg (zl ze))) (zi i64 (zg (zl ze)))) v1_1 0]),(4,.ptr 0 0),(5,.ptr 1 0),(9,.dat (z6 (zi zh zh)) v9'),(10,.dat i64 v10'),(11,.dat i64 v11)] [(1,.box [.dat i64 o1,.dat (zg (zl ze)) o1_1,.dat i64 o1_2,.dat (zg (zl ze)) o1_3]),(0,.box [.dat i64 o0,.nil,.dat i64 o0_1,.nil])] 2)
theorem Ar(v0:List (List UInt8×List UInt8))(v9:(Int×List Int)×Int×List Int)(v10:(Int×List Int)×Int×List Int):stepT Dy (L1 v0 v9 v10)=.ite true (L2 v0 v9 v10 v9 v10 v0 ((length v0:Int)) 0 0 (Ck 0) 1 (Ck 1) 0 0) .fail:=by kernel_rfl
theorem AV(v0:List (List UInt8×List UInt8))(v9:(Int×List Int)×Int×List Int)(v10:(Int×List Int)×Int×List Int)(v1:(Int×List Int)×Int×List Int)(v1_1:(Int×List Int)×Int×List Int)(v9':List (List UInt8×List UInt8))(v10':Int)(v11 o1:Int)(o1_1:List Int)(o1_2:Int)(o1_3:List Int)(o0 o0_1:Int):stepT Dy (L2 v0 v9 v10 v1 v1_1 v9' v10' v11 o1 o1_1 o1_2 o1_3 o0 o0_1)=let b':=((o1,o1_1),o1_2,o1_3);let c':=zg (zl ze);let e':=getD v9' (toNat v11) ([],[]);let a':=(fst e',snd e');let d':=sM a' v1 v1_1;.ite (decide (v11<v10')) (.ite (decide (0<=v11)&&decide (v11<(↑(length v9'):Int))) (.ite (xV a' v1 v1_1) (.ite (zy b'&&zy d') (L2 v0 v9 v10 v1 v1_1 v9' v10' (zj .i64 (v11+1)) (Mq b' d') (Mz b' d') (MY b' d') (MV b' d') o0 o0_1) .fail) .fail) .fail) (.ite (Sp.E8 b') (.leaf (.tup [.dat zh (JH b'),.dat i64 (Hy b')]) ([(1,.box [.dat i64 o1,.dat c' o1_1,.dat i64 o1_2,.dat c' o1_3]),(0,.box [.dat i64 o1,.dat c' o1_1,.dat i64 o1_2,.dat c' o1_3])])) .fail):=by kernel_rfl
end T12
end
end Go.Pe
namespace Go.Sp
theorem mV(l:List BH):C5 (l.map fun p=>Aw p.1)=C5 ((AS l).map yv):=by rw[X9]
theorem kZ(l:List BH):C5 (l.map fun p=>Aw p.2)=C5 ((AS l).map yw):=by rw[WM]
theorem Th(a:Rat):∀l:List BH,C5 (l.map fun p=>(Aw p.1-a)*(Aw p.1-a))=CH a (AS l)
 |[]=>rfl
 |p::l=>by
  show _+C5 (l.map fun p=>(Aw p.1-a)*(Aw p.1-a))=_+CH a (AS l);rw[Th a l]
theorem TZ(a b:Rat):∀l:List BH,C5 (l.map fun p=>(Aw p.1-a)*(Aw p.2-b))=Dn a b (AS l)
 |[]=>rfl
 |p::l=>by
  show _+C5 (l.map fun p=>(Aw p.1-a)*(Aw p.2-b))=_+Dn a b (AS l);rw[TZ a b l]
theorem Gb(l:List BH):(AS l).length=l.length:=by unfold AS;exact yi ..
end Go.Sp
namespace Go.Pe
open Sp
open Go.Det
theorem G1:DQ UW:=Ab T59.ok (Ab T71.ok (Ab T63.ok (Ab T64.ok AQ)))
theorem T58.ok:Ag Bf 58 cXa:=by
 refine BY G1 (fun(p:BH) hp=>?_);exact zq (T58.Ak p) (zc hp (zf (zx rfl rfl rfl)))
theorem T61.ok:Ag Bf 61 cXb:=by
 refine BY G1 (fun(p:BH) hp=>?_);exact zq (T61.Ak p) (zc hp (zf (zx rfl rfl rfl)))
theorem T62.ok:Ag Bf 62 cWd:=by
 refine BY G1 (fun(i:BH×An) hi=>?_);obtain⟨p,x⟩:=i;have hi:Sp.okW p x=true:=hi;unfold Sp.okW at hi;rw[zd,zd,zd]at hi;obtain⟨⟨⟨h1,h2⟩,h3⟩,h4⟩:=hi;exact zq (T62.Ak p x) (zc h1 (zc (Aa h2 h3) (zc (Aa h4 h4) (zf (zx rfl rfl rfl)))))
theorem T66.ok:Ag Bf 66 cBt:=by
 refine BY G1 (fun(i:BH×An×An) hi=>?_);obtain⟨p,x,y⟩:=i;have hi:Sp.okB p x y=true:=hi;unfold Sp.okB at hi;rw[zd,zd,zd,zd,zd,zd,zd]at hi;obtain⟨⟨⟨⟨⟨⟨⟨h1,h2⟩,h3⟩,h4⟩,h5⟩,h6⟩,h7⟩,h8⟩:=hi;exact zq (T66.Ak p x y) (zc h1 (zc (Aa h3 h5) (zc h2 (zc (Aa h4 h6) (zc (Aa h7 h8) (zf (zx rfl rfl rfl)))))))
theorem T70.ok:Ag Bf 70 cMs:=by
 refine BY G1 (fun(i:BH×An×An) hi=>?_);obtain⟨p,a,b⟩:=i;have hi:xV p a b=true:=hi;unfold xV at hi;rw[zd,zd,zd,zd,zd,zd,zd,zd]at hi;obtain⟨⟨⟨⟨⟨⟨⟨⟨h1,h2⟩,h3⟩,h4⟩,h5⟩,h6⟩,h7⟩,h8⟩,h9⟩:=hi;exact zq (T70.Ak p a b) (zc h2 (zc h1 (zc (Aa h5 h3) (zc (Aa h7 h6) (zc (Aa h4 h8) (zc (Aa h9 h9) (zf (zx rfl rfl rfl))))))))
theorem T150.ok:Ag Bf 150 Z7:=by
 refine BY G1 (fun(a:An) _=>?_);exact zq (T150.Ak a) (zf (zx rfl rfl rfl))
theorem UO:DQ Dy:=Ab T55.ok (Ab T76.ok (Ab T68.ok (Ab T69.ok (Ab T59.ok (Ab T56.ok (Ab T71.ok (Ab T63.ok (Ab T64.ok (Ab T60.ok (Ab T65.ok (Ab T67.ok (Ab T58.ok (Ab T61.ok (Ab T62.ok (Ab T66.ok (Ab T70.ok (Ab T150.ok AQ)))))))))))))))))
structure PtR(p:BH):Prop where
 bx:Dd p.1=true
 by':Dd p.2=true
 x:RS 10 (FI p.1) (Aw p.1)
 y:RS 10 (FI p.2) (Aw p.2)
theorem Q9{l:List BH}(h:B4 l=0)(k:Jm l=true):∀p∈l,PtR p:=fun p hp=>by
 obtain⟨c1,c2⟩:=(DW h).2.2 p hp;obtain⟨s1,s2⟩:=(CB k).2 p hp;exact⟨(Rx c1).2,(Rx c2).2,(KX c1).mono s1,(KX c2).mono s2⟩
namespace T11
variable {Q:PV->Ob->Prop}
theorem xK(l:List BH)(hl:l.length<=10)(v0:List BH)(v6:An)(o0 o0_1:Int)(hp:∀p∈l,Dd p.1=true/\RS 10 (FI p.1) (Aw p.1)):∀(r:List BH) (i K:Nat) (f:An) (s:Rat),l.drop i=r->i<=l.length->RS K f s->K+11*r.length<=4000->(∀g,RS (K+11*r.length) g (s+C5 (r.map fun p=>Aw p.1))->Ends Dy (L2 v0 v6 l (l.length:Int) (l.length:Int) g.1.1 g.1.2 g.2.1 g.2.2 o0 o0_1) Q)->Ends Dy (L2 v0 v6 l (l.length:Int) (i:Int) f.1.1 f.1.2 f.2.1 f.2.2 o0 o0_1) Q
 |[],i,K,f,s,h,hi,hf,hk,hq=>by
  have e:i=l.length:=drop_nil h hi;subst e;refine hq f ?_;show RS K f (s+0);rw[yg];exact hf
 |p::r,i,K,f,s,h,hi,hf,hk,hq=>by
  obtain⟨g1,g2,g3⟩:=drop_cons (d:=(([],[]):BH)) h;obtain⟨p1,p2⟩:=hp p (zt (by rw[h];exact zw ..));have e1:zj .i64 ((i:Int)+1)=((i+1:Nat):Int):=by rw[wr _ (by omega) (by omega)];omega
  have hlen:(p::r).length=r.length+1:=rfl;rw[hlen]at hk hq;have ha:=hf.add p2 (by omega) (by decide);refine zm (AV ..) ?_;conv=>zeta
  rw[zo,g2,e1];refine zc (w4 (by omega)) (zc (Aa (w4 (by omega)) (w4 (by omega))) (zc p1 (zc (hf.qR p2 (by omega) (by decide)) ?_)));refine xK l hl v0 v6 o0 o0_1 hp r (i+1) _ (Gs f (FI p.1)) _ g3 g1 ha (by omega) fun g hg=>hq g ?_
  have e2:s+C5 ((p::r).map fun p=>Aw p.1)=s+(Aw p.1)+C5 (r.map fun p=>Aw p.1):=by
   rw[qd,C5,qe]
  rw[e2];exact hg.mono (by omega)
theorem yK(l:List BH)(hl:l.length<=10)(v0:List BH)(v6:An)(v9:List BH)(v10 v11:Int)(u:An)(o0 o0_1 o3 o3_1:Int)(w x y:An)(hp:∀p∈l,Dd p.2=true/\RS 10 (FI p.2) (Aw p.2)):∀(r:List BH) (i K:Nat) (f:An) (s:Rat),l.drop i=r->i<=l.length->RS K f s->K+11*r.length<=4000->(∀g,RS (K+11*r.length) g (s+C5 (r.map fun p=>Aw p.2))->Ends Dy (L3 v0 v6 v9 v10 v11 u.1.1 u.1.2 u.2.1 u.2.2 o0 o0_1 l (l.length:Int) (l.length:Int) g.1.1 g.1.2 g.2.1 g.2.2 o3 o3_1 w.1.1 w.1.2 w.2.1 w.2.2 x.1.1 x.1.2 x.2.1 x.2.2 y.1.1 y.1.2 y.2.1 y.2.2) Q)->Ends Dy (L3 v0 v6 v9 v10 v11 u.1.1 u.1.2 u.2.1 u.2.2 o0 o0_1 l (l.length:Int) (i:Int) f.1.1 f.1.2 f.2.1 f.2.2 o3 o3_1 w.1.1 w.1.2 w.2.1 w.2.2 x.1.1 x.1.2 x.2.1 x.2.2 y.1.1 y.1.2 y.2.1 y.2.2) Q
 |[],i,K,f,s,h,hi,hf,hk,hq=>by
  have e:i=l.length:=drop_nil h hi;subst e;refine hq f ?_;show RS K f (s+0);rw[yg];exact hf
 |p::r,i,K,f,s,h,hi,hf,hk,hq=>by
  obtain⟨g1,g2,g3⟩:=drop_cons (d:=(([],[]):BH)) h;obtain⟨p1,p2⟩:=hp p (zt (by rw[h];exact zw ..));have e1:zj .i64 ((i:Int)+1)=((i+1:Nat):Int):=by rw[wr _ (by omega) (by omega)];omega
  have hlen:(p::r).length=r.length+1:=rfl;rw[hlen]at hk hq;have ha:=hf.add p2 (by omega) (by decide);refine zm (CF ..) ?_;conv=>zeta
  rw[zo,g2,e1];refine zc (w4 (by omega)) (zc (Aa (w4 (by omega)) (w4 (by omega))) (zc p1 (zc (hf.qR p2 (by omega) (by decide)) ?_)));refine yK l hl v0 v6 v9 v10 v11 u o0 o0_1 o3 o3_1 w x y hp r (i+1) _ (Gs f (FI p.2)) _ g3 g1 ha (by omega) fun g hg=>hq g ?_
  have e2:s+C5 ((p::r).map fun p=>Aw p.2)=s+(Aw p.2)+C5 (r.map fun p=>Aw p.2):=by
   rw[qd,C5,qe]
  rw[e2];exact hg.mono (by omega)
theorem xP(l:List BH)(hl:l.length<=10)(v0:List BH)(v7:An)(w:An)(xm:An)(X:Rat)(o1 o1_1:Int)(y:An)(hp:∀p∈l,Sp.okW p xm=true/\RS 246 (tS p xm) ((Aw p.1-X)*(Aw p.1-X))):∀(r:List BH) (i K:Nat) (f:An) (s:Rat),l.drop i=r->i<=l.length->RS K f s->K+247*r.length<=4000->(∀g,RS (K+247*r.length) g (s+C5 (r.map fun p=>(Aw p.1-X)*(Aw p.1-X)))->Ends Dy (L5 v0 v7 w.1.1 w.1.2 w.2.1 w.2.2 xm l (l.length:Int) (l.length:Int) g.1.1 g.1.2 g.2.1 g.2.2 o1 o1_1 y.1.1 y.1.2 y.2.1 y.2.2) Q)->Ends Dy (L5 v0 v7 w.1.1 w.1.2 w.2.1 w.2.2 xm l (l.length:Int) (i:Int) f.1.1 f.1.2 f.2.1 f.2.2 o1 o1_1 y.1.1 y.1.2 y.2.1 y.2.2) Q
 |[],i,K,f,s,h,hi,hf,hk,hq=>by
  have e:i=l.length:=drop_nil h hi;subst e;refine hq f ?_;show RS K f (s+0);rw[yg];exact hf
 |p::r,i,K,f,s,h,hi,hf,hk,hq=>by
  obtain⟨g1,g2,g3⟩:=drop_cons (d:=(([],[]):BH)) h;obtain⟨p1,p2⟩:=hp p (zt (by rw[h];exact zw ..));have e1:zj .i64 ((i:Int)+1)=((i+1:Nat):Int):=by rw[wr _ (by omega) (by omega)];omega
  have hlen:(p::r).length=r.length+1:=rfl;rw[hlen]at hk hq;have ha:=hf.add p2 (by omega) (by decide);refine zm (EY ..) ?_;conv=>zeta
  rw[zo,g2,e1];refine zc (w4 (by omega)) (zc (Aa (w4 (by omega)) (w4 (by omega))) (zc p1 (zc (hf.qR p2 (by omega) (by decide)) ?_)));refine xP l hl v0 v7 w xm X o1 o1_1 y hp r (i+1) _ (Gs f (tS p xm)) _ g3 g1 ha (by omega) fun g hg=>hq g ?_
  have e2:s+C5 ((p::r).map fun p=>(Aw p.1-X)*(Aw p.1-X))=s+((Aw p.1-X)*(Aw p.1-X))+C5 (r.map fun p=>(Aw p.1-X)*(Aw p.1-X)):=by
   rw[qd,C5,qe]
  rw[e2];exact hg.mono (by omega)
theorem zR(l:List BH)(hl:l.length<=10)(v0:List BH)(v7 v8:An)(w:An)(xm ym:An)(X Y:Rat)(o1 o1_1:Int)(y:An)(hp:∀p∈l,Sp.okB p xm ym=true/\RS 246 (tG p xm ym) ((Aw p.1-X)*(Aw p.2-Y))):∀(r:List BH) (i K:Nat) (f:An) (s:Rat),l.drop i=r->i<=l.length->RS K f s->K+247*r.length<=4000->(∀g,RS (K+247*r.length) g (s+C5 (r.map fun p=>(Aw p.1-X)*(Aw p.2-Y)))->Ends Dy (L7 v0 v7 v8 w.1.1 w.1.2 w.2.1 w.2.2 xm ym l (l.length:Int) (l.length:Int) g.1.1 g.1.2 g.2.1 g.2.2 o1 o1_1 y.1.1 y.1.2 y.2.1 y.2.2) Q)->Ends Dy (L7 v0 v7 v8 w.1.1 w.1.2 w.2.1 w.2.2 xm ym l (l.length:Int) (i:Int) f.1.1 f.1.2 f.2.1 f.2.2 o1 o1_1 y.1.1 y.1.2 y.2.1 y.2.2) Q
 |[],i,K,f,s,h,hi,hf,hk,hq=>by
  have e:i=l.length:=drop_nil h hi;subst e;refine hq f ?_;show RS K f (s+0);rw[yg];exact hf
 |p::r,i,K,f,s,h,hi,hf,hk,hq=>by
  obtain⟨g1,g2,g3⟩:=drop_cons (d:=(([],[]):BH)) h;obtain⟨p1,p2⟩:=hp p (zt (by rw[h];exact zw ..));have e1:zj .i64 ((i:Int)+1)=((i+1:Nat):Int):=by rw[wr _ (by omega) (by omega)];omega
  have hlen:(p::r).length=r.length+1:=rfl;rw[hlen]at hk hq;have ha:=hf.add p2 (by omega) (by decide);refine zm (EP ..) ?_;conv=>zeta
  rw[zo,g2,e1];refine zc (w4 (by omega)) (zc (Aa (w4 (by omega)) (w4 (by omega))) (zc p1 (zc (hf.qR p2 (by omega) (by decide)) ?_)));refine zR l hl v0 v7 v8 w xm ym X Y o1 o1_1 y hp r (i+1) _ (Gs f (tG p xm ym)) _ g3 g1 ha (by omega) fun g hg=>hq g ?_
  have e2:s+C5 ((p::r).map fun p=>(Aw p.1-X)*(Aw p.2-Y))=s+((Aw p.1-X)*(Aw p.2-Y))+C5 (r.map fun p=>(Aw p.1-X)*(Aw p.2-Y)):=by
   rw[qd,C5,qe]
  rw[e2];exact hg.mono (by omega)
theorem zW(l:List BH)(c:B4 l=0)(hw:Jm l=true)(FX FY w:An)(X Y:Rat)(hX:X=BM ((AS l).map yv))(hY:Y=BM ((AS l).map yw))(xm:RS 112 FX X)(ym:RS 112 FY Y)(wr':RS 225 w (Gq l))(z:Gq l≠0):Ends Dy (L6 l FX FY w.1.1 w.1.2 w.2.1 w.2.2) (Ad fI l):=by
 obtain⟨n10,_⟩:=CB hw;have pr:=Q9 c hw;have ln:Qe 10 10 (AS l):=LU c n10 (CB hw).2;have hq:Gq l=CH X (AS l):=by rw[hX];rfl
 have es:GA (AS l)=Dn X Y (AS l)/Gq l:=by rw[hX,hY];rfl
 have eo:Zq (AS l)=Y-GA (AS l)*X:=by rw[hX,hY];rfl
 have ps:=(V4 ln Jr QL (AS l).length).1;rw[qh, <-hX, <-hY]at ps;have ss:=OV ln Jr QL z;have os':=tX ln Jr QL z;refine zm (FU ..) (zc rfl ?_);refine zR l n10 l FX FY w FX FY X Y 0 0 w (fun p hp=>?_) l 0 1 ((0,Ck 0),(1,Ck 1)) 0 rfl (z8 _) K0 (by omega) fun b hb=>?_
 ·have d:=(pr p hp).x.sub xm (by decide) (by decide);have d':=(pr p hp).y.sub ym (by decide) (by decide);exact⟨Aa (Aa (Aa (Aa (Aa (Aa (Aa (pr p hp).bx (pr p hp).by') ((pr p hp).x.BK (by decide))) ((pr p hp).y.BK (by decide))) (xm.BK (by decide))) (ym.BK (by decide))) (d.BK (by decide))) (d'.BK (by decide)),(d.mul d' (by decide) (by decide)).mono (by decide)⟩
 rw[yz,TZ]at hb;have br:RS 225 b (Dn X Y (AS l)):=⟨hb.r,ps⟩;have sr:RS 326 (HP b w) (GA (AS l)):=⟨by rw[es];exact(br.div wr' (by decide) (by decide) z).r,ss⟩;have tr:=sr.mul xm (by decide) (by decide);have or':RS 551 (FM FY (G6 (HP b w) FX)) (Zq (AS l)):=⟨by rw[eo];exact(ym.sub tr (by decide) (by decide)).r,os'⟩;have s1:=bV sr (e:=0) rfl;have o1:=bV or' (e:=0) rfl;have s2:=eT sr.z (by decide);have o2:=eT or'.z (by decide);rw[s2.1,s2.2,Prod.mk.injEq]at s1;rw[o2.1,o2.2,Prod.mk.injEq]at o1;have n1:=br.ok3 wr' (by decide) (by decide) z;have n2:=sr.E8 (by decide);have n3:=sr.qR xm (by decide) (by decide);have n4:=ym.qR tr (by decide) (by decide);have n5:=or'.E8 (by decide);refine zm (EP ..) (zz (w8 (by omega)) (zc n1 (zc n2 (zc n3 (zc n4 (zc n5 (zc rfl (zz ?_ (zf (zx rfl rfl ?_))))))))))
 ·show(yc [Hy (HP b w),Hy (FM FY (G6 (HP b w) FX))] !=0)=false;rw[s1.2,o1.2];rfl
 ·have e:GD l=0:=by unfold GD;rw[wc (by rw[c];decide),wc z]
  show(JH (HP b w),JH (FM FY (G6 (HP b w) FX)),(0:Int))=(Jj l,Jk l,GD l);unfold Jj Jk;rw[e,wd rfl,wd rfl,s1.1,o1.1]
theorem Aae(l:List BH)(c:B4 l=0)(hw:Jm l=true)(FX FY:An)(X Y:Rat)(hX:X=BM ((AS l).map yv))(hY:Y=BM ((AS l).map yw))(xm:RS 112 FX X)(ym:RS 112 FY Y):Ends Dy (L4 l FX FY.1.1 FY.1.2 FY.2.1 FY.2.2) (Ad fI l):=by
 obtain⟨n10,_⟩:=CB hw;have pr:=Q9 c hw;have ln:Qe 10 10 (AS l):=LU c n10 (CB hw).2;have hq:Gq l=CH X (AS l):=by rw[hX];rfl
 have ps:=(V4 ln Jr QL (AS l).length).2;rw[qh, <-hX, <-hq]at ps;refine zm (Cy ..) (zc rfl ?_);refine xP l n10 l FX FY FX X 0 0 FY (fun p hp=>?_) l 0 1 ((0,Ck 0),(1,Ck 1)) 0 rfl (z8 _) K0 (by omega) fun w hw0=>?_
 ·have d:=(pr p hp).x.sub xm (by decide) (by decide);exact⟨Aa (Aa (Aa (pr p hp).bx ((pr p hp).x.BK (by decide))) (xm.BK (by decide))) (d.BK (by decide)),(d.mul d (by decide) (by decide)).mono (by decide)⟩
 rw[yz,Th, <-hq]at hw0;have wr':RS 225 w (Gq l):=⟨hw0.r,ps⟩;refine zm (EY ..) (zz (w8 (by omega)) (zc wr'.Db (zk (fun z=>zf (zx rfl rfl ?_)) (fun z=>?_))))
 ·have z:P7 w=0:=by
   have z:(P7 w==0)=true:=z;simpa using z
  have z:=wr'.P8.2.1 z;have e:GD l=14:=by unfold GD;rw[wc (by rw[c];decide),wd z]
  show(([]:List UInt8),([]:List UInt8),(14:Int))=(Jj l,Jk l,GD l);unfold Jj Jk;rw[e,wc (by decide),wc (by decide)]
 ·have z:P7 w≠0:=by
   have z:(P7 w==0)=false:=z;simpa using z
  exact zW l c hw FX FY w X Y hX hY xm ym wr' fun x=>z (wr'.P8.2.2 x)
theorem yI(l:List BH)(c:B4 l=0)(hw:Jm l=true):Ends Dy (L1 l (((l.length:Int),[]),((1:Int),[]))) (Ad fI l):=by
 obtain⟨n10,_⟩:=CB hw;have hpos:0<l.length:=yy.2 (DW c).1;have pr:=Q9 c hw;have ln:Qe 10 10 (AS l):=LU c n10 (CB hw).2;have hlq:=Gb l;have lfx:((AS l).map yv).length=l.length:=by rw[yi,hlq]
 have lfy:((AS l).map yw).length=l.length:=by rw[yi,hlq]
 have rn:RS 2 (((l.length:Int),[]),((1:Int),[])) ((l.length:Int):Rat):=eR (k:=2) (by omega) (by decide) (by decide);have n0:((l.length:Int):Rat)≠0:=fun x=>by have:=Rat.intCast_eq_zero_iff.1 x;omega
 have mem1:∀q∈(AS l).map yv,Dh 10 q:=fun q hq=>by obtain⟨p,hp,rfl⟩:=qt.1 hq;exact(ln.sz p hp).1
 have mem2:∀q∈(AS l).map yw,Dh 10 q:=fun q hq=>by obtain⟨p,hp,rfl⟩:=qt.1 hq;exact(ln.sz p hp).2
 have mx:=GM (n:=10) (by rw[lfx];exact hpos) (by rw[lfx];exact n10) mem1 Jr;have my:=GM (n:=10) (by rw[lfy];exact hpos) (by rw[lfy];exact n10) mem2 Jr;generalize (((l.length:Int),[]),((1:Int),[]))=NF at*;refine zm (Ar ..) (zc rfl ?_);refine xK l n10 l NF 0 0 (fun p hp=>⟨(pr p hp).bx,(pr p hp).x⟩) l 0 1 ((0,Ck 0),(1,Ck 1)) 0 rfl (z8 _) K0 (by omega) fun f hf=>?_
 rw[yz,mV]at hf;have d1:=hf.div rn (by omega) (by decide) n0;have ex:C5 ((AS l).map yv)/((l.length:Int):Rat)=BM ((AS l).map yv):=by unfold BM;rw[lfx]
 rw[ex]at d1;have xm:RS 112 (HP f NF) (BM ((AS l).map yv)):=⟨d1.r,mx⟩;refine zm (AV ..) (zz (w8 (by omega)) (zc (hf.ok3 rn (by omega) (by decide) n0) (zc rfl ?_)));refine yK l n10 l NF l (l.length:Int) (l.length:Int) f 0 0 0 0 (HP f NF) f f (fun p hp=>⟨(pr p hp).by',(pr p hp).y⟩) l 0 1 ((0,Ck 0),(1,Ck 1)) 0 rfl (z8 _) K0 (by omega) fun g hg=>?_
 rw[yz,kZ]at hg;have d2:=hg.div rn (by omega) (by decide) n0;have ey:C5 ((AS l).map yw)/((l.length:Int):Rat)=BM ((AS l).map yw):=by unfold BM;rw[lfy]
 rw[ey]at d2;have ym:RS 112 (HP g NF) (BM ((AS l).map yw)):=⟨d2.r,my⟩;refine zm (CF ..) (zz (w8 (by omega)) (zc (hg.ok3 rn (by omega) (by decide) n0) ?_));exact Aae l c hw (HP f NF) (HP g NF) _ _ rfl rfl xm ym
theorem ok:Ag Bf 11 fI:=by
 refine BY UO (fun(l:List BH) hi=>?_);obtain⟨h1,h2,h3⟩:=XA hi;have pl:(decide (l.length<=1000000)&&JQ 1000000 l)=true:=by
  have hi:PQ l=true:=hi;unfold PQ at hi;rw[zd]at hi;exact hi.1
 refine zq (Ak l) (zc pl (zk (fun c=>zf (zx rfl rfl ?_)) (fun c=>zc rfl ?_)))
 ·have c:B4 l≠0:=by simpa using c
  have e:GD l=B4 l:=by unfold GD;rw[wd c]
  show(([]:List UInt8),([]:List UInt8),B4 l)=(Jj l,Jk l,GD l);unfold Jj Jk;rw[e,wc c,wc c]
 ·have c:B4 l=0:=by simpa using c
  exact yI l c (h3 c)
end T11
theorem Xx{a b:Rat}{q:List (Rat×Rat)}(h:Sp.MZ a b q=true){i:Nat}(hi:i<=q.length):Dh 3000 (P1 a b (q.take i)):=by
 unfold Sp.MZ at h;rw[ya]at h;have h:=h i (List.mem_range.2 (by omega));unfold E0 at h;rw[zd,w5]at h;have:=(vM h.1 h.2 (by decide)).z;rwa [CW]at this
theorem Si{l:List BH}{a b:List UInt8}(h:Qc l a b=true):(l.length<=1000000/\JQ 1000000 l=true)/\(a.length<=1000000/\b.length<=1000000)/\(SX l a b=0->Jm l=true/\Sp.HN a<=350/\Sp.HN b<=560/\Sp.MZ (Aw a) (Aw b) (AS l)=true):=by
 unfold Qc at h;rw[zd,zd,zd,zd,qn,w5,w5,w5,w5]at h;obtain⟨⟨⟨⟨h1,h2⟩,h3⟩,h4⟩,h5⟩:=h;refine⟨⟨h1,h2⟩,⟨h3,h4⟩,fun k=>?_⟩;have h5:=h5.resolve_left fun x=>x k
 unfold nP at h5;rw[zd,zd,zd,w5,w5]at h5;exact⟨h5.1.1.1,h5.1.1.2,h5.1.2,h5.2⟩
theorem Yo(l:List BH)(a b:List UInt8):yc [B4 l,AG a,AG b]=SX l a b:=by
 unfold SX;rw[TM, <-Qn]
theorem N8{l:List BH}{a b:List UInt8}(h:SX l a b=0):B4 l=0/\AG a=0/\AG b=0:=by
 unfold SX at h;split at h
 ·next k=>exact wh h k
 ·next k=>exact⟨yn.1 k,QS h⟩
theorem PJ{l r:List BH}{p:BH}{i:Nat}(h:l.drop i=p::r):(AS l).take (i+1)=(AS l).take i++[(Aw p.1,Aw p.2)]:=by
 refine G7 (r:=AS r) ?_;unfold AS;rw[<-List.map_drop,h];rfl
namespace T12
variable {Q:PV->Ob->Prop}
theorem loop(l:List BH)(A B:List UInt8)(hl:l.length<=10)(pr:∀p∈l,PtR p)(ra:RS 350 (FI A) (Aw A))(rb:RS 560 (FI B) (Aw B))(hs:Sp.MZ (Aw A) (Aw B) (AS l)=true)(o0 o0_1:Int)
  (hq:∀f ob,RS 3000 f (Sp.sqV l A B)->Q (.tup [.dat .str (JH f),.dat i64 (Hy f)]) ob):∀(r:List BH) (i:Nat) (f:An),l.drop i=r->i<=l.length->RS 3000 f (P1 (Aw A) (Aw B) ((AS l).take i))->Ends Dy (L2 l (FI A) (FI B) (FI A) (FI B) l (l.length:Int) (i:Int) f.1.1 f.1.2 f.2.1 f.2.2 o0 o0_1) Q
 |[],i,f,h,hi,hf=>by
  have e:i=l.length:=drop_nil h hi;subst e;rw[show(AS l).take l.length=AS l by rw[<-Gb l,qh]]at hf;exact zm (AV ..) (zz (w8 (by omega)) (zc (hf.E8 (by decide)) (zf (hq f _ hf))))
 |p::r,i,f,h,hi,hf=>by
  obtain⟨g1,g2,g3⟩:=drop_cons (d:=(([],[]):BH)) h;have k:=pr p (zt (by rw[h];exact zw ..));have e1:zj .i64 ((i:Int)+1)=((i+1:Nat):Int):=by rw[wr _ (by omega) (by omega)];omega
  have m:=ra.mul k.x (by decide) (by decide);have s:=m.add rb (by decide) (by decide);have d:=k.y.sub s (by decide) (by decide);have q:=d.mul d (by decide) (by decide);have ok:xV p (FI A) (FI B)=true:=Aa (Aa (Aa (Aa (Aa (Aa (Aa (Aa k.bx k.by') (k.x.BK (by decide))) (k.y.BK (by decide))) (ra.BK (by decide))) (rb.BK (by decide))) (m.BK (by decide))) (s.BK (by decide))) (d.BK (by decide));have a:=hf.add q (by decide) (by decide);have z:=Xx hs (i:=i+1) (by rw[Gb];omega);have e2:=PJ h;have e3:P1 (Aw A) (Aw B) ((AS l).take (i+1))=P1 (Aw A) (Aw B) ((AS l).take i)+(Aw p.2-(Aw A*Aw p.1+Aw B))*(Aw p.2-(Aw A*Aw p.1+Aw B)):=by rw[e2,XM]
  have fin:RS 3000 (Gs f (sM p (FI A) (FI B))) (P1 (Aw A) (Aw B) ((AS l).take (i+1))):=⟨by rw[e3];exact a.r,z⟩;refine zm (AV ..) ?_;conv=>zeta
  rw[zo,g2,e1];exact zc (w4 (by omega)) (zc (Aa (w4 (by omega)) (w4 (by omega))) (zc ok (zc (hf.qR q (by decide) (by decide)) (loop l A B hl pr ra rb hs o0 o0_1 hq r (i+1) (Gs f (sM p (FI A) (FI B))) g3 g1 fin))))
theorem ok:Ag Bf 12 cSq:=by
 refine BY UO (fun(i:List BH×List UInt8×List UInt8) hi=>?_);obtain⟨l,a,b⟩:=i;obtain⟨⟨h1,h2⟩,⟨h3,h4⟩,h5⟩:=Si hi;refine zq (Ak l a b) ?_;conv=>zeta
 rw[Yo];refine zc (Aa (w4 h1) h2) (zc (w4 h3) (zc (w4 h4) (zc rfl (zk (fun c=>zf (zx rfl rfl (tP (by simpa using c) _))) (fun c=>?_)))));have c:SX l a b=0:=by simpa using c
 obtain⟨c1,c2,c3⟩:=N8 c;obtain⟨k1,k2,k3,k4⟩:=h5 c;refine zc (Rx c2).2 (zc (Rx c3).2 ?_);show Ends Dy (L1 l (FI a) (FI b)) _;refine zm (Ar ..) (zc rfl ?_);exact loop l a b (CB k1).1 (Q9 c1 k1) ((KX c2).mono k2) ((KX c3).mono k3) k4 0 0 (fun f ob hf=>zx rfl rfl (bV hf c)) l 0 ((0,Ck 0),(1,Ck 1)) rfl (z8 _) (K0.mono (by decide))
end T12
theorem kD{l:List (List UInt8)}(h:T7 l=true):(l.length<=1000000/\∀s∈l,s.length<=1000000)/\(F6 l=0->Sl l<=1900):=by
 unfold T7 at h;rw[zd,zd,qn,w5,w5,w5,ya]at h;exact⟨⟨h.1.1,fun s hs=>w6 (h.1.2 s hs)⟩,fun k=>h.2.resolve_left fun x=>x k⟩
theorem Mu:∀ {l:List (List UInt8)},Cf l=0->∀s∈l,AG s=0
 |[],_,s,hs=>by cases hs
 |x::l,h,s,hs=>by
  rw[Gk]at h;split at h
  ·next k=>exact wh h k
  ·next k=>
   rcases List.mem_cons.1 hs with rfl|hs
   ·exact yn.1 k
   ·exact Mu h s hs
theorem U9{l:List (List UInt8)}(h:F6 l=0):l≠[]/\l.length<=256/\∀s∈l,AG s=0:=by
 unfold F6 at h;split at h
 ·exact wh h (by decide)
 ·next k=>
  split at h
  ·exact wh h (by decide)
  ·exact⟨k,by omega,Mu h⟩
theorem YD{s:List UInt8}(h:AG s=0)(l:List (List UInt8)):Sl (s::l)=Sp.HN s+1+Sl l:=by rw[Sl,wd h]
section
open List Int Prod
namespace T110
def T(n:Int):Tr:=tree qS false 9 110 (Af ([zl IntKind.i64]) n)
theorem Ak(n:Int):T n=.ite (CA n) (.ite (CI (yh n,yb n)) (.leaf (.dat zh (HF (yh n,yb n))) []) .fail) .fail:=by kernel_rfl
end T110
namespace T73
def T(l:List (List UInt8)):Tr:=tree XY false 9 73 (Af ([z6 zh]) l)
def L1(l:List (List UInt8))(v0:List (List UInt8))(v3:List UInt8)(v4:Int):Tr:=re ((T l)) (AE 18 [(0,.dat (z6 zh) v0),(3,.dat zh v3),(4,.dat i64 v4)] [] 0)
theorem Ak(l:List (List UInt8)):T l=L1 l l ([(48:UInt8)]) 0:=by kernel_rfl
theorem Ar(l:List (List UInt8))(v0:List (List UInt8))(v3:List UInt8)(v4:Int):stepT XY (L1 l v0 v3 v4)=let a':=decide (v4<(length v0:Int));let b':=(length l:Int);.ite (a') (.ite (decide (0<=v4)&&a') (.ite (Bt v3&&Bt (getD v0 (toNat v4) [])) (L1 l v0 (EH v3 (getD v0 (toNat v4) [])) (zj .i64 (v4+1))) .fail) .fail) (.ite (VE b') (.ite (Bt v3&&ZZ (pL b')) (.leaf (.dat zh (Kl v3 (pL b'))) []) .fail) .fail):=by kernel_rfl
end T73
namespace T14
def T(l:List (List UInt8×List UInt8)):Tr:=tree JW false 9 14 (Af ([z6 (zi zh zh)]) l)
def L1(v0:List (List UInt8×List UInt8))(v7:Int):Tr:=re ((T [])) (AE 79 [(0,.dat (z6 (zi zh zh)) v0),(5,.nil),(6,.nil),(7,.dat i64 v7)] [] 0)
theorem Ak(l:List (List UInt8×List UInt8)):T l=L1 l 0:=by kernel_rfl
def L2(v0:List (List UInt8×List UInt8))(v5n v6n:Nat)(v7:Int)(o1:List (List UInt8))(o0:List (List UInt8)):Tr:=re ((stepT JW (L1 [] 0)).L.L.L.L.L) (AE 79 [(0,.dat (z6 (zi zh zh)) v0),(5,.sl 0 1 0 v5n none),(6,.sl 1 1 0 v6n none),(7,.dat i64 v7)] [(1,.arr false 23 zh o1),(0,.arr false 23 zh o0)] 2)
def L3(v0:List (List UInt8×List UInt8))(v8 v9 v10 v11:List UInt8)(v12:Int):Tr:=re ((stepT JW (L1 [] 0)).R.L.L) (AE 79 [(0,.dat (z6 (zi zh zh)) v0),(5,.nil),(6,.nil),(8,.dat zh v8),(9,.dat zh v9),(10,.dat zh v10),(11,.dat zh v11),(12,.dat i64 v12)] [] 0)
theorem Ar(v0:List (List UInt8×List UInt8))(v7:Int):stepT JW (L1 v0 v7)=let a':=decide (1<=1)&&decide (0<1)&&decide ((2*1+1000)*16<=281474976710656);let b':=decide (v7<(length v0:Int));let c':=getD v0 (toNat v7) ([],[]);.ite (b') (.ite (decide (0<=v7)&&b') (.ite (decide (0<=v7)&&b') (.ite a' (.ite a' (L2 v0 1 1 (zj .i64 (v7+1)) ([snd c']) ([fst c'])) .fail) .fail) .fail) .fail) (.ite false (.ite false (L3 v0 (fW []) (fW []) ([(48:UInt8)]) ([(48:UInt8)]) 0) .fail) .fail):=by kernel_rfl
def L4(v0:List (List UInt8×List UInt8))(v5n v6n:Nat)(v8 v9 v10 v11:List UInt8)(v12:Int)(o1:List (List UInt8))(o0:List (List UInt8)):Tr:=re ((stepT JW (L2 [] 0 0 0 [] [])).R.L.L) (AE 79 [(0,.dat (z6 (zi zh zh)) v0),(5,.sl 0 1 0 v5n none),(6,.sl 1 1 0 v6n none),(8,.dat zh v8),(9,.dat zh v9),(10,.dat zh v10),(11,.dat zh v11),(12,.dat i64 v12)] [(1,.arr false 23 zh o1),(0,.arr false 23 zh o0)] 2)
theorem AV(v0:List (List UInt8×List UInt8))(v5n v6n:Nat)(v7:Int)(o1:List (List UInt8))(o0:List (List UInt8)):stepT JW (L2 v0 v5n v6n v7 o1 o0)=let a':=decide (v7<(length v0:Int));let b':=getD v0 (toNat v7) ([],[]);.ite (a') (.ite (decide (0<=v7)&&a') (.ite (decide (0<=v7)&&a') (.ite (decide (1<=1)&&true&&decide (v5n=length o0)&&decide ((2*(v5n+1)+1000)*16<=281474976710656)) (.ite (decide (1<=1)&&true&&decide (v6n=length o1)&&decide ((2*(v6n+1)+1000)*16<=281474976710656)) (L2 v0 (ye v5n 1) (ye v6n 1) (zj .i64 (v7+1)) (o1++[snd b']) (o0++[fst b'])) .fail) .fail) .fail) .fail) (.ite (decide (0+v5n<=length o0)&&true&&(T7 (take v5n o0)&&decide (F6 (take v5n o0)=0))) (.ite (decide (0+v6n<=length o1)&&true&&(T7 (take v6n o1)&&decide (F6 (take v6n o1)=0))) (L4 v0 v5n v6n (fW (take v5n o0)) (fW (take v6n o1)) ([(48:UInt8)]) ([(48:UInt8)]) 0 o1 o0) .fail) .fail):=by kernel_rfl
theorem Cy(v0:List (List UInt8×List UInt8))(v5n v6n:Nat)(v8 v9 v10 v11:List UInt8)(v12:Int)(o1:List (List UInt8))(o0:List (List UInt8)):stepT JW (L4 v0 v5n v6n v8 v9 v10 v11 v12 o1 o0)=let c':=[(1,.arr false 23 zh o1),(0,.arr false 23 zh o0)];let d':=Kl v10 v11;let e':=getD o0 (toNat v12) [];let f':=getD o1 (toNat v12) [];let a':=Ie e' v8;let b':=Ie f' v9;.ite (decide (v12<(length v0:Int))) (.ite (decide (0<=v12)&&decide (v12<(↑v5n:Int))) (.ite (decide (toNat v12<length o0)) (.ite (Bt e'&&E0 v8) (.ite (decide (0<=v12)&&decide (v12<(↑v6n:Int))) (.ite (decide (toNat v12<length o1)) (.ite (Bt f'&&E0 v9) (.ite (Bt a'&&Bt b') (.ite (Bt v10&&Bt (Es a' b')) (.ite (Bt a'&&Bt a') (.ite (Bt v11&&Bt (Es a' a')) (L4 v0 v5n v6n v8 v9 (EH v10 (Es a' b')) (EH v11 (Es a' a')) (zj .i64 (v12+1)) o1 o0) .fail) .fail) .fail) .fail) .fail) .fail) .fail) .fail) .fail) .fail) (.ite (v11==[(48:UInt8)]) (.leaf (.tup [.dat zh [],.dat zh [],.bl false]) c') (.ite (Bt v10&&ZZ v11) (.ite (Bt d'&&Bt v8) (.ite (Bt v9&&E0 (Es d' v8)) (.leaf (.tup [.dat zh d',.dat zh (Ie v9 (Es d' v8)),.bl true]) c') .fail) .fail) .fail)):=by kernel_rfl
end T14
namespace T16
def T(l:List (List UInt8×List UInt8))(a b:List UInt8):Tr:=tree JW false 9 16 (Af ([z6 (zi zh zh),zh,zh]) (l,a,b))
def L1(v0:List (List UInt8×List UInt8))(v1 v2 v7:List UInt8)(v8:Int):Tr:=re ((T [] [] [])) (AE 37 [(0,.dat (z6 (zi zh zh)) v0),(1,.dat zh v1),(2,.dat zh v2),(7,.dat zh v7),(8,.dat i64 v8)] [] 0)
theorem Ak(l:List (List UInt8×List UInt8))(a b:List UInt8):T l a b=L1 l a b ([(48:UInt8)]) 0:=by kernel_rfl
theorem Ar(v0:List (List UInt8×List UInt8))(v1 v2 v7:List UInt8)(v8:Int):stepT JW (L1 v0 v1 v2 v7 v8)=let b':=getD v0 (toNat v8) ([],[]);let c':=decide (v8<(length v0:Int));let d':=Es v1 (fst b');let a':=Ie (snd b') (EH d' v2);.ite (c') (.ite (decide (0<=v8)&&c') (.ite (decide (0<=v8)&&c') (.ite (Bt v1&&Bt (fst b')) (.ite (Bt d'&&Bt v2) (.ite (Bt (snd b')&&E0 (EH d' v2)) (.ite (Bt a'&&Bt a') (.ite (Bt v7&&Bt (Es a' a')) (L1 v0 v1 v2 (EH v7 (Es a' a')) (zj .i64 (v8+1))) .fail) .fail) .fail) .fail) .fail) .fail) .fail) (.leaf (.dat zh v7) []):=by kernel_rfl
end T16
end
end Go.Pe
