import Derived.Test.YtknhdhchejmpgaaGreatDoorX11
import Derived.Test.YtknhdhchejmpgaaGreatDoorX13
import Derived.Test.YtknhdhchejmpgaaGreatDoorX07
import Derived.Test.YtknhdhchejmpgaaGreatDoorX10
import Derived.Test.YtknhdhchejmpgaaGreatDoorX09
import Derived.Test.YtknhdhchejmpgaaGreatDoorX12
/- A part of a proof (no law is stated here). Made by program out of texts by AI agents. -/
noncomputable section
open Go.Lib renaming decDigits -> zc, itoa -> zq, decDigits_length -> zr, decDigits_one -> yg, itoa_nonneg -> qw, nDigits -> qz
open Bool renaming and_eq_true -> zd, or_eq_true -> ye, true_and -> yz
open Go.IntKind renaming wrap -> ze, u64 -> zg, i64 -> qo
open Go.Pe.Ends renaming tt -> zf, leaf -> z8, ite -> ql, eq -> qp, ff -> jc
open List renaming length_append -> zh, length_cons -> zl, length_map -> z6, length_eq_zero_iff -> yh, map -> yi, append_assoc -> yt, length_flatten -> yx, all_cons -> yy, mem_singleton -> y7, length -> y9, take_of_length_le -> qd, take_succ_eq_append_getElem -> qe, all_eq_true -> qf, mem_cons_of_mem -> qh, take -> qj, mem_cons_self -> qk, drop_eq_getElem_cons -> qm, flatten_cons -> qn, reverse_singleton -> qu, drop_eq_nil_of_le -> qv, mem_cons -> jd, getD -> jh
open Go.Pe.Sh renaming str -> zi, nlist -> zk, int -> zt, pair -> zw, list -> yc, bool -> ym
open Int renaming natAbs_natCast -> zj, toNat_natCast -> yf, lt_of_lt_of_le -> yo, natCast_pow -> yq, toNat -> yr, natAbs_mul -> yu, eq_ofNat_of_zero_le -> qc, ofNat_lt -> qi
open Nat renaming add -> zo, le_refl -> yb, ble_eq_true_of_le -> yd, eq_zero_or_pos -> yj, lt_of_lt_of_le -> yn, pow_le_pow_right -> yv, pow_succ -> yw, lt_of_le_of_lt -> y8, div_le_self -> qx, mul_one -> q9, mod_lt -> je, ble -> jf
open UInt8 renaming ofNat -> zu, toNat -> ya
open Go.Sp renaming vI -> z7, first -> yp, DB -> jg
open Rat renaming num_divInt_den -> yk, divInt -> qg
open Go.Pe.Obj renaming tbox -> qq
open Go.Pe.Ad renaming of -> qt
open Go.Pe renaming D1 -> qy
namespace Go.Sp
open Go.Lib
theorem NG{P:Nat->List UInt8->Prop}(h1:∀d,d<10->P d [zu (48+d)])(h2:∀a d,0<a->d<10->P a (decDigits a)->P (10*a+d) (decDigits a++[zu (48+d)]))(n:Nat):P n (decDigits n):=by
 induction n using Nat.strongRecOn with
 |_ n ih=>
  by_cases h:n<10
  ·rw[decDigits_one h];exact h1 n h
  ·have e:n=10*(n/10)+n % 10:=by omega
   have:=h2 (n/10) (n % 10) (by omega) (je _ (by decide)) (ih (n/10) (by omega));rw[<-Fy _ _ (by omega) (je _ (by decide)), <-e]at this;exact this
theorem J4:∀d:Fin 10,(zu (48+d.1)).toNat=48+d.1:=by decide
theorem Ke{d:Nat}(h:d<10):BL (zu (48+d))=true/\HA (zu (48+d))=d:=by
 have e:(zu (48+d)).toNat=48+d:=J4 ⟨d,h⟩;unfold BL HA;rw[e];refine⟨?_,by omega⟩;rw[w4 (by omega),w4 (by omega)];rfl
theorem fR{c:UInt8}(h:BL c=true):c=zu (48+(HA c).toNat)/\(HA c).toNat<10:=by
 obtain⟨h1,h2⟩:=CY h;have hl:(HA c).toNat<10:=by omega
 refine⟨UInt8.toNat_inj.1 ?_,hl⟩;rw[J4 ⟨(HA c).toNat,hl⟩];show c.toNat=48+(HA c).toNat;unfold HA at*;omega
theorem VB(n:Nat):decDigits n≠[]:=NG (P:=fun _ l=>l≠[]) (fun _ _=>by simp) (fun _ _ _ _ _=>by simp) n
theorem DL(n:Nat):Aj (decDigits n)=true:=by
 refine NG (P:=fun _ l=>Aj l=true) (fun d h=>?_) (fun a d _ h ih=>?_) n
 ·unfold Aj;rw[yy,(Ke h).1];rfl
 ·unfold Aj at*;rw[List.all_append,ih,yy,(Ke h).1];rfl
theorem HJ(n:Nat):Ay 0 (decDigits n)=n:=by
 refine NG (P:=fun n l=>Ay 0 l=n) (fun d h=>?_) (fun a d _ h ih=>?_) n
 ·show 10*0+HA (zu (48+d))=d;rw[(Ke h).2];omega
 ·rw[CL,ih];show 10*(a:Int)+HA (zu (48+d))=_;rw[(Ke h).2];omega
theorem gV(n:Nat)(h0:0<n):(decDigits n).getD 0 0≠48:=by
 refine NG (P:=fun n l=>0<n->l.getD 0 0≠48) (fun d h h0=>?_) (fun a d ha _ ih _=>?_) n h0
 ·show zu (48+d)≠48;intro e;have:=J4 ⟨d,h⟩;have e2:=wi ya e;rw[show(zu (48+d)).toNat=48+d from this]at e2;have:(48:UInt8).toNat=48:=rfl;omega
 ·have h1:=ih ha;cases hd:decDigits a with
  |nil=>exact wh hd (VB a)
  |cons c r=>rw[hd]at h1;exact h1
theorem TX(n:Nat):AT (decDigits n)=true:=by
 unfold AT;rw[DL,w4 (VB n)];rcases yj n with rfl|h
 ·rw[decDigits_one (by decide)];rfl
 ·rw[w4 (gV n h)];rfl
theorem Fu{s:List UInt8}(h:AT s=true):s≠[]/\Aj s=true/\(s.getD 0 0≠48\/s=[48]):=by
 unfold AT at h;rw[zd,zd,w5,ye,w5,w5]at h;exact⟨h.1.1,h.1.2,h.2⟩
theorem Ih{s:List UInt8}(h:AT s=true)(h0:s≠[48]):0<Ay 0 s:=by
 obtain⟨h1,h2,h3⟩:=Fu h;cases s with
 |nil=>exact wh rfl h1
 |cons c r=>
  have g0:(c::r).getD 0 0=c:=rfl;rw[g0]at h3;have hc:c≠48:=by
   rcases h3 with x|x
   ·exact x
   ·exact wh x h0
  unfold Aj at h2;rw[yy,zd]at h2;have hd:=CY h2.1;have hr:Aj r=true:=h2.2;have hb:=Be hr;show 0<Ay (10*0+HA c) r;rw[Et];have hp:(0:Int)<10^r.length:=Int.pow_pos (by decide);have hn:c.toNat≠48:=fun x=>hc (UInt8.toNat_inj.1 x)
  have hg:0<10*0+HA c:=by show 0<10*0+((c.toNat:Int)-48);have hd2:0<=((c.toNat:Int)-48):=hd.1;omega
  have:=Int.mul_pos hg hp;omega
theorem N9{s:List UInt8}(h:AT s=true):s=decDigits (Ay 0 s).toNat:=by
 generalize hn:s.length=n;induction n generalizing s with
 |zero=>exact wh (yh.1 hn) (Fu h).1
 |succ n ih=>
  obtain⟨h1,h2,h3⟩:=Fu h;obtain⟨t,c,rfl⟩:∃t c,s=t++[c]:=⟨_,_,(List.dropLast_concat_getLast h1).symm⟩;unfold Aj at h2;rw[List.all_append,zd,yy,zd]at h2;obtain⟨h4,h5,_⟩:=h2;obtain⟨b1,b2⟩:=fR h5;obtain⟨d1,_⟩:=CY h5;rw[CL];show t++[c]=decDigits (10*Ay 0 t+HA c).toNat;by_cases ht:t=[]
  ·subst ht;show[c]=decDigits (10*0+HA c).toNat;rw[show(10*0+HA c).toNat=(HA c).toNat by omega,decDigits_one b2, <-b1]
  ·have g:(t++[c]).getD 0 0=t.getD 0 0:=by
    cases t with
    |nil=>exact wh rfl ht
    |cons x r=>rfl
   have h6:t.getD 0 0≠48:=by
    rcases h3 with x|x
    ·rw[g]at x;exact x
    ·have h7:=wi y9 x;rw[zh]at h7;have h8:t.length+1=1:=h7;exact wh (yh.1 (by omega)) ht
   have hf:AT t=true:=by
    unfold AT Aj;rw[w4 ht,h4,w4 h6];rfl
   have hp:=Ih hf (fun k=>h6 (by rw[k];rfl));have hi:=ih hf (by rw[zh]at hn;simpa using hn);have e:(10*Ay 0 t+HA c).toNat=10*(Ay 0 t).toNat+(HA c).toNat:=by omega
   rw[e,Fy _ _ (by omega) b2, <-hi, <-b1]
theorem tF:∀ {a:List UInt8},(∀c∈a,c≠47)->Aw a=a/\AM a=[]/\Bj a=false:=by
 intro a h;have hc:Bj a=false:=by
  unfold Bj;rw[List.any_eq_false];intro x hx;simpa using h x hx
 exact⟨((Go.Pe.BE a).2.2 hc).1,((Go.Pe.BE a).2.2 hc).2,hc⟩
theorem qG:∀ {a:List UInt8} (b:List UInt8),(∀c∈a,c≠47)->Aw (a++47::b)=a/\AM (a++47::b)=b/\Bj (a++47::b)=true:=by
 intro a b h;have hc:Bj (a++47::b)=true:=by
  unfold Bj;rw[List.any_eq_true];exact⟨47,by simp,rfl⟩
 have ha:∀ {a:List UInt8},(∀c∈a,c≠47)->Aw (a++47::b)=a:=by
  intro a;induction a with
  |nil=>intro _;show Aw (47::b)=[];rw[qy,wd rfl]
  |cons x r ih=>
   intro h;show Aw (x::(r++47::b))=_;rw[qy,wc (h x (by simp)),ih (fun c hc=>h c (qh _ hc))]
 have e:=ha h;refine⟨e,?_,hc⟩;rw[((Go.Pe.BE _).2.1 hc).2,e];simp
theorem Qv{s:List UInt8}(h:Aj s=true):∀c∈s,c≠47:=by
 intro c hc e;unfold Aj at h;rw[qf]at h;have:=h c hc;rw[e]at this;exact wh this (by decide)
theorem Fj{s:List UInt8}(h:Aj s=true):s.getD 0 0≠45:=by
 cases s with
 |nil=>decide
 |cons c r=>
  unfold Aj at h;rw[yy,zd]at h;show c≠45;intro e;rw[e]at h;exact wh h.1 (by decide)
def Az(q:Rat):List UInt8:=if q.den=1 then itoa q.num else itoa q.num++47::decDigits q.den
def AQ(s:List UInt8):Rat:=qg (A6 s) (AG s)
theorem DQ(n:Int):(∀c∈itoa n,c≠47)/\AZ (itoa n)=decDigits n.natAbs/\preB (itoa n)=decide (n<0)/\Cc (itoa n)=n:=by
 unfold itoa;by_cases h:n<0
 ·rw[wd h];refine⟨fun c hc=>?_,rfl,(w4 h).symm,?_⟩
  ·rcases jd.1 hc with rfl|hc
   ·decide
   ·exact Qv (DL _) c hc
  ·show -Ay 0 (decDigits n.natAbs)=n;rw[HJ];omega
 ·rw[wc h];have hm:=Fj (DL n.toNat);have e:n.toNat=n.natAbs:=by omega
  refine⟨Qv (DL _),?_,?_,?_⟩
  ·unfold AZ;rw[wc hm,e]
  ·unfold preB;rw[w8 hm,w8 h]
  ·unfold Cc;rw[wc hm,HJ];omega
theorem EI(q:Rat):Aw (Az q)=itoa q.num/\AM (Az q)=(if q.den=1 then[]else decDigits q.den)/\Bj (Az q)=decide (q.den≠1):=by
 unfold Az;have h:=(DQ q.num).1;by_cases hd:q.den=1
 ·rw[wd hd,wd hd,w8 (not_not_intro hd)];exact tF h
 ·rw[wc hd,wc hd,w4 hd];exact qG _ h
theorem Hk(q:Rat):A6 (Az q)=q.num/\AG (Az q)=q.den:=by
 obtain⟨h1,h2,h3⟩:=EI q;unfold A6 AG;rw[h1,h2,h3];refine⟨(DQ q.num).2.2.2,?_⟩;by_cases hd:q.den=1
 ·rw[wc (by simpa using hd),hd];rfl
 ·rw[wd (w4 hd),wc hd];unfold Cc;rw[wc (Fj (DL _)),HJ]
theorem BX(q:Rat):AQ (Az q)=q:=by
 unfold AQ;rw[(Hk q).1,(Hk q).2];exact yk q
theorem QA{p q:Rat}(h:Az p=Az q):p=q:=by
 rw[<-BX p,h,BX]
theorem W5(p q:Rat):decide (Az p=Az q)=decide (p=q):=by
 rw[decide_eq_decide];exact⟨QA,fun h=>by rw[h]⟩
theorem R4(a:List UInt8):Aw (AZ a)=AZ (Aw a)/\AM (AZ a)=AM a/\Bj (AZ a)=Bj a/\preB (Aw a)=preB a:=by
 unfold AZ preB;cases a with
 |nil=>exact⟨rfl,rfl,rfl,rfl⟩
 |cons c r=>
  have g0:(c::r).getD 0 0=c:=rfl;rw[g0,qy];by_cases hc:c=45
  ·subst hc;have e:AM (45::r)=AM r:=by
    unfold AM;rw[List.findIdx?_cons];cases r.findIdx? (fun x=>x==47)<;>rfl
   exact⟨rfl,e.symm,rfl,rfl⟩
  ·rw[wc hc];by_cases h7:c=47
   ·subst h7;exact⟨(qy _ _),rfl,rfl,rfl⟩
   ·rw[wc h7];have g1:(c::Aw r).getD 0 0=c:=rfl;rw[g1,wc hc];exact⟨by rw[qy,wc h7],rfl,rfl,rfl⟩
theorem VZ{a:List UInt8}(h:AF a=0):F9 a=true/\(Aw (AZ a)).length<=600/\(AM (AZ a)).length<=600/\(Bj (AZ a)=true->gI (oB a) (nO a)=1):=by
 unfold AF at h;cases hf:F9 a with
 |false=>rw[wd hf]at h;exact wh h (by decide)
 |true=>
  rw[wc (by rw[hf];decide)]at h;split at h
  ·exact wh h (by decide)
  ·next c=>
   split at h
   ·exact wh h (by decide)
   ·next d=>exact⟨rfl,by omega,by omega,fun k=>Classical.byContradiction fun g=>d ⟨k,g⟩⟩
def Dq(k:Nat)(q:Rat):Prop:=q.num.natAbs<10^k/\q.den<10^k
theorem OH{n d:Int}(hd:0<d)(h:Int.gcd n d=1):(qg n d).num=n/\((qg n d).den:Int)=d:=by
 have hs:d.sign=1:=Int.sign_eq_one_of_pos hd;rw[Rat.num_divInt,Rat.den_divInt,wc (Int.ne_of_gt hd),hs,Int.one_mul,Int.gcd_comm,h];refine⟨Int.ediv_one _,?_⟩;rw[Nat.div_one,Int.natAbs_of_nonneg (Int.le_of_lt hd)]
theorem Px{s:List UInt8}(h:Aj s=true){k:Nat}(hl:s.length<=k):(Ay 0 s).toNat<10^k:=by
 have h1:=Be h;have h2:(10:Int)^s.length<=10^k:=AH (by decide) hl;have h3:((10^k:Nat):Int)=(10:Int)^k:=by simp
 omega
theorem PN(k:Nat)(h:k≠0):(1:Int).toNat<10^k:=Nat.one_lt_pow h (by decide)
theorem nJ:decDigits (yr 1)=[49]:=by rw[show yr 1=1 from rfl,decDigits_one (by decide)];rfl
theorem Qz{s:List UInt8}(h:AF s=0):Az (AQ s)=s/\(AQ s).num=A6 s/\((AQ s).den:Int)=AG s/\Dq 600 (AQ s):=by
 obtain⟨hf,l1,l2,hg⟩:=VZ h;obtain⟨p1,p2,p3,p4⟩:=R4 s;unfold F9 at hf;rw[zd,zd]at hf;obtain⟨⟨fa,fm⟩,fb⟩:=hf;unfold oB nO at hg;obtain⟨A,hA⟩:∃A,A=Aw (AZ s):=⟨_,rfl⟩;obtain⟨B,hB⟩:∃B,B=AM (AZ s):=⟨_,rfl⟩;rw[<-hA]at fa fm l1 hg;rw[<-hB]at fb l2 hg;rw[p3]at fb hg;have dA:=(Fu fa).2.1;have ea:=N9 fa;have v0:=Be dA;have hn:A6 s=(if preB s=true then -Ay 0 A else Ay 0 A)/\Aw s=(if preB s=true then 45::A else A):=by
  have e1:A=AZ (Aw s):=by rw[hA,p1]
  unfold A6 Cc;rw[<-p4];unfold preB;rw[e1];unfold AZ;by_cases hc:(Aw s).getD 0 0=45
  ·rw[wd hc,wd (w4 hc),wd hc,wd (w4 hc)];refine⟨rfl,?_⟩;cases hs:Aw s with
   |nil=>rw[hs]at hc;exact wh hc (by decide)
   |cons c r=>
    rw[hs]at hc;have hc:c=45:=hc;rw[hc];rfl
  ·rw[wc hc,wc (by rw[w8 hc];decide),wc hc,wc (by rw[w8 hc];decide)];exact⟨rfl,rfl⟩
 have hna:(A6 s).natAbs=(Ay 0 A).toNat:=by rw[hn.1];split<;>omega
 have hd:0<AG s/\(AG s).toNat<10^600/\Int.gcd (A6 s) (AG s)=1/\(Bj s=true->B=decDigits (AG s).toNat/\AG s≠1)/\(Bj s=false->AG s=1):=by
  unfold AG;rw[<-p2, <-hB];cases hc:Bj s with
  |false=>
   rw[wc (by decide)];exact⟨by decide,PN 600 (by decide),Int.gcd_one,(fun k=>by cases k),fun _=>rfl⟩
  |true=>
   rw[hc]at fb;have fb:(AT B&&decide (B≠[48])&&decide (B≠[49]))=true:=fb;rw[zd,zd,w5,w5]at fb;obtain⟨⟨f1,f2⟩,f3⟩:=fb;have dB:=(Fu f1).2.1;have hp:=Ih f1 f2;have er:Cc B=Ay 0 B:=by unfold Cc;rw[wc (Fj dB)]
   rw[wd rfl,er];refine⟨hp,Px (k:=600) dB l2,?_,fun _=>⟨N9 f1,?_⟩,(fun k=>by cases k)⟩
   ·have g:=hg hc;rw[Fk]at g;have g:Int.gcd (Ay 0 A) (Ay 0 B)=1:=by omega
    rw[hn.1];split
    ·rw[Int.neg_gcd];exact g
    ·exact g
   ·intro e;have:=N9 f1;rw[e]at this;exact f3 (this.trans nJ)
 obtain⟨d0,d1,d2,d3,d4⟩:=hd;obtain⟨r1,r2⟩:=OH (n:=A6 s) d0 d2;have r1:(AQ s).num=A6 s:=r1;have r2:((AQ s).den:Int)=AG s:=r2;have r3:(AQ s).den=(AG s).toNat:=by omega
 refine⟨?_,r1,r2,?_,?_⟩
 ·have ei:itoa (A6 s)=Aw s:=by
   rw[hn.2];unfold itoa;by_cases hb:preB s=true
   ·have hA0:A≠[48]:=by
     have hb2:preB s=true:=hb;rw[hb2]at fm;simpa using fm
    have:=Ih fa hA0;rw[hn.1,wd hb,wd hb,wd (by omega),Int.natAbs_neg];rw[show(Ay 0 A).natAbs=(Ay 0 A).toNat by omega, <-ea]
   ·rw[hn.1,wc hb,wc hb,wc (by omega), <-ea]
  unfold Az;rw[r1,r3,ei];obtain⟨c1,c2,c3⟩:=Go.Pe.BE s;cases hc:Bj s with
  |false=>
   rw[d4 hc,wd (show yr 1=1 from rfl)];exact(c3 hc).1
  |true=>
   obtain⟨k1,k2⟩:=d3 hc;obtain⟨m1,m2⟩:=c2 hc;rw[wc (by omega), <-k1,hB,p2,m2];have hx:s.drop (Aw s).length=47::s.drop ((Aw s).length+1):=by
    have h0:∀t:List UInt8,Bj t=true->t.drop (Aw t).length=47::t.drop ((Aw t).length+1):=by
     intro t;induction t with
     |nil=>intro h;cases h
     |cons c r ih=>
      intro h;rw[qy];by_cases e:c=47
      ·rw[wd e,e];rfl
      ·rw[wc e];have h2:Bj r=true:=by
        unfold Bj at h ⊢;rw[List.any_cons]at h;simpa [e]using h
       exact ih h2
    exact h0 s hc
   rw[<-hx];conv=>lhs;rw[c1]
   have:=List.take_append_drop (Aw s).length s;rw[<-c1]at this ⊢;exact this
 ·rw[r1,hna];exact Px (k:=600) dA l1
 ·rw[r3];exact d1
end Go.Sp
namespace Go.Sp
def AW(n:Int):List UInt8:=zq n
def Oz(s:List UInt8)(n:Int):List UInt8:=Lib.repeatL s n.toNat
end Go.Sp
namespace Go.Pe
open Go.Det
def cN:Ao:=⟨[i64],fun n=>Sp.CD n,[.str],fun n=>Sp.AW n,false⟩
def TG:Ao:=⟨[u64,i64],fun i=>decide (0<=i.1)&&decide (i.1<1000000000000000000)&&decide (i.2=10),[.str],fun i=>Sp.AW i.1,false⟩
def SK:Ao:=⟨[.str,i64],fun i=>decide (0<=i.2)&&decide (i.2<=1000)&&decide (i.1.length<=1000),[.str],fun i=>Sp.Oz i.1 i.2,false⟩
def sX:Ao:=⟨[BJ],fun a=>Sp.A4 a,[.str],fun a=>Sp.AW (z7 a),false⟩
def P7:A0:=X7 [(124,cN),(218,NP),(230,F6),(249,TG),(250,SK)]
open Sp
section
open List Int Prod
namespace T200
def T(a:Int×List Int):Tr:=tree P7 false 9 200 (Af ([zw i64 (zk (zt zg))]) a)
def L1(v3:Bool)(v4:List Int)(v5n:Nat)(o0:List Int):Tr:=re ((T (0,[])).R.L) (AD 69 [(3,.dat ym v3),(4,.dat (yc (zt zg)) v4),(5,.sl 0 1 0 v5n none),(6,.nil)] [(0,.arr false 130 (zt zg) o0)] 1)
theorem Am(a:Int×List Int):T a=.ite (!decide (0<length (snd a))) (.ite (CD (fst a)) (.leaf (.dat zi (AW (fst a))) ([(0,.box [.dat i64 (fst a),.dat (zk (zt zg)) (snd a)])])) .fail) (.ite (Dk (fst a,snd a)) (L1 (decide (z7 (fst a,snd a)<0)) (Bq (Ae (z7 (fst a,snd a)))) 1 ([1000000000000000000])) .fail):=by kernel_rfl
def L2(v3:Bool)(v4:List Int)(v5n v6n:Nat)(o1:List (List UInt8))(o0:List Int):Tr:=re ((stepT P7 (L1 false [] 0 [])).L.L.L.L.L.L.L.L.L) (AD 69 [(3,.dat ym v3),(4,.dat (yc (zt zg)) v4),(5,.sl 0 1 0 v5n none),(6,.sl 1 1 0 v6n none)] [(1,.arr false 9 zi o1),(0,.arr true 130 (zt zg) o0)] 2)
def L3(v11:Int)(o1:List Int)(o0n:Nat):Tr:=re ((stepT P7 (L1 false [] 0 [])).R.L.L.L) (AD 69 [(6,.nil),(10,.ptr 0 0),(11,.dat i64 v11)] [(1,.arr false 5 (zt IntKind.u8) o1),(0,qq 222 [.ptr 0 0,.sl 1 1 0 o0n none])] 2)
def L4(v11:Int):Tr:=re ((stepT P7 (L1 false [] 0 [])).R.L.R) (AD 69 [(6,.nil),(10,.ptr 0 0),(11,.dat i64 v11)] [(0,qq 222 [.ptr 0 0,.nil])] 1)
def L5(v11:Int):Tr:=re ((stepT P7 (L1 false [] 0 [])).R.R) (AD 69 [(6,.nil),(10,.ptr 0 0),(11,.dat i64 v11)] [(0,qq 222 [PV.nilp,.nil])] 1)
theorem Ap(v3:Bool)(v4:List Int)(v5n:Nat)(o0:List Int):stepT P7 (L1 v3 v4 v5n o0)=let a':=Bq (Ak v4 % Ak (take v5n o0));let b':=Bq (Ak v4/Ak (take v5n o0));let d':=decide (1<=1)&&decide (0<1)&&decide ((2*1+1000)*16<=281474976710656);let e':=ze .i64 (0-1);let f':=AW (getD a' 0 0);let c':=18-(↑(length f'):Int);.ite (decide ((length v4:Int)>0)) (.ite (decide (0+v5n<=length o0)&&true&&SB v4 (take v5n o0)) (.ite (decide ((↑(length a'):Int)>0)) (.ite (decide (0<(↑(length a'):Int))) (.ite (decide ((0:Sh.T u64)<=getD a' 0 0)&&decide (getD a' 0 0<(1000000000000000000:Sh.T u64))&&decide (10=10)) (.ite (decide ((↑(length b'):Int)>0)) (.ite (decide (0<=ze .i64 c')&&decide (ze .i64 c'<=1000)&&decide (1<=1000)) (.ite (decide (length (Oz [(48:UInt8)] (ze .i64 c'))+length f'<=4611686018427387904)) (.ite d' (L2 v3 b' v5n 1 ([Oz [(48:UInt8)] (ze .i64 c')++AW (getD a' 0 0)]) o0) .fail) .fail) .fail) (.ite d' (L2 v3 b' v5n 1 ([AW (getD a' 0 0)]) o0) .fail)) .fail) .fail) (.ite (decide ((↑(length b'):Int)>0)) (.ite true (.ite true (.ite true (L2 v3 b' v5n 1 ([Oz [(48:UInt8)] (ze .i64 (18-1))++[(48:UInt8)]]) o0) .fail) .fail) .fail) (.ite true (L2 v3 b' v5n 1 ([[(48:UInt8)]]) o0) .fail))) .fail) (.ite v3 (.ite true (.ite true (L3 e' (yi (fun b=>(↑(ya b):Int)) [(45:UInt8)]) 1) .fail) (L4 e')) (L5 e')):=by kernel_rfl
def L6(v6n:Nat)(v11:Int)(o2:List Int)(o1n:Nat)(o0:List (List UInt8)):Tr:=re ((stepT P7 (L2 false [] 0 0 [] [])).R.L.L.L) (AD 69 [(6,.sl 0 1 0 v6n none),(10,.ptr 1 0),(11,.dat i64 v11)] [(2,.arr false 5 (zt IntKind.u8) o2),(1,qq 222 [.ptr 1 0,.sl 2 1 0 o1n none]),(0,.arr false 9 zi o0)] 3)
def L7(v6n:Nat)(v11:Int)(o0:List (List UInt8)):Tr:=re ((stepT P7 (L2 false [] 0 0 [] [])).R.L.R) (AD 69 [(6,.sl 0 1 0 v6n none),(10,.ptr 1 0),(11,.dat i64 v11)] [(1,qq 222 [.ptr 1 0,.nil]),(0,.arr false 9 zi o0)] 2)
def L8(v6n:Nat)(v11:Int)(o0:List (List UInt8)):Tr:=re ((stepT P7 (L2 false [] 0 0 [] [])).R.R) (AD 69 [(6,.sl 0 1 0 v6n none),(10,.ptr 1 0),(11,.dat i64 v11)] [(1,qq 222 [PV.nilp,.nil]),(0,.arr false 9 zi o0)] 2)
theorem AY(v3:Bool)(v4:List Int)(v5n v6n:Nat)(o1:List (List UInt8))(o0:List Int):stepT P7 (L2 v3 v4 v5n v6n o1 o0)=let a':=Bq (Ak v4 % Ak (take v5n o0));let b':=Bq (Ak v4/Ak (take v5n o0));let d':=decide ((2*(v6n+1)+1000)*16<=281474976710656);let e':=ze .i64 ((↑v6n:Int)-1);let f':=decide (v6n=length o1);let g':=zo v6n 1;let h':=decide (1<=1)&&true&&f'&&d';let i':=AW (getD a' 0 0);let c':=18-(↑(length i'):Int);.ite (decide ((length v4:Int)>0)) (.ite (decide (0+v5n<=length o0)&&true&&SB v4 (take v5n o0)) (.ite (decide ((↑(length a'):Int)>0)) (.ite (decide (0<(↑(length a'):Int))) (.ite (decide ((0:Sh.T u64)<=getD a' 0 0)&&decide (getD a' 0 0<(1000000000000000000:Sh.T u64))&&decide (10=10)) (.ite (decide ((↑(length b'):Int)>0)) (.ite (decide (0<=ze .i64 c')&&decide (ze .i64 c'<=1000)&&decide (1<=1000)) (.ite (decide (length (Oz [(48:UInt8)] (ze .i64 c'))+length i'<=4611686018427387904)) (.ite h' (L2 v3 b' v5n g' (o1++[Oz [(48:UInt8)] (ze .i64 c')++AW (getD a' 0 0)]) o0) .fail) .fail) .fail) (.ite h' (L2 v3 b' v5n g' (o1++[AW (getD a' 0 0)]) o0) .fail)) .fail) .fail) (.ite (decide ((↑(length b'):Int)>0)) (.ite true (.ite true (.ite (f'&&d') (L2 v3 b' v5n g' (o1++[Oz [(48:UInt8)] (ze .i64 (18-1))++[(48:UInt8)]]) o0) .fail) .fail) .fail) (.ite (f'&&d') (L2 v3 b' v5n g' (o1++[[(48:UInt8)]]) o0) .fail))) .fail) (.ite v3 (.ite true (.ite true (L6 v6n e' (yi (fun b=>(↑(ya b):Int)) [(45:UInt8)]) 1 o1) .fail) (L7 v6n e' o1)) (L8 v6n e' o1)):=by kernel_rfl
theorem FQ(v6n:Nat)(v11:Int)(o2:List Int)(o1n:Nat)(o0:List (List UInt8)):stepT P7 (L6 v6n v11 o2 o1n o0)=let a':=getD o0 (toNat v11) [];.ite (decide (v11>=0)) (.ite (decide (0<=v11)&&decide (v11<(↑v6n:Int))) (.ite (decide (toNat v11<length o0)) (.ite (decide (o1n=length o2)&&decide ((2*(o1n+length (yi (fun b=>(↑(ya b):Int)) a'))+1000)*1<=281474976710656)) (L6 v6n (ze .i64 (v11-1)) (o2++yi (fun b=>(↑(ya b):Int)) a') (zo o1n (length (yi (fun b=>(↑(ya b):Int)) a'))) o0) .fail) .fail) .fail) (.ite (decide (0<o1n)) (.ite (decide (0<(↑o1n:Int))&&decide (toNat (↑o1n:Int)<=length o2)&&decide (toNat (↑o1n:Int)<=9223372036854775807)&&List.all o2 fun x=>decide (0<=x)&&decide (x<256)) (.leaf (.dat zi (yi (fun x=>zu (toNat x)) (take (toNat (↑o1n:Int)) o2))) ([(1,qq 222 [.ptr 1 0,.sl 2 1 0 o1n none]),(0,.arr false 9 zi o0)])) .fail) .fail):=by kernel_rfl
theorem HO(v6n:Nat)(v11:Int)(o0:List (List UInt8)):stepT P7 (L8 v6n v11 o0)=let a':=getD o0 (toNat v11) [];let b':=ze .i64 (v11-1);.ite (decide (v11>=0)) (.ite (decide (0<=v11)&&decide (v11<(↑v6n:Int))) (.ite (decide (toNat v11<length o0)) (.ite (decide (0<length (yi (fun b=>(↑(ya b):Int)) a'))) (.ite (decide ((2*length (yi (fun b=>(↑(ya b):Int)) a')+1000)*1<=281474976710656)) (L6 v6n b' (yi (fun b=>(↑(ya b):Int)) a') (length (yi (fun b=>(↑(ya b):Int)) a')) o0) .fail) (L7 v6n b' o0)) .fail) .fail) .fail:=by kernel_rfl
end T200
end
theorem Mn{f:FuncId}{sp:Ao}{q:List V->H->Option (V×H)}(hp:Bh.prim f=none)(hfn:∃i,Bh.fn f=some i)(hq:Bh.spec f=some q)
  (hrun:∀(F:Fz) (h:H) (args:List V) (i:(Bz sp.ins).T),Gh h->LU F (Af sp.ins i) args->sp.pre i=true->∃v,q args h=some (v,h)/\PC F (one (Af sp.outs (sp.f i))) v):Ag Bh f sp:=by
 refine .zZ ⟨hp,hfn,fun F h args i hfz hlt hgh hargs hpre=>?_⟩;obtain⟨v,h1,h2⟩:=hrun F h args i hgh hargs hpre;refine⟨[(v,h)],1,fun m hm=>?_,fun _=>⟨_,rfl⟩,fun x hx=>?_⟩
 ·obtain⟨m',rfl⟩:∃m',m=m'+1:=⟨m-1,by omega⟩;rw[Bf];simp only[hq,h1]
 ·cases y7.1 hx;exact⟨yb _,fun _ _=>rfl,hlt,F,fun _ _ h=>h,fun _ _ h=>.inl h,hfz,h2⟩
theorem xL:∃cs t fz,(3,O.cells cs t fz)∈F4/\vV cs Lib.pow10Tab=true:=⟨_,_,_,qk ..,by kernel_rfl⟩
theorem Xg{h:H}(hg:Gh h):Ru h=true:=by
 obtain⟨cs,t,fz,h1,h2⟩:=xL;have h3:=hg _ h1;unfold Ru;rw[h3];exact h2
theorem mK:Ag Bh 124 cN:=by
 refine Mn (q:=Xc) (by kernel_rfl) (Bl (by kernel_rfl)) rfl fun F h args (n:Int) hg ha hp=>?_
 have hp:Sp.CD n=true:=hp;have ha:args=[.int .i64 n]:=by
  have:=ha (fun _=>none) 0;simp only[Af,cN,Ba]at this;obtain⟨v,vs,rfl,h1,rfl⟩:=this;obtain rfl:=CG h1;rfl
 subst ha;refine⟨.str (zq n),?_,fun ρ N=>JV _⟩;have:=Ed hp;have c1:decide (-9223372036854775808<=n)=true:=w4 (by omega);have c2:decide (n<=9223372036854775807)=true:=w4 (by omega);simp only[Xc,Xg hg,c1,c2,Bool.and_self,we]
theorem ZQ:Ag Bh 250 SK:=by
 refine Mn (q:=SJ) (by kernel_rfl) (Bl (by kernel_rfl)) rfl fun F h args (i:List UInt8×Int) hg ha hp=>?_
 obtain⟨s,n⟩:=i;have hp:(decide (0<=n)&&decide (n<=1000)&&decide (s.length<=1000))=true:=hp;rw[zd,zd,w5,w5,w5]at hp;obtain⟨⟨h0,h1⟩,h2⟩:=hp;obtain⟨c,rfl⟩:=qc h0;have ha:args=[.str s,.int .i64 (c:Int)]:=by
  have:=ha (fun _=>none) 0;simp only[Af,SK,Ba]at this;obtain⟨v,vs,rfl,h3,w,ws,rfl,h4,rfl⟩:=this;obtain rfl:=EZ h3;obtain rfl:=CG h4;rfl
 subst ha;refine⟨.str (Sp.Oz s (c:Int)),?_,fun ρ N=>JV _⟩;have c1:jf c 9223372036854775807=true:=yd (by omega);have c2:jf (Dj s*c) 140737488355328=true:=yd (by
  rw[Cj];have:s.length*c<=1000*1000:=Nat.mul_le_mul h2 (by omega);omega)
 show(bif jf c 9223372036854775807&&jf (Dj s*c) 140737488355328 then some (V.str (Lib.repeatL s c),h)else none)=_;rw[c1,c2];rfl
theorem cO:Ag Bh 249 TG:=by
 refine Mn (q:=fmtQ) (by kernel_rfl) (Bl (by kernel_rfl)) rfl fun F h args (i:Int×Int) hg ha hp=>?_
 obtain⟨u,b⟩:=i;have hp:(decide (0<=u)&&decide (u<1000000000000000000)&&decide (b=10))=true:=hp;rw[zd,zd,w5,w5,w5]at hp;obtain⟨⟨h0,h1⟩,rfl⟩:=hp;obtain⟨c,rfl⟩:=qc h0;have ha:args=[.int .u64 (c:Int),.int .i64 10]:=by
  have:=ha (fun _=>none) 0;simp only[Af,TG,Ba]at this;obtain⟨v,vs,rfl,h3,w,ws,rfl,h4,rfl⟩:=this;obtain rfl:=CG h3;obtain rfl:=CG h4;rfl
 subst ha;refine⟨.str (Sp.AW (c:Int)),?_,fun ρ N=>JV _⟩;have c1:jf c 18446744073709551615=true:=yd (by omega);have e:Sp.AW (c:Int)=zc c:=qw _;rw[e];show(bif Ru h&&(jf c 18446744073709551615&&Nat.beq 10 10)then some (V.str (zc c),h)else none)=_;rw[Xg hg,c1];rfl
namespace T200
abbrev kP(s:List UInt8):List Int:=yi (fun b=>(↑(ya b):Int)) s
theorem U2:∀s:List UInt8,yi (fun x:Int=>zu (yr x)) (kP s)=s
 |[]=>rfl
 |b::s=>by
  have:=U2 s;simp only[kP,List.map_cons]at this ⊢;rw[this];simp
theorem XD:∀s:List UInt8,(List.all (kP s) fun x=>decide ((0:Int)<=x)&&decide (x<(256:Int)))=true
 |[]=>rfl
 |b::s=>by
  have h1:=XD s;have h2:=b.toNat_lt;simp only[kP,List.map_cons,yy]at h1 ⊢;rw[h1,Bool.and_true,zd,w5,w5];omega
theorem qK(a b:List UInt8):kP a++kP b=kP (a++b):=by simp[kP]
variable {Q:PV->Ob->Prop}
theorem EC(o0:List (List UInt8))(T:List UInt8)(hT:T.length<=1000000)(hl:o0.length<=1000000)(hq:∀ob,Q (.dat .str T) ob):∀(i:Nat) (acc:List UInt8) (v11:Int) (n:Nat),i<=o0.length->v11=(i:Int)-1->n=acc.length->0<acc.length->acc++(o0.take i).reverse.flatten=T->
  Ends P7 (L6 o0.length v11 (kP acc) n o0) Q
 |0,acc,v11,n,_,hv,hn,h0,he=>by
  have he:acc=T:=by simpa using he
  subst he hn;refine Ends.An (FQ ..) (jc (w8 (by omega)) (zf (w4 h0) (zf (Ac (Ac (Ac (w4 (by omega)) (w4 (by simp))) (w4 (by simp;omega))) (XD acc)) (z8 ?_))));have e:yi (fun x:Int=>zu (yr x)) (qj (yr (acc.length:Int)) (kP acc))=acc:=by
   rw[yf,qd (by simp),U2]
  rw[e];exact hq _
 |i+1,acc,v11,n,hi,hv,hn,h0,he=>by
  have hg:jh o0 (yr v11) []=o0[i]:=by
   rw[show yr v11=i from by omega];simp[show i<o0.length from hi]
  have hs:acc++o0[i]++(o0.take i).reverse.flatten=T:=by
   have ht:o0.take (i+1)=o0.take i++[o0[i]]:=qe hi;rw[<-he,ht,List.reverse_append,qu,List.singleton_append,qn,yt]
  have hlen:=wi y9 hs;simp only[zh]at hlen;refine Ends.An (FQ ..) (zf (w4 (by omega)) (zf (Ac (w4 (by omega)) (w4 (by omega))) (zf (w4 (by omega)) ?_)));rw[hg];refine zf (Ac (w4 (by simp[hn])) (w4 (by rw[z6];omega))) ?_;rw[qK,wr (v11-1) (by omega) (by omega)];exact EC o0 T hT hl hq i (acc++o0[i]) (v11-1) _ (by omega) (by omega) (by rw[zh,z6,hn];rfl) (by rw[zh];omega) hs
theorem Ff(o0:List (List UInt8))(T:List UInt8)(hT:T.length<=1000000)(hl:o0.length<=1000000)(hq:∀ob,Q (.dat .str T) ob)(i:Nat)(hi:i+1=o0.length)(v11:Int)(hv:v11=(i:Int))(hpos:0<(o0[i]'(by omega)).length)(he:o0.reverse.flatten=T):
  Ends P7 (L8 o0.length v11 o0) Q:=by
 have hi':i<o0.length:=by omega
 have hg:jh o0 (yr v11) []=o0[i]:=by
  rw[show yr v11=i from by omega];simp[hi']
 have hs:o0[i]++(o0.take i).reverse.flatten=T:=by
  have ht:o0.take (i+1)=o0.take i++[o0[i]]:=qe hi';rw[hi,List.take_length]at ht;rw[<-he];conv=>rhs;rw[ht]
  rw[List.reverse_append,qu,List.singleton_append,qn]
 have hlen:=wi y9 hs;simp only[zh]at hlen;refine Ends.An (HO ..) (zf (w4 (by omega)) (zf (Ac (w4 (by omega)) (w4 (by omega))) (zf (w4 (by omega)) ?_)));rw[hg];refine zf (w4 (by rw[z6];exact hpos)) (zf (w4 (by rw[z6];omega)) ?_);rw[wr (v11-1) (by omega) (by omega)];exact EC o0 T hT hl hq i o0[i] (v11-1) _ (by omega) (by omega) (by rw[z6]) hpos hs
end T200
theorem UO{r:Int}(h0:0<r)(h1:r<18446744073709551616):Bq r=[r]:=by
 have hd:Au Ai [r]:=by
  intro x hx;rw[y7]at hx;subst hx;exact⟨by omega,h1⟩
 have hn:Sp.nz [r]:=by
  unfold Sp.nz;simp;omega
 have:=Ie (b:=Ai) (by decide) hd hn;have hv:Sp.val Ai [r]=r:=by simp[Sp.val]
 rw[hv]at this;exact this.symm
theorem Ka:Bq 0=[]:=by
 unfold Bq;rfl
theorem O2:Ak [1000000000000000000]=1000000000000000000:=by simp[Ak,Sp.val]
theorem ZC(n:Nat):Oz [48] (n:Int)=List.replicate n 48:=by
 unfold Oz;rw[yf];induction n with
 |zero=>rfl
 |succ n ih=>rw[Lib.repeatL,ih];rfl
theorem R0(V:Nat):Ak (Bq (V:Int))=(V:Int):=CS (b:=Ai) (by decide) (by omega)
theorem cB{V:Nat}(hV:(V:Int)<(Ai:Int)^9000):SB (Bq (V:Int)) [1000000000000000000]=true:=by
 obtain⟨n1,n2,n3⟩:=CZ (n:=(V:Int)) (by omega) hV (by omega);have h1:=JO (n:=(V:Int)) (by omega) hV;unfold SB;refine Ac (Ac (Ac (Ac n1 ?_) (w4 h1)) (w4 (by decide))) (w4 (by rw[O2];decide));decide
theorem Tm(V:Nat):Bq (Ak (Bq (V:Int))/Ak (qj 1 [1000000000000000000]))=Bq ((V/10^18:Nat):Int):=by
 rw[R0,show qj 1 [(1000000000000000000:Int)]=[1000000000000000000]from rfl,O2];congr 1
theorem UF(V:Nat):Bq (Ak (Bq (V:Int)) % Ak (qj 1 [1000000000000000000]))=Bq ((V % 10^18:Nat):Int):=by
 rw[R0,show qj 1 [(1000000000000000000:Int)]=[1000000000000000000]from rfl,O2];congr 1
theorem I9{V:Nat}(h:0<V):0<(Bq (V:Int)).length:=by
 rcases yj (Bq (V:Int)).length with e|e
 ·have h1:=R0 V;rw[yh.1 e]at h1;have h2:Ak []=0:=rfl;rw[h2]at h1;omega
 ·exact e
theorem M6:∀(k u:Nat),u<10^(k+1)->qz u<=k+1
 |0,u,h=>by rw[Lib.nDigits_small (by omega)];omega
 |k+1,u,h=>by
  by_cases c:u<10
  ·rw[Lib.nDigits_small c];omega
  ·rw[Lib.nDigits_big c];have:u/10<10^(k+1):=by rw[yw]at h;omega
   have:=M6 k (u/10) this;omega
theorem Ry{r:Nat}(h:r<10^18):(zc r).length<=18:=by
 rw[zr];exact M6 17 r h
theorem Mm(r:Nat):AW (r:Int)=zc r:=qw r
theorem RJ(r:Nat)(h:r<10^18):Oz [48] ((18:Int)-((zc r).length:Int))++zc r=FY 18 r:=by
 have:=Ry h;rw[show(18:Int)-((zc r).length:Int)=((18-(zc r).length:Nat):Int)from by omega,ZC,zr];rfl
structure Small(V:Nat):Prop where
 h:(V:Int)<(Ai:Int)^9000
theorem Small.le{a b:Nat}(h:Small b)(hab:a<=b):Small a:=⟨Int.lt_of_le_of_lt (Int.ofNat_le.mpr hab) h.h⟩
theorem Small.div{V:Nat}(h:Small V):SB (Bq (V:Int)) [1000000000000000000]=true:=cB h.h
namespace T200
variable {Q:PV->Ob->Prop}
def Exit(neg:Bool)(G:List (List UInt8))(Q:PV->Ob->Prop):Prop:=Ends P7 (.ite neg (.ite true (.ite true (L6 G.length (ze qo ((G.length:Int)-1)) (yi (fun b=>(↑(ya b):Int)) [(45:UInt8)]) 1 G) .fail) (L7 G.length (ze qo ((G.length:Int)-1)) G)) (L8 G.length (ze qo ((G.length:Int)-1)) G)) Q
theorem A2(neg:Bool)(G:List (List UInt8))(hG:G.length<=1000000)(hfin:Exit neg G Q):∀(f V:Nat) (o1:List (List UInt8)),V<f->Small V->o1++(if V=0 then[]else Cf f V)=G->Ends P7 (L2 neg (Bq (V:Int)) 1 o1.length o1 [1000000000000000000]) Q
 |0,V,o1,h,_,_=>by omega
 |f+1,V,o1,h,hV,he=>by
  rcases yj V with h0|h0
  ·subst h0;have he:o1=G:=by simpa using he
   subst he;refine Ends.An (AY ..) (jc (by rw[show((0:Nat):Int)=0 from rfl,Ka];rfl) ?_);exact hfin
  have hlt:V % 10^18<10^18:=je _ (by decide);rw[wc (by omega)]at he;have hg:∀s,s=(if V/10^18=0 then zc (V % 10^18)else FY 18 (V % 10^18))->(o1++[s])++(if V/10^18=0 then[]else Cf f (V/10^18))=G:=by
   rintro s rfl;rw[<-he,yt];congr 1;have eg:Cf (f+1) V=if V<10^18 then[zc V]else FY 18 (V % 10^18)::Cf f (V/10^18):=rfl
   rw[eg];by_cases c:V<10^18
   ·rw[wd c,wd (by omega),wd (by omega),Nat.mod_eq_of_lt c];rfl
   ·rw[wc c,wc (by omega),wc (by omega)];rfl
  have hsz:o1.length+1<=1000000:=by
   have:=wi y9 (hg _ rfl);simp only[zh,List.length_singleton]at this;omega
  have next:∀s,s=(if V/10^18=0 then zc (V % 10^18)else FY 18 (V % 10^18))->Ends P7 (L2 neg (Bq ((V/10^18:Nat):Int)) 1 (zo o1.length 1) (o1++[s]) [1000000000000000000]) Q:=by
   intro s hs;have:=A2 neg G hG hfin f (V/10^18) (o1++[s]) (by omega) (hV.le (qx _ _)) (hg s hs);rw[zh]at this;exact this
  refine Ends.An (AY ..) (zf (w4 (by have:=I9 h0;omega)) (zf (Ac rfl hV.div) ?_));rw[Tm,UF];rcases yj (V % 10^18)with r0|r0
  ·have q0:V/10^18≠0:=by omega
   rw[r0,show((0:Nat):Int)=0 from rfl,Ka];refine jc rfl (zf (w4 (by have:=I9 (V:=V/10^18) (by omega);omega)) (zf rfl (zf rfl (zf (Ac (w4 rfl) (w4 (by omega))) (next _ ?_)))));have hp:=RJ 0 (by decide);rw[yg (by omega)]at hp;rw[wc q0,r0, <-hp];rfl
  ·rw[UO (r:=((V % 10^18:Nat):Int)) (by omega) (by omega)];have hgd:jh [((V % 10^18:Nat):Int)] 0 0=((V % 10^18:Nat):Int):=rfl;rw[hgd,Mm];have hd:=Ry hlt;have hr18:((V % 10^18:Nat):Int)<1000000000000000000:=by omega
   have h18:0<(zc (V % 10^18)).length:=by
    rw[zr,qz];split<;>omega
   refine zf rfl (zf rfl (zf (Ac (Ac (w4 (Int.natCast_nonneg _)) (w4 hr18)) rfl) ?_));rw[wr _ (by omega) (by omega)];by_cases q0:V/10^18=0
   ·rw[q0];refine jc (by rw[show((0:Nat):Int)=0 from rfl,Ka];rfl) (zf (Ac (Ac rfl (w4 rfl)) (w4 (by omega))) ?_);have:=next _ rfl;rw[wd q0,q0]at this;exact this
   ·have hpad:=RJ _ hlt;refine zf (w4 (by have:=I9 (V:=V/10^18) (by omega);omega)) (zf (Ac (Ac (w4 (by omega)) (w4 (by omega))) rfl) (zf (w4 ?_) (zf (Ac (Ac rfl (w4 rfl)) (w4 (by omega))) (next _ ?_))))
    ·rw[<-zh,hpad];unfold FY;rw[zh,List.length_replicate];omega
    ·rw[wc q0];exact hpad
end T200
end Go.Pe
namespace Go.Sp
theorem GU{n d:Int}(hd:d≠0):(qg n d).num.natAbs<=n.natAbs/\(qg n d).den<=d.natAbs:=by
 rw[Rat.num_divInt,Rat.den_divInt,wc hd];refine⟨?_,qx _ _⟩;refine Nat.le_trans (Int.natAbs_ediv_le_natAbs _ _) ?_;rw[yu,Int.natAbs_sign_of_ne_zero hd,Nat.one_mul];exact yb _
theorem JU{n d:Int}{k:Nat}(hd:d≠0)(h1:n.natAbs<10^k)(h2:d.natAbs<10^k):Dq k (qg n d):=
 ⟨y8 (GU hd).1 h1,y8 (GU hd).2 h2⟩
theorem Dq.mono{j k:Nat}{q:Rat}(h:Dq j q)(hk:j<=k):Dq k q:=
 ⟨yn h.1 (yv (by decide) hk),yn h.2 (yv (by decide) hk)⟩
theorem DE{a b i j:Nat}(h1:a<10^i)(h2:b<10^j):a*b<10^(i+j):=by
 rw[Nat.pow_add];exact y8 (Nat.mul_le_mul_left _ (Nat.le_of_lt h2)) ((Nat.mul_lt_mul_right (Nat.pow_pos (by decide))).2 h1)
theorem JM(q:Rat):(q.den:Int)≠0:=by have:=q.den_pos;omega
theorem Dq.mul{p q:Rat}{i j:Nat}(hp:Dq i p)(hq:Dq j q):Dq (i+j) (p*q):=by
 have h:=Rat.divInt_mul_divInt p.num q.num (d₁:=p.den) (d₂:=q.den);rw[yk,yk]at h;rw[h];refine JU ?_ ?_ ?_
 ·exact Int.mul_ne_zero (JM p) (JM q)
 ·rw[yu];exact DE hp.1 hq.1
 ·rw[yu,zj,zj];exact DE hp.2 hq.2
theorem Dq.add{p q:Rat}{i j:Nat}(hp:Dq i p)(hq:Dq j q):Dq (i+j+1) (p+q):=by
 have h:=Rat.divInt_add_divInt p.num q.num (JM p) (JM q);rw[yk,yk]at h;rw[h];have a1:=DE hp.1 hq.2;have a2:=DE hq.1 hp.2;have a3:=DE hp.2 hq.2;rw[Nat.add_comm]at a2;refine JU (Int.mul_ne_zero (JM p) (JM q)) ?_ ?_
 ·refine y8 (Int.natAbs_add_le _ _) ?_;rw[yu,yu,zj,zj,yw];omega
 ·rw[yu,zj,zj,yw];omega
theorem Dq.neg{q:Rat}{k:Nat}(h:Dq k q):Dq k (-q):=by
 unfold Dq at*;rw[Rat.neg_num,Rat.neg_den,Int.natAbs_neg];exact h
theorem Dq.sub{p q:Rat}{i j:Nat}(hp:Dq i p)(hq:Dq j q):Dq (i+j+1) (p-q):=by
 rw[Rat.sub_eq_add_neg];exact hp.add hq.neg
def NV(n:Int):Bool:=decide (600<(zc n.natAbs).length)
def Me(q:Rat):Bool:=NV q.num||NV q.den
theorem CW{u k:Nat}(h:u<10^k)(hk:1<=k):(zc u).length<=k:=by
 rw[zr];obtain⟨j,rfl⟩:∃j,k=j+1:=⟨k-1,by omega⟩;exact Go.Pe.M6 j u h
theorem CT(u:Nat){k:Nat}(h:(zc u).length<=k):u<10^k:=by
 rw[zr]at h;exact yn (Lib.lt_pow_nDigits u) (yv (by decide) h)
theorem We{q:Rat}:Me q=false↔Dq 600 q:=by
 unfold Me NV Dq;rw[Bool.or_eq_false_iff,w9,w9];refine⟨fun h=>⟨CT (k:=600) _ (by omega),?_⟩,fun h=>⟨?_,?_⟩⟩
 ·have:=CT (q.den:Int).natAbs (k:=600) (by omega);rw[zj]at this;exact this
 ·have:=CW h.1 (by decide);omega
 ·have:=CW h.2 (by decide);rw[zj];omega
theorem Ku{q:Rat}{k:Nat}(h:Dq k q)(hk:1<=k):(Az q).length<=2*k+2:=by
 have h1:=CW h.1 hk;have h2:=CW h.2 hk;have h3:(zq q.num).length<=k+1:=by
  unfold zq;split
  ·rw[zl];omega
  ·rw[show q.num.toNat=q.num.natAbs by omega];omega
 unfold Az;split
 ·omega
 ·rw[zh,zl];omega
def BT(s:List UInt8):Bool:=decide (Az (AQ s)=s)&&decide (s.length<=4000)
theorem Gq{s:List UInt8}(h:BT s=true):Az (AQ s)=s/\s.length<=4000:=by
 unfold BT at h;rwa [zd,w5,w5]at h
theorem Qm{q:Rat}{k:Nat}(h:Dq k q)(hk:k<=1999):BT (Az q)=true:=by
 have hl:=Ku (h.mono hk) (by decide);unfold BT;rw[BX,w4 rfl,w4 (by omega)];rfl
theorem Hr{s:List UInt8}(h:AF s=0):BT s=true/\Dq 600 (AQ s):=by
 obtain⟨h1,_,_,h4⟩:=Qz h;exact⟨by rw[<-h1];exact Qm h4 (by decide),h4⟩
theorem Nk{s:List UInt8}(h:BT s=true):Dq 4000 (AQ s):=by
 obtain⟨h1,h2⟩:=Gq h;have e:(Az (AQ s)).length<=4000:=by rw[h1];exact h2
 generalize AQ s=q at*;have a:=CT q.num.natAbs (yb _);have b:=CT q.den (yb _);have h3:(zc q.num.natAbs).length<=(zq q.num).length:=by
  unfold zq;split
  ·rw[zl];omega
  ·rw[show q.num.toNat=q.num.natAbs by omega];exact yb _
 unfold Az at e;split at e
 ·next c=>exact⟨CT (k:=4000) _ (by omega),by rw[c];exact PN 4000 (by decide)⟩
 ·rw[zh,zl]at e;exact⟨CT (k:=4000) _ (by omega),CT (k:=4000) _ (by omega)⟩
theorem P3{q:Rat}:AF (Az q)=if Me q=true then 4 else 0:=by
 obtain⟨c1,c2,c3⟩:=EI q;obtain⟨p1,p2,p3,p4⟩:=R4 (Az q);obtain⟨i1,i2,i3,i4⟩:=DQ q.num;have hA:Aw (AZ (Az q))=zc q.num.natAbs:=by rw[p1,c1,i2]
 have hB:AM (AZ (Az q))=if q.den=1 then[]else zc q.den:=by rw[p2,c2]
 have hC:Bj (AZ (Az q))=decide (q.den≠1):=by rw[p3,c3]
 have hP:preB (Az q)=decide (q.num<0):=by rw[<-p4,c1,i3]
 have h48:∀n:Nat,zc n=[48]->n=0:=fun n h=>by
  have:=HJ n;rw[h]at this;have:(0:Int)=n:=this;omega
 have h49:∀n:Nat,zc n=[49]->n=1:=fun n h=>by
  have:=HJ n;rw[h]at this;have:(1:Int)=n:=this;omega
 have hd:=q.den_pos;have hf:F9 (Az q)=true:=by
  unfold F9;rw[hA,hB,hC,hP,TX,yz,zd];refine⟨?_,?_⟩
  ·by_cases h:q.num<0
   ·have z:zc q.num.natAbs≠[48]:=fun k=>by have:=h48 _ k;omega
    rw[w4 h,w4 z];rfl
   ·rw[w8 h];rfl
  ·by_cases h:q.den=1
   ·rw[w8 (not_not_intro h)];rfl
   ·have z:zc q.den≠[48]:=fun k=>by have:=h48 _ k;omega
    have y:zc q.den≠[49]:=fun k=>h (h49 _ k)
    rw[w4 h,wc h,TX,w4 z,w4 y];rfl
 unfold AF;rw[wc (by rw[hf];decide),hA,hB,hC];have hb:Me q=true↔600<(zc q.num.natAbs).length\/600<(if q.den=1 then([]:List UInt8)else zc q.den).length:=by
  unfold Me NV;rw[ye,w5,w5,zj];by_cases h:q.den=1
  ·rw[wd h,h,yg (show 1<10 by decide)];simp
  ·rw[wc h]
 by_cases h:Me q=true
 ·rw[wd (hb.1 h),wd h]
 ·rw[wc (fun k=>h (hb.2 k)),wc h];refine wc fun k=>?_
  obtain⟨k1,k2⟩:=k;have k1:q.den≠1:=w6 k1;apply k2;unfold oB nO;rw[hA,hB,wc k1,HJ,HJ,Fk];have hr:=q.reduced;have:Int.gcd ((q.num.natAbs:Nat):Int) (q.den:Int)=1:=hr;rw[this];rfl
theorem Mi(q:Rat):Fx (Az q)=Qc q.num:=by
 have h0:Az q=[48]↔q=0:=by
  have:Az (0:Rat)=[48]:=by
   unfold Az;rw[wd (show Rat.den 0=1 from rfl)];show zq 0=[48];unfold zq;rw[wc (by decide),show(0:Int).toNat=0 from rfl,yg (by decide)];rfl
  rw[<-this];exact⟨QA,fun h=>by rw[h]⟩
 unfold Fx Qc;by_cases hz:q=0
 ·rw[wd (h0.2 hz),hz];rfl
 ·rw[wc (fun h=>hz (h0.1 h))];have hn:q.num≠0:=fun h=>hz (Rat.num_eq_zero.mp h)
  have hg:(Az q).getD 0 0=(zq q.num).getD 0 0:=by
   unfold Az;split
   ·rfl
   ·have:zq q.num≠[]:=by unfold zq;split;exact List.cons_ne_nil _ _;exact VB _
    cases hi:zq q.num with
    |nil=>exact wh hi this
    |cons c r=>rfl
  rw[hg];unfold zq;by_cases h:q.num<0
  ·rw[wd h,wd h];rfl
  ·rw[wc h,wc h,wc (Fj (DL _)),wd (by omega)]
theorem Vc(n:Int)(h:n≠0):zq (-n)=if n<0 then(zq n).drop 1 else 45::zq n:=by
 unfold zq;by_cases c:n<0
 ·rw[wc (by omega),wd c,wd c,show(-n).toNat=n.natAbs by omega];rfl
 ·rw[wd (by omega),wc c,wc c,show(-n).natAbs=n.toNat by omega]
theorem gQ(q:Rat):Ld (Az q)=Az (-q):=by
 have hs:=Mi q;unfold Fx at hs;unfold Ld;by_cases h0:Az q=[48]
 ·rw[wd h0]at hs ⊢;have:q.num=0:=by
   unfold Qc at hs;split at hs
   ·exact wh hs (by decide)
   ·split at hs
    ·exact wh hs (by decide)
    ·omega
  have:q=0:=Rat.num_eq_zero.mp this;rw[this];rfl
 ·rw[wc h0]at hs ⊢;have hn:q.num≠0:=by
   intro h;rw[h]at hs;split at hs<;>exact wh hs (by decide)
  have e:Az (-q)=if q.num<0 then(Az q).drop 1 else 45::Az q:=by
   unfold Az;rw[Rat.neg_num,Rat.neg_den,Vc _ hn];by_cases c:q.num<0
   ·rw[wd c,wd c];have:zq q.num=45::zc q.num.natAbs:=by unfold zq;rw[wd c]
    rw[this];split<;>rfl
   ·rw[wc c,wc c];split<;>rfl
  rw[e];unfold Qc at hs;by_cases c:q.num<0
  ·rw[wd c]at hs ⊢;split at hs
   ·next k=>rw[wd k]
   ·exact wh hs (by decide)
  ·rw[wc c,wd (show q.num>0 by omega)]at hs;rw[wc c];split at hs
   ·exact wh hs (by decide)
   ·next k=>rw[wc k]
open Go.Lib
theorem Mg:∀(f n l:Nat) (acc:List UInt8),l<=acc.length->n<10^f->Hc f n l acc=if n=0 then acc else decDigits n++acc
 |0,n,l,acc,_,hn=>by rw[Nat.pow_zero]at hn;rw[wd (by omega)];rfl
 |f+1,n,l,acc,hl,hn=>by
  rw[yw]at hn;unfold Hc;by_cases h:n=0
  ·rw[wd ⟨h,hl⟩,wd h]
  ·rw[wc (fun k=>h k.1),wc h,Mg f (n/10) l _ (by rw[zl];omega) (by omega)];by_cases h2:n/10=0
   ·rw[wd h2,decDigits_one (by omega),show n % 10=n by omega];rfl
   ·have e:=Fy (n/10) (n % 10) (by omega) (by omega);rw[show 10*(n/10)+n % 10=n by omega]at e;rw[wc h2,e,yt];rfl
theorem iR{d:Nat}(h:d<10):FY 1 d=[zu (48+d)]:=by
 unfold FY;rw[nDigits_small h,decDigits_one h];rfl
theorem Tx:∀(k f n l:Nat) (acc:List UInt8),acc.length+(k+1)=l->n<10^(k+1)->k+1<=f->Hc f n l acc=FY (k+1) n++acc
 |k,0,n,l,acc,_,_,h=>by omega
 |0,f+1,n,l,acc,hl,hn,_=>by
  unfold Hc;rw[wc (by omega),iR (by omega),Mg f (n/10) l _ (by rw[zl];omega) (by rw[show n/10=0 by omega];exact Nat.pow_pos (by decide)),wd (by omega),show n % 10=n by omega];rfl
 |k+1,f+1,n,l,acc,hl,hn,hf=>by
  rw[yw]at hn;have e:=Q6 (k+1) (n/10) (n % 10) (by omega) (by omega);rw[show 10*(n/10)+n % 10=n by omega]at e;unfold Hc;rw[wc (by omega),Tx k f (n/10) l _ (by rw[zl];omega) (by omega) (by omega),e,yt];rfl
theorem Pu{n:Int}(h0:0<=n)(h1:n<9223372036854775808):HT n 1=decDigits n.toNat:=by
 show Hc 64 n.toNat 1 []=_;unfold Hc;rw[wc (by simp)];rw[Mg 63 (n.toNat/10) 1 _ (by simp) (by omega)];by_cases h:n.toNat<10
 ·rw[wd (by omega),decDigits_one h,show n.toNat % 10=n.toNat by omega]
 ·have e:=Fy (n.toNat/10) (n.toNat % 10) (by omega) (by omega);rw[show 10*(n.toNat/10)+n.toNat % 10=n.toNat by omega]at e;rw[wc (by omega),e]
theorem ZE{n:Int}(h0:0<=n)(h1:n<1000000000):HT n 9=FY 9 n.toNat:=by
 show Hc 64 n.toNat 9 []=_;rw[Tx 8 64 n.toNat 9 [] rfl (by omega) (by decide),List.append_nil]
def C1(n d:Int):List UInt8:=Az (qg n d)
theorem Y1(n:Int):itoa n=(if n<0 then[45]else[])++decDigits n.natAbs:=by
 unfold itoa;split
 ·rfl
 ·rw[show n.toNat=n.natAbs by omega];rfl
end Go.Sp
namespace Go.Sp
def vR(a:Bool×List Int):Int:=if a.1=true then -Ar a.2 else Ar a.2
def CM(a:Bool×List Int):Bool:=A5 a.2&&decide (a.2.length<=3000)&&(!a.1||decide (a.2≠[]))
def HL(l:List Int)(i:Int):Int:=l.getD i.toNat 0
def kO(a b:List Int):Bool:=A5 a&&A5 b&&decide (a.length<=9000)&&decide (b.length<=9000)
def LO(a b:List Int):List Int:=BN (Ar a+Ar b)
def GC(a b:List Int):List Int:=BN (Ar a-Ar b)
def MD(a b:Bool×List Int):Bool:=rN (vR a+vR b)
def Mx(a b:Bool×List Int):List Int:=rW (vR a+vR b)
def G6(a b:Bool×List Int):Bool:=rN (vR a*vR b)
def Hl(a b:Bool×List Int):List Int:=rW (vR a*vR b)
def Sc(a:Bool×List Int):Bool:=rN (-vR a)
def RV(a:Bool×List Int):List Int:=rW (-vR a)
def JL(a:Bool×List Int):List UInt8:=AW (vR a)
def HM(n d:Bool×List Int):List UInt8:=C1 (vR n) (vR d)
def gK(a:List UInt8):Int:=if DY a=true then IB a else 0
def TS(a:List UInt8):Int:=if DY a=true then RL a else 0
def J9(a b:List UInt8):List UInt8:=Az (AQ a+AQ b)
def Vr(a b:List UInt8):List UInt8:=Az (AQ a-AQ b)
def YX(a b:List UInt8):List UInt8:=Az (AQ a*AQ b)
def rA(a:List UInt8):List UInt8:=Az (AQ a)⁻¹
def cG(a b:List UInt8):Int:=if AQ a<AQ b then -1 else if AQ b<AQ a then 1 else 0
def H7(a:List UInt8):Bool:= !Bj a
def Jt(a:List UInt8):Bool:=BT a&&decide (a.length<=3000)
def nzT(a:List UInt8):Bool:=Jt a&&decide (AQ a≠0)
end Go.Sp
namespace Go.Pe
open Sp
open Go.Det
def Wf:Ao:=⟨[li,i64],fun i=>decide (0<=(i.2:Int)),[i64],fun i=>HL i.1 i.2,false⟩
def V1:Ao:=⟨[li,li],fun i=>kO i.1 i.2,[li],fun i=>LO i.1 i.2,false⟩
def WI:Ao:=⟨[li,li],fun i=>kO i.1 i.2&&decide (Ar i.2<=Ar i.1),[li],fun i=>GC i.1 i.2,false⟩
def dU:Ao:=⟨[Js,Js],fun i=>CM i.1&&CM i.2,[Js],fun i=>(MD i.1 i.2,Mx i.1 i.2),false⟩
def XN:Ao:=⟨[Js,Js],fun i=>CM i.1&&CM i.2,[Js],fun i=>(G6 i.1 i.2,Hl i.1 i.2),false⟩
def YF:Ao:=⟨[Js],fun a=>CM a,[Js],fun a=>(Sc a,RV a),false⟩
def dV:Ao:=⟨[Js],fun a=>CM a,[.str],fun a=>JL a,false⟩
def LG:Ao:=⟨[Js,Js],fun i=>CM i.1&&CM i.2&&decide (Sp.vR i.2≠0),[.str],fun i=>HM i.1 i.2,false⟩
def fK:Ao:=⟨[i64,i64],fun i=>CD i.1&&CD i.2&&decide ((i.2:Int)≠0),[.str],fun i=>C1 i.1 i.2,false⟩
def Nn:Ao:=⟨[.str],fun s=>BT s,[i64,i64,.bool],fun s=>(gK s,TS s,DY s),false⟩
def Q3:Ao:=⟨[.str,.str],fun i=>BT i.1&&BT i.2,[.str],fun i=>J9 i.1 i.2,false⟩
def sE:Ao:=⟨[.str,.str],fun i=>BT i.1&&Jt i.2,[.str],fun i=>Vr i.1 i.2,false⟩
def UU:Ao:=⟨[.str,.str],fun i=>BT i.1&&BT i.2,[.str],fun i=>YX i.1 i.2,false⟩
def sF:Ao:=⟨[.str],fun s=>Sp.nzT s,[.str],fun s=>rA s,false⟩
def sB:Ao:=⟨[.str,.str],fun i=>BT i.1&&Jt i.2,[i64],fun i=>cG i.1 i.2,false⟩
def Ys:Ao:=⟨[.str],fun s=>decide (s.length<=1000000),[.bool],fun s=>H7 s,false⟩
def XR0:A0:=X7 []
def Vh:A0:=X7 [(229,Wf),(227,RR)]
def XR2:A0:=X7 [(168,II),(169,V1),(170,Xe),(171,WI),(172,Ye),(164,QG)]
def XR3:A0:=X7 [(109,Oi)]
def kN:A0:=ZD [(96,[3,7,9])] [] [(96,[(3,[2,3]),(7,[8,10]),(9,[8,10])])] [(166,YF),(92,Kj),(164,QG),(168,II),(167,dV)]
def aO:A0:=ZD [(36,[3,5,7,11])] [] [(36,[(3,[0,1]),(5,[0,1]),(7,[0,1]),(11,[1,6])])] [(107,K8),(96,LG),(108,sJ),(109,Oi)]
def sI:A0:=ZD [(27,[5]),(29,[5])] [] [(27,[(5,[0,1])]),(29,[(5,[0,1])])] [(95,Nn),(36,fK),(91,Rv),(97,dU),(98,XN),(96,LG)]
def XR7:A0:=X7 [(94,sF),(29,UU),(27,Q3),(99,iF)]
def XR8:A0:=X7 [(28,sE),(41,PL),(89,Mh),(100,XZ),(101,jV),(102,Tt)]
def VY:Ao:=⟨[],fun _=>true,[.bool],fun _=>true,false⟩
theorem bO:Ag Bh 17 VY:=by
 refine .zZ ⟨by kernel_rfl,Bl (by kernel_rfl),fun F h args i hfz hlt hgh hargs _=>?_⟩;have ha:args=[]:=by
  have:=hargs (fun _=>none) 0;simpa [Af,VY]using this
 subst ha;refine⟨[(.bool true,h)],1,fun m hm=>?_,fun _=>⟨_,rfl⟩,fun x hx=>?_⟩
 ·obtain⟨m',rfl⟩:∃m',m=m'+1:=⟨m-1,by omega⟩;have hq:Bh.spec 17=some fun args h=>bif lH h F4 then(match Ip A7 17 args with|some v=>some (v,h)|none=>none)else none:=rfl
  rw[Bf];simp only[hq,tX hgh,we];rfl
 ·cases y7.1 hx;exact⟨yb _,fun _ _=>rfl,hlt,F,fun _ _ h=>h,fun _ _ h=>.inl h,hfz,fun ρ N=>DN _⟩
end Go.Pe
namespace Go.Sp
def Of(a:AR):Int:=if Bq (Ae (vI a))=[]then 0 else 64*((Bq (Ae (vI a))).length-1)+EP ((Bq (Ae (vI a))).getD ((Bq (Ae (vI a))).length-1) 0)
def En(a:AR):Bool:=NV (vI a)
def DO(a:AS):Bool:=En a.1||En a.2
def Ft(a:AS):List UInt8:=if CN a.2=true then AW (vI a.1)else AW (vI a.1)++47::AW (vI a.2)
def MX(a:AS):List UInt8:=if DO a=true then[]else Ft a
def MZ(a:AS):Int:=if DO a=true then 4 else 0
def WG(a:AS):Int:=Qc (vI a.1)
def gT(e:Int)(q:Rat):List UInt8:=if e≠0 then[]else if Me q=true then[]else Az q
def gN(e:Int)(q:Rat):Int:=if e≠0 then e else if Me q=true then 4 else 0
end Go.Sp
namespace Go.Pe
open Sp
open Go.Det
def eO:Ao:=⟨[BJ],fun a=>A4 a,[i64],fun a=>Of a,false⟩
def Xu:Ao:=⟨[BJ],fun a=>A4 a,[.bool],fun a=>En a,false⟩
def Rw:Ao:=⟨[.str,.str],fun i=>Sd i.1 i.2,[.str],fun i=>AZ i.1,false⟩
def SQ:Ao:=⟨[BV],fun a=>jg (a:AS),[.bool],fun a=>DO a,false⟩
def V9:Ao:=⟨[BV],fun a=>jg (a:AS),[.str],fun a=>Ft a,false⟩
def YO:Ao:=⟨[BV],fun a=>jg (a:AS),[.str,i64],fun a=>(MX a,MZ a),false⟩
def rT:Ao:=⟨[BV],fun a=>Dk (a:AS).1,[i64],fun a=>WG a,false⟩
def XX0:A0:=X7 []
def XX1:A0:=X7 [(218,NP),(247,Vs)]
def yI:A0:=X7 [(248,eO),(200,sX),(214,Rw)]
def XX2:A0:=X7 [(199,Xu),(156,OC),(200,sX)]
def zP:A0:=X7 [(131,SQ),(132,V9)]
def XX3:A0:=X7 [(77,EE),(173,HZ)]
end Go.Pe
namespace Go.Sp
def Qi(a:List UInt8):List UInt8:=YX a [49,47,50]
end Go.Sp
namespace Go.Pe
open Go.Det
def rM:Ao:=⟨[.str],fun s=>Sp.BT s,[.str],fun s=>Sp.Qi s,false⟩
def XY1:A0:=X7 [(29,UU)]
end Go.Pe
namespace Go.Sp
def JJ(s:List UInt8):AS:=((WO s,V3 s),(Si s,Rk s))
end Go.Sp
namespace Go.Pe
open Go.Det
def X6:Kv:=⟨[],3,.int .i64,fun _ l=>decide (y9 (α:=Int) l≠0)&&decide (y9 (α:=Int) l<=1000000),fun _ l=>Go.Det.sorted l⟩
theorem Pb:∀l:List Int,Lw (l.map (V.int .i64))=some l
 |[]=>rfl
 |x::l=>by
  show(Lw (l.map (V.int .i64))).map (x:: ·)=_;rw[Pb l];rfl
theorem lU{F:Fz}{l:List Int}{cs:List V}(h:D6 F (.int .i64) l cs):cs=l.map (V.int .i64):=by
 obtain⟨h1,h2⟩:=h;have h1:cs.length=l.length:=by rw[h1];exact q9 _
 refine List.ext_getElem (by rw[z6,h1]) fun i g1 g2=>?_
 have h3:=h2 i (by omega);have h3:(cs.drop (i*1)).take 1=[.int .i64 (l[i]'(by omega))]:=h3;rw[q9,qm g1]at h3;have h3:[cs[i]]=[V.int .i64 (l[i]'(by omega))]:=h3;rw[List.getElem_map];exact List.head_eq_of_cons_eq h3
theorem fZ{F:Fz}(l:List Int):D6 F (.int .i64) l (l.map (V.int .i64)):=by
 refine⟨by rw[z6];exact(q9 _).symm,fun i hi=>?_⟩;show((l.map (V.int .i64)).drop (i*1)).take 1=[.int .i64 l[i]];rw[q9,qm (by rw[z6];exact hi),List.getElem_map];rfl
theorem Vi{C:Ctx}{f:FuncId}(hp:C.prim f=none)(hfn:∃i,C.fn f=some i)(hq:C.spec f=some UG):E6 C f X6 where
 prim:=hp
 fn:=hfn
 len:=fun _ l _=>List.length_mergeSort (l:=(l:List Int)) ..
 run:=by
  intro F h args i (l:List Int) b cs fz o hF hlt hgh hargs hpre hg hd hfz hFb ho;have ha:args=[]:=by
   have:=hargs (fun _=>none) 0;simpa [Af,X6]using this
  subst ha;have hpre:(decide (l.length≠0)&&decide (l.length<=1000000))=true:=hpre;rw[zd,w5,w5]at hpre;have hcs:=lU hd;subst hcs;have hg:h.get b=some (.cells (l.map (V.int .i64)) 3 fz):=hg;have run:UG [.sl b 0 l.length l.length o] h=some (.tup [],h.put b (.cells ((sorted l).map (V.int .i64)) 3 fz)):=by
   unfold UG;simp only[hg,GQ,GR,List.drop_zero];rw[qd (by rw[z6];exact yb _),Pb];simp only[Cj,Nat.beq_refl,yd (show l.length<=140737488355328 by omega),yd hfz,Bool.and_self,we];rw[List.take_zero,List.nil_append,Nat.zero_add,qv (by rw[z6];exact yb _),List.append_nil]
  refine⟨(.tup [],h.put b (.cells ((sorted l).map (V.int .i64)) 3 fz)),1,fun m hm=>?_,rfl,yb _,fun c _ hc=>?_,fun c y hy=>?_,F,fun _ _ h=>h,fun _ _ h=>.inl h,fun c bs hc=>?_,_,fz,?_,fZ _,hfz⟩
  ·obtain⟨m',rfl⟩:∃m',m=m'+1:=⟨m-1,by omega⟩;rw[Bf];simp only[hq,List.nil_append];split
   ·next x hx=>rw[Option.some.inj (hx.symm.trans run)]
   ·next hx=>exact wh (hx.symm.trans run) (by simp)
  ·rw[H.A8,wc hc]
  ·rw[H.A8]at hy;rw[H.vX];split at hy
   ·next e=>rw[e];exact hlt _ _ hg
   ·exact hlt _ _ hy
  ·rw[H.A8];by_cases e:c=b
   ·subst e;rw[hFb]at hc;cases hc
   ·rw[wc e];exact hF c bs hc
  ·rw[H.A8,wd rfl];rfl
 nils:=by
  intro F h args i hF hlt hgh hargs hpre;exact wh (show false=true from hpre) (by decide)
end Go.Pe
namespace Go.Sp
abbrev BB:=Int×List UInt8
def isNum(n:Int):Bool:=decide (-999999999<=n)&&decide (n<=999999999)
def ZN(d:Int):Bool:=decide (d=((2^d.toNat.log2:Nat):Int))
def S8(s:List UInt8):Bool:=ZN (AG s)
def Xq(a:AS):Bool:=ZN (vI a.2)
def SE(a:AR):Bool:=A4 a&&decide (0<vI a)
def mF(o:Option Int)(v:Int):Bool:=match o with
 |some p=>decide (v<=p)
 |none=>false
def Ch(o:Option Int)(c:BB):Int:=if isNum c.1=false then 3 else if AF c.2≠0 then AF c.2 else if AQ c.2<=0 then 3 else if S8 c.2=false then 1 else if mF o c.1=true then 11 else 0
def Fb:Option Int->Rat->List BB->Int
 |_,s,[]=>if s=1 then 0 else 15
 |o,s,c::l=>if Ch o c≠0 then Ch o c else Fb (some c.1) (s+AQ c.2) l
def AJ(l:List BB):Int:=if l=[]then 12 else if 64<l.length then 5 else Fb none 0 l
def Dc:List BB->Rat
 |[]=>0
 |c::l=>(c.1:Rat)*AQ c.2+Dc l
def FL(n:Int):List BB->Rat
 |[]=>0
 |c::l=>(if c.1<=n then AQ c.2 else 0)+FL n l
def JK(l:List BB):List UInt8:=gT (AJ l) (Dc l)
def HN(l:List BB):Int:=gN (AJ l) (Dc l)
def Qy(l:List BB)(n:Int):List UInt8:=gT (AJ l) (FL n l)
def QU(l:List BB)(n:Int):Int:=gN (AJ l) (FL n l)
def BU(v:Int)(q:Rat):List (Int×Rat)->List (Int×Rat)
 |[]=>[(v,q)]
 |c::l=>if c.1<v then c::BU v q l else if c.1=v then(v,c.2+q)::l else(v,q)::c::l
def LV(x:BB):List BB->List (Int×Rat)->List (Int×Rat)
 |[],w=>w
 |y::b,w=>LV x b (BU (x.1+y.1) (AQ x.2*AQ y.2) w)
def LK:List BB->List BB->List (Int×Rat)->List (Int×Rat)
 |[],_,w=>w
 |x::a,b,w=>LK a b (LV x b w)
def CA(a b:List BB):List (Int×Rat):=LK a b []
def Ej(w:List (Int×Rat)):List BB:=w.map fun c=>(c.1,Az c.2)
def Fa(c:Int×Rat):Bool:=decide (c.1< -999999999)||decide (999999999<c.1)||Me c.2
def Sa(w:List (Int×Rat)):Int:=if 64<w.length then 5 else if w.any Fa then 4 else 0
def Dd(a b:List BB):Int:=Sa (CA a b)
def EJ(a b:List BB):Int:=if AJ a≠0 then AJ a else if AJ b≠0 then AJ b else Dd a b
def IG(a b:List BB):List BB:=if EJ a b≠0 then[]else Ej (CA a b)
def Cs(l:List BB)(n d:Int):Bool:=(decide ((l.length:Int)<=n)||decide (64<l.length))&&decide (l.length<=70)&&l.all fun c=>BF c.2 d
def KJ(w:List UInt8):Nat:=max (AZ (Aw w)).length (P0 w).length
def Fe:List BB->Nat
 |[]=>0
 |c::l=>(if AF c.2=0 then KJ c.2 else 0)+1+Fe l
def Io(l:List BB):Bool:=decide (l.length<=1000)&&(l.all fun c=>decide (c.2.length<=1000000))&&(decide (64<l.length)||decide (Fe l<=1300))
def bU(a b:List BB):Bool:=decide (a=b)
end Go.Sp
namespace Go.Pe
open Sp
open Go.Det
abbrev K1:Sh:=.pair i64 .str
def Vw:Ao:=⟨[i64],fun _=>true,[.bool],fun n=>Sp.isNum n,false⟩
def zG:Ao:=⟨[BV],fun a=>SE (a:AS).2,[.bool],fun a=>Xq (a:AS),false⟩
def xR:Ao:=⟨[.str],fun s=>BT s,[.bool],fun s=>S8 s,false⟩
def Rg:Ao:=⟨[.list K1],fun l=>Io l,[i64],fun l=>AJ l,false⟩
def rU:Ao:=⟨[.list K1],fun l=>Io l,[.str,i64],fun l=>(JK l,HN l),false⟩
def rJ:Ao:=⟨[.list K1,i64],fun i=>Io i.1,[.str,i64],fun i=>(Qy i.1 i.2,QU i.1 i.2),false⟩
def Vd:Ao:=⟨[.list K1,.list K1],fun i=>Cs i.1 10 9&&Cs i.2 10 9,[.list K1,i64],fun i=>(IG i.1 i.2,EJ i.1 i.2),false⟩
def WC:Ao:=⟨[.list K1,.list K1],fun i=>decide (y9 (α:=BB) i.1<=5000),[.bool],fun i=>bU i.1 i.2,false⟩
def NF:Ao:=⟨[.list K1,i64,i64],fun i=>decide (0<=(i.2.1:Int))&&decide ((i.2.1:Int)<=64)&&decide (0<=(i.2.2:Int))&&decide ((i.2.2:Int)<=1000),[.bool],fun i=>Cs i.1 i.2.1 i.2.2,false⟩
def XC1:A0:=X7 [(105,Ww),(154,Ym),(176,FI),(173,HZ)]
def zX:A0:=X7 [(102,Tt),(44,rM),(43,Ys)]
def xN:A0:=X7 [(130,Vw),(83,NW),(85,W4),(77,EE),(87,Xy),(110,rT),(134,zG),(80,T4),(88,sK),(111,cF)]
def T1:A0:=ZD [(62,[14,16,18,20])] [] [] [(24,EE),(41,PL),(133,xR),(27,Q3)]
def wK:A0:=X7 [(63,Rg),(111,cF),(87,Xy),(82,eF),(80,T4),(103,YO)]
def J5:A0:=(ZD [(60,[17])] [] [] [(130,Vw),(63,Rg),(83,NW),(111,cF),(87,Xy),(82,eF),(80,T4),(131,SQ),(132,V9)]).wr [(129,X6)]
def kM:A0:=X7 [(46,Lr)]
section
open List Int Prod
namespace T134
def T(a:(Int×List Int)×Int×List Int):Tr:=tree XC1 false 9 134 (Af ([zw (zw i64 (zk (zt zg))) (zw i64 (zk (zt zg)))]) a)
def L1(o1:Int)(o1_1:List Int)(o0:Int)(o0_1:List Int):Tr:=re ((T ((0,[]),(0,[]))).L) (AD 24 [(3,.ptr 0 0),(4,.ptr 1 0)] [(1,.box [.dat i64 o1,.dat (zk (zt zg)) o1_1]),(0,.box [.dat i64 o0,.dat (zk (zt zg)) o0_1])] 2)
theorem Am(a:(Int×List Int)×Int×List Int):T a=.ite true (L1 2 (BA 2) (fst (snd a)) (snd (snd a))) .fail:=by kernel_rfl
theorem Ap(o1:Int)(o1_1:List Int)(o0:Int)(o0_1:List Int):stepT XC1 (L1 o1 o1_1 o0 o0_1)=let a':=zk (zt zg);let b':=(Iv (o0,o0_1) (o1,o1_1),Ik (o0,o0_1) (o1,o1_1));let c':=dE (o0,o0_1) (o1,o1_1);let d':=bF (o0,o0_1) (o1,o1_1);.ite true (.ite (A4 (o0,o0_1)&&A4 (1,BA 1)) (.ite (decide (NZ (o0,o0_1) (1,BA 1)>0)) (.ite (A4 (o0,o0_1)&&A4 (o1,o1_1)&&decide (0<z7 (o1,o1_1))) (.ite (Dk b') (.ite (EN b' !=0) (.leaf (.bl false) ([(zo 2 1,.box [.dat i64 (Iv (o0,o0_1) (o1,o1_1)),.dat a' (Ik (o0,o0_1) (o1,o1_1))]),(2,.box [.dat i64 c',.dat a' d']),(1,.box [.dat i64 o1,.dat a' o1_1]),(0,.box [.dat i64 o0,.dat a' o0_1])])) (L1 o1 o1_1 c' d')) .fail) .fail) (.leaf (.bl true) ([(1,.box [.dat i64 o1,.dat a' o1_1]),(0,.box [.dat i64 o0,.dat a' o0_1])]))) .fail) .fail:=by kernel_rfl
end T134
namespace T133
def T(s:List UInt8):Tr:=tree zX false 9 133 (Af ([zi]) s)
def L1(v3:List UInt8):Tr:=re ((T []).L) (AD 13 [(3,.dat zi v3)] [] 0)
theorem Am(s:List UInt8):T s=.ite (decide (length s<=1000000)) (L1 (P0 s)) .fail:=by kernel_rfl
theorem Ap(v3:List UInt8):stepT zX (L1 v3)=.ite (!v3==[(49:UInt8)]) (.ite (BT v3) (.ite (decide (length (Qi v3)<=1000000)) (.ite (!H7 (Qi v3)) (.leaf (.bl false) []) (L1 (Qi v3))) .fail) .fail) (.leaf (.bl true) []):=by kernel_rfl
end T133
namespace T63
def T(l:List (Int×List UInt8)):Tr:=tree xN false 9 63 (Af ([yc (zw i64 zi)]) l)
def L1(v0:List (Int×List UInt8))(v24:List (Int×List UInt8))(v25 v26 o0:Int)(o0_1:List Int)(o0_2:Int)(o0_3:List Int):Tr:=re ((T []).L.L.L.R.L) (AD 83 [(0,.dat (yc (zw i64 zi)) v0),(4,.ptr 0 0),(24,.dat (yc (zw i64 zi)) v24),(25,.dat i64 v25),(26,.dat i64 v26)] [(0,.box [.dat i64 o0,.dat (zk (zt zg)) o0_1,.dat i64 o0_2,.dat (zk (zt zg)) o0_3])] 1)
theorem Am(l:List (Int×List UInt8)):T l=let a':=(length l:Int);let b':=decide (a'>64);.ite true (.ite true (.ite (decide (2<=2)&&true&&decide (2<=1000000)) (.ite (yp [Dp (a'==0) 12,Dp b' 5] !=0) (.leaf (.dat i64 (yp [Dp (a'==0) 12,Dp b' 5])) ([(0,.arr false 25 i64 [Dp (a'==0) 12,Dp b' 5])])) (.ite true (L1 l l (a') 0 0 (BA 0) 1 (BA 1)) .fail)) .fail) .fail) .fail:=by kernel_rfl
theorem Ap(v0:List (Int×List UInt8))(v24:List (Int×List UInt8))(v25 v26 o0:Int)(o0_1:List Int)(o0_2:Int)(o0_3:List Int):stepT xN (L1 v0 v24 v25 v26 o0 o0_1 o0_2 o0_3)=let a':=getD v24 (toNat v26) (0,[]);let b':=zk (zt zg);let g':=((o0,o0_1),o0_2,o0_3);let j':=decide (3<=3)&&true&&decide (3<=1000000);let k':=zo (zo 1 1) 1;let l':=((1,BA 1),1,BA 1);let c':=JJ (snd a');let e':=decide (fst a'<=fst (getD v0 (toNat (ze .i64 (v26-1))) (0,[])));let f':=(zo (zo 1 1) 1,.box [.dat i64 (WO (snd a')),.dat b' (V3 (snd a')),.dat i64 (Si (snd a')),.dat b' (Rk (snd a'))]);let i':=!Sp.isNum (fst a');let d':Tr:=.ite (Sp.FO g'&&Sp.FO c') (L1 v0 v24 v25 (ze .i64 (v26+1)) (UL g' c') (TL g' c') (TU g' c') (Us g' c')) .fail;let h':=decide (WG c'<=0);.ite (decide (v26<v25)) (.ite (decide (0<=v26)&&decide (v26<(length v24:Int))) (.ite true (.ite true (.ite (decide (length (snd a')<=1000000)) (.ite (decide (2<=2)&&true&&decide (2<=1000000)) (.ite (yp [Dp i' 3,AF (snd a')] !=0) (.leaf (.dat i64 (yp [Dp i' 3,AF (snd a')])) ([(zo 1 1,.arr false 25 i64 [Dp i' 3,AF (snd a')]),(1,.box [.dat i64 (fst a'),.dat zi (snd a')]),(0,.box [.dat i64 o0,.dat b' o0_1,.dat i64 o0_2,.dat b' o0_3])])) (.ite (Hn (snd a')) (.ite (Dk (WO (snd a'),V3 (snd a'))) (.ite true (.ite (SE (Si (snd a'),Rk (snd a'))) (.ite true (.ite (decide (v26>0)) (.ite (decide (0<=ze .i64 (v26-1))&&decide (ze .i64 (v26-1)<(length v0:Int))) (.ite true (.ite j' (.ite (yp [Dp h' 3,Dp (!Xq c') 1,Dp e' 11] !=0) (.leaf (.dat i64 (yp [Dp h' 3,Dp (!Xq c') 1,Dp e' 11])) ([(zo k' 1,.arr false 25 i64 [Dp h' 3,Dp (!Xq c') 1,Dp e' 11]),f',(zo 1 1,.arr false 25 i64 [Dp i' 3,AF (snd a')]),(1,.box [.dat i64 (fst a'),.dat zi (snd a')]),(0,.box [.dat i64 o0,.dat b' o0_1,.dat i64 o0_2,.dat b' o0_3])])) d') .fail) .fail) .fail) (.ite true (.ite j' (.ite (yp [Dp h' 3,Dp (!Xq c') 1,Dp false 11] !=0) (.leaf (.dat i64 (yp [Dp h' 3,Dp (!Xq c') 1,Dp false 11])) ([(zo k' 1,.arr false 25 i64 [Dp h' 3,Dp (!Xq c') 1,Dp false 11]),f',(zo 1 1,.arr false 25 i64 [Dp i' 3,AF (snd a')]),(1,.box [.dat i64 (fst a'),.dat zi (snd a')]),(0,.box [.dat i64 o0,.dat b' o0_1,.dat i64 o0_2,.dat b' o0_3])])) d') .fail) .fail)) .fail) .fail) .fail) .fail) .fail)) .fail) .fail) .fail) .fail) .fail) (.ite true (.ite (jg g'&&jg l') (.ite true (.leaf (.dat i64 (Dp (!bN g' l'==0) 15)) ([(zo 1 1,.box [.dat i64 (1:Int),.dat b' (BA 1),.dat i64 (1:Int),.dat b' (BA 1)]),(1,.box [.dat i64 o0,.dat b' o0_1,.dat i64 o0_2,.dat b' o0_3]),(0,.box [.dat i64 o0,.dat b' o0_1,.dat i64 o0_2,.dat b' o0_3])])) .fail) .fail) .fail):=by kernel_rfl
end T63
namespace T62
def T(l:List (Int×List UInt8)):Tr:=tree T1 false 9 62 (Af ([yc (zw i64 zi)]) l)
def L1(v0:List (Int×List UInt8))(v3:List UInt8)(v4:Int):Tr:=re ((T []).R.R) (AD 94 [(0,.dat (yc (zw i64 zi)) v0),(3,.dat zi v3),(4,.dat i64 v4)] [] 0)
theorem Am(l:List (Int×List UInt8)):T l=.ite ((length l:Int)==0) (.leaf (.dat i64 (12:Int)) []) (.ite (decide ((length l:Int)>64)) (.leaf (.dat i64 (5:Int)) []) (L1 l ([(48:UInt8)]) 0)):=by kernel_rfl
def L2(v0:List (Int×List UInt8))(v3:List UInt8)(v4 v5:Int):Tr:=re ((stepT T1 (L1 [] [] 0)).L.L.L.L.L.L) (AD 94 [(0,.dat (yc (zw i64 zi)) v0),(3,.dat zi v3),(4,.dat i64 v4),(5,.dat i64 v5)] [] 0)
theorem Ap(v0:List (Int×List UInt8))(v3:List UInt8)(v4:Int):stepT T1 (L1 v0 v3 v4)=let c':=getD v0 (toNat v4) (0,[]);let e':=decide (v4<(length v0:Int));let b':=decide (0<=v4)&&e';let a':Tr:=.ite b' (.ite (decide (length (snd c')<=1000000)) (L2 v0 v3 v4 (AF (snd c'))) .fail) .fail;let d':Tr:=.ite false a' (L2 v0 v3 v4 3);.ite (e') (.ite b' (.ite (decide (fst c'<(-999999999))) d' (.ite b' (.ite (decide (fst c'>999999999)) d' (.ite true a' (L2 v0 v3 v4 0))) .fail)) .fail) (.ite (!v3==[(49:UInt8)]) (.leaf (.dat i64 (15:Int)) []) (.leaf (.dat i64 (0:Int)) [])):=by kernel_rfl
def L3(v0:List (Int×List UInt8))(v3:List UInt8)(v4 v5:Int):Tr:=re ((stepT T1 (L2 [] [] 0 0)).L.L.L.L) (AD 94 [(0,.dat (yc (zw i64 zi)) v0),(3,.dat zi v3),(4,.dat i64 v4),(5,.dat i64 v5)] [] 0)
theorem AY(v0:List (Int×List UInt8))(v3:List UInt8)(v4 v5:Int):stepT T1 (L2 v0 v3 v4 v5)=let a':=snd (getD v0 (toNat v4) (0,[]));.ite (v5==0) (.ite (decide (0<=v4)&&decide (v4<(length v0:Int))) (.ite (decide (length a'<=1000000)) (.ite (decide (Fx a'<=0)) (L3 v0 v3 v4 3) (L3 v0 v3 v4 v5)) .fail) .fail) (L3 v0 v3 v4 v5):=by kernel_rfl
def L4(v0:List (Int×List UInt8))(v3:List UInt8)(v4 v5:Int):Tr:=re ((stepT T1 (L3 [] [] 0 0)).L.L.L.L) (AD 94 [(0,.dat (yc (zw i64 zi)) v0),(3,.dat zi v3),(4,.dat i64 v4),(5,.dat i64 v5)] [] 0)
theorem CH(v0:List (Int×List UInt8))(v3:List UInt8)(v4 v5:Int):stepT T1 (L3 v0 v3 v4 v5)=let a':=snd (getD v0 (toNat v4) (0,[]));.ite (v5==0) (.ite (decide (0<=v4)&&decide (v4<(length v0:Int))) (.ite (BT a') (.ite (!S8 a') (L4 v0 v3 v4 1) (L4 v0 v3 v4 v5)) .fail) .fail) (L4 v0 v3 v4 v5):=by kernel_rfl
def L5(v0:List (Int×List UInt8))(v3:List UInt8)(v4 v5:Int):Tr:=re ((stepT T1 (L4 [] [] 0 0)).L.L.L.L.L) (AD 94 [(0,.dat (yc (zw i64 zi)) v0),(3,.dat zi v3),(4,.dat i64 v4),(5,.dat i64 v5)] [] 0)
theorem CJ(v0:List (Int×List UInt8))(v3:List UInt8)(v4 v5:Int):stepT T1 (L4 v0 v3 v4 v5)=let a':=L5 v0 v3 v4 v5;.ite (v5==0) (.ite (decide (v4>0)) (.ite (decide (0<=ze .i64 (v4-1))&&decide (ze .i64 (v4-1)<(length v0:Int))) (.ite (decide (0<=v4)&&decide (v4<(length v0:Int))) (.ite (decide (fst (getD v0 (toNat (ze .i64 (v4-1))) (0,[]))>=fst (getD v0 (toNat v4) (0,[])))) (L5 v0 v3 v4 11) a') .fail) .fail) a') a':=by kernel_rfl
theorem E5(v0:List (Int×List UInt8))(v3:List UInt8)(v4 v5:Int):stepT T1 (L5 v0 v3 v4 v5)=let a':=snd (getD v0 (toNat v4) (0,[]));.ite (v5 !=0) (.leaf (.dat i64 v5) []) (.ite (decide (0<=v4)&&decide (v4<(length v0:Int))) (.ite (BT v3&&BT a') (L1 v0 (J9 v3 a') (ze .i64 (v4+1))) .fail) .fail):=by kernel_rfl
end T62
namespace T130
def T(n:Int):Tr:=tree kM false 9 130 (Af ([zt qo]) n)
theorem Am(n:Int):T n=.ite (decide (n>=(-999999999))) (.leaf (.dat ym (decide (n<=999999999))) []) (.leaf (.bl false) []):=by kernel_rfl
end T130
end
end Go.Pe
namespace Go.Sp
theorem UQ(q:Rat):P0 (Az q)=zc q.den:=by
 obtain⟨_,c2,c3⟩:=EI q;unfold P0;rw[c2,c3];by_cases h:q.den=1
 ·rw[wc (by simpa using h),h,yg (by decide)];rfl
 ·rw[wd (w4 h),wc h]
theorem Y6:Az 0=[48]:=by
 unfold Az;rw[wd (show Rat.den 0=1 from rfl)];show zq 0=[48];unfold zq;rw[wc (by decide),show(0:Int).toNat=0 from rfl,yg (by decide)];rfl
theorem Nh{s:List UInt8}(h:Jt s=true):BT s=true/\s.length<=3000:=by
 unfold Jt at h;rwa [zd,w5]at h
theorem vH{s:List UInt8}(h:nzT s=true):Jt s=true/\AQ s≠0:=by
 unfold nzT at h;rwa [zd,w5]at h
theorem OT{q:Rat}{k:Nat}(h:Dq k q)(hk:k<=400000):(Az q).length<=1000000:=by
 have:=Ku (h.mono (show k<=k+1 by omega)) (by omega);omega
structure Nu(k:Nat)(s:List UInt8)(q:Rat):Prop where
 t:s=Az q
 z:Dq k q
theorem S6{k:Nat}{q:Rat}(h:Dq k q)(hk:k<=600):Me q=false:=We.2 (h.mono hk)
theorem Nu.check{k:Nat}{s:List UInt8}{q:Rat}(h:Nu k s q)(hk:k<=600):AF s=0:=by
 rw[h.t,P3,S6 h.z hk,wc (by decide)]
theorem Nu.num{k:Nat}{s:List UInt8}{q:Rat}(h:Nu k s q)(hk:k<=1999):BT s=true:=by rw[h.t];exact Qm h.z hk
theorem Nu.Jt{k:Nat}{s:List UInt8}{q:Rat}(h:Nu k s q)(hk:k<=1400):Sp.Jt s=true:=by
 unfold Sp.Jt;rw[h.num (by omega),yz,w5,h.t];have:=Ku (h.z.mono (show k<=k+1 by omega)) (by omega);omega
theorem Nu.len{k:Nat}{s:List UInt8}{q:Rat}(h:Nu k s q)(hk:k<=1999):s.length<=1000000:=by
 rw[h.t];exact OT h.z (by omega)
theorem Vt{k:Nat}{q:Rat}(h:Dq k q)(hk:k<=600):gT 0 q=Az q/\gN 0 q=0:=by
 unfold gT gN;rw[S6 h hk];exact⟨rfl,rfl⟩
theorem uC:AQ [49,47,50]=1/2:=by decide+kernel
theorem Yy:Nu 1 [49,47,50] (1/2):=by
 refine⟨by decide+kernel,?_⟩;unfold Dq;decide+kernel
theorem S1:ZN 1=true:=by decide+kernel
theorem NJ{n:Nat}(h0:0<n):ZN ((2*n:Nat):Int)=ZN (n:Int):=by
 unfold ZN;rw[yf,yf];have e:(2*n).log2=n.log2+1:=by
  rw[Nat.log2_two_mul (by omega)]
 rw[e,yw];congr 1;apply propext;omega
theorem YG{n:Nat}(h0:0<n):ZN ((2*n+1:Nat):Int)=false:=by
 unfold ZN;rw[yf,w9];intro h;have h:2*n+1=2^(2*n+1).log2:=by omega
 have hl:1<=(2*n+1).log2:=(Nat.le_log2 (by omega)).2 (by omega);obtain⟨k,hk⟩:∃k,(2*n+1).log2=k+1:=⟨(2*n+1).log2-1,by omega⟩;rw[hk,yw]at h;omega
theorem U1(q:Rat):KJ (Az q)=max (zc q.num.natAbs).length (zc q.den).length:=by
 unfold KJ;rw[(EI q).1,(DQ q.num).2.1,UQ]
theorem Su{s:List UInt8}(h:AF s=0):Nu (KJ s) s (AQ s):=by
 obtain⟨n,_⟩:=Hr h;have e:=(Gq n).1;have hz:=U1 (AQ s);rw[e]at hz;exact⟨e.symm,CT _ (by rw[hz];exact Nat.le_max_left ..),CT _ (by rw[hz];exact Nat.le_max_right ..)⟩
theorem pN{s:List UInt8}{n:Nat}(h:BF s n=true):s.length<=40/\(AF s=0->KJ s<=n):=by
 unfold BF at h;rw[zd,w5,ye,w5]at h;refine⟨h.1,fun h0=>?_⟩;rcases h.2 with k|k
 ·exact wh h0 k
 ·unfold Ps at k;rw[zd,zd,w5,w5]at k;unfold KJ;omega
theorem Jb{l:List BB}{n d:Nat}(h:Cs l n d=true):(l.length<=n\/64<l.length)/\l.length<=70/\∀c∈l,c.2.length<=40/\(AF c.2=0->KJ c.2<=d):=by
 unfold Cs at h;rw[zd,zd,ye,w5,w5,w5,qf]at h;exact⟨by omega,h.1.2,fun c hc=>pN (h.2 c hc)⟩
theorem SZ{d:Nat}:∀(l:List BB),(∀c∈l,AF c.2=0->KJ c.2<=d)->Fe l<=(d+1)*l.length
 |[],_=>Nat.zero_le _
 |c::l,h=>by
  have h1:=SZ l fun x hx=>h x (qh _ hx)
  have h2:=h c (qk ..);rw[Fe,zl,Nat.mul_add];split
  ·next k=>have:=h2 k;omega
  ·omega
theorem WW{l:List BB}(h:Io l=true):l.length<=1000/\(∀c∈l,c.2.length<=1000000)/\(64<l.length\/Fe l<=1300):=by
 unfold Io at h;rw[zd,zd,ye,w5,w5,w5,qf]at h;exact⟨h.1.1,fun c hc=>w6 (h.1.2 c hc),h.2⟩
theorem Lv{l:List BB}(h:Cs l 10 9=true):Io l=true:=by
 obtain⟨h1,h2,h3⟩:=Jb (n:=10) (d:=9) h;have h4:=SZ (d:=9) l fun c hc=>(h3 c hc).2
 unfold Io;rw[zd,zd,ye,w5,w5,w5,qf];exact⟨⟨by omega,fun c hc=>w4 (by have:=(h3 c hc).1;omega)⟩,by omega⟩
theorem qX{o:Option Int}{c:BB}(h:Ch o c=0):isNum c.1=true/\AF c.2=0/\0<AQ c.2/\S8 c.2=true/\mF o c.1=false:=by
 unfold Ch at h;split at h
 ·cases h
 next h1=>
 split at h
 ·next h2=>exact wh h h2
 next h2=>
 split at h
 ·cases h
 next h3=>
 split at h
 ·cases h
 next h4=>
 split at h
 ·cases h
 next h5=>
 exact⟨by simpa using h1,by simpa using h2,Rat.not_le.1 h3,by simpa using h4,by simpa using h5⟩
theorem EL{n:Int}(h:isNum n=true): -999999999<=n/\n<=999999999:=by
 unfold isNum at h;rwa [zd,w5,w5]at h
theorem GK(o:Option Int)(s:Rat)(c:BB)(l:List BB):Fb o s (c::l)=if Ch o c≠0 then Ch o c else Fb (some c.1) (s+AQ c.2) l:=by rw[Fb]
theorem O9:∀ {l:List BB} {o:Option Int} {s:Rat},Fb o s l=0->∀c∈l,isNum c.1=true/\AF c.2=0/\0<AQ c.2/\S8 c.2=true
 |[],_,_,_,c,hc=>by cases hc
 |x::l,o,s,h,c,hc=>by
  rw[GK]at h;split at h
  ·next k=>exact wh h k
  next k=>
  have k:Ch o x=0:=by simpa using k
  rcases jd.1 hc with rfl|hc
  ·have:=qX k;exact⟨this.1,this.2.1,this.2.2.1,this.2.2.2.1⟩
  ·exact O9 h c hc
theorem G2{l:List BB}(h:AJ l=0):l≠[]/\l.length<=64/\Fb none 0 l=0:=by
 unfold AJ at h;split at h
 ·cases h
 next h1=>
 split at h
 ·cases h
 next h2=>
 exact⟨h1,by omega,h⟩
end Go.Sp
namespace Go.Pe
open Sp
open Go.Det
section
open List Int Prod
namespace T111
def T(n:Int):Tr:=tree sS false 9 111 (Af ([zt qo]) n)
theorem Am(n:Int):T n=let a':=zk (zt zg);.ite true (.ite true (.leaf (PV.agg [.dat i64 n,.dat a' (BA n),.dat i64 (1:Int),.dat a' (BA 1)]) ([(zo (zo 0 1) 1,.box [.dat i64 n,.dat a' (BA n),.dat i64 (1:Int),.dat a' (BA 1)]),(zo 0 1,.box [.dat i64 n,.dat a' (BA n)]),(0,.box [.dat i64 n,.dat a' (BA n),.dat i64 (1:Int),.dat a' (BA 1)])])) .fail) .fail:=by kernel_rfl
end T111
namespace T44
def T(a:List UInt8):Tr:=tree XY1 false 9 44 (Af ([zi]) a)
theorem Am(a:List UInt8):T a=.ite (BT a&&BT [(49:UInt8),(47:UInt8),(50:UInt8)]) (.leaf (.dat zi (YX a [(49:UInt8),(47:UInt8),(50:UInt8)])) []) .fail:=by kernel_rfl
end T44
namespace T214
def T(s t:List UInt8):Tr:=tree XX0 false 9 214 (Af ([zi,zi]) (s,t))
theorem Am(s t:List UInt8):T s t=let a':=(length t:Int);let b':=decide (toNat a'<=length s);.ite (decide ((length s:Int)>=a')) (.ite (decide (0<=a')&&decide (0<=toNat a')&&b') (.ite (take (toNat a') s==t) (.ite (decide (0<=a')&&true&&b'&&decide (length s<=length s)) (.leaf (.dat zi (take (Nat.sub (length s) (toNat a')) (drop (toNat a') s))) []) .fail) (.leaf (.dat zi s) [])) .fail) (.leaf (.dat zi s) []):=by kernel_rfl
end T214
namespace T248
def T(a:Int×List Int):Tr:=tree XX1 false 9 248 (Af ([zw i64 (zk (zt zg))]) a)
theorem Am(a:Int×List Int):T a=let c':=[(0,.box [.dat i64 (fst a),.dat (zk (zt zg)) (snd a)])];let d':=Bq (Ae (z7 (fst a,snd a)));let a':=(↑(length d'):Int);let b':=getD d' (toNat (ze .i64 (a'-1))) 0;.ite (Dk (fst a,snd a)) (.ite (a'==0) (.leaf (.dat i64 (0:Int)) c') (.ite (decide (0<=ze .i64 (a'-1))&&decide (ze .i64 (a'-1)<a')) (.ite (Sp.u64 b') (.leaf (.dat i64 (ze .i64 (ze .i64 (64*ze .i64 (a'-1))+EP b'))) c') .fail) .fail)) .fail:=by kernel_rfl
end T248
namespace T199
def T(a:Int×List Int):Tr:=tree yI false 9 199 (Af ([zw i64 (zk (zt zg))]) a)
theorem Am(a:Int×List Int):T a=let a':=[(0,.box [.dat i64 (fst a),.dat (zk (zt zg)) (snd a)])];let b':=AW (z7 (fst a,snd a));.ite (A4 (fst a,snd a)) (.ite (decide (Of (fst a,snd a)>1800)) (.ite (A4 (fst a,snd a)) (.ite (Sd b' [(45:UInt8)]) (.leaf (.dat ym (decide ((↑(length (AZ b')):Int)>600))) a') .fail) .fail) (.leaf (.bl false) a')) .fail:=by kernel_rfl
end T199
namespace T131
def T(a:(Int×List Int)×Int×List Int):Tr:=tree XX2 false 9 131 (Af ([zw (zw i64 (zk (zt zg))) (zw i64 (zk (zt zg)))]) a)
theorem Am(a:(Int×List Int)×Int×List Int):T a=let b':=zk (zt zg);let c':=(fst (fst a),snd (fst a));let d':=(fst (snd a),snd (snd a));let a':=[(0,.box [.dat i64 (fst (fst a)),.dat b' (snd (fst a)),.dat i64 (fst (snd a)),.dat b' (snd (snd a))])];.ite (A4 c') (.ite (En c') (.leaf (.bl true) a') (.ite (A4 d') (.leaf (.dat ym (En d')) a') .fail)) .fail:=by kernel_rfl
end T131
namespace T132
def T(a:(Int×List Int)×Int×List Int):Tr:=tree XX2 false 9 132 (Af ([zw (zw i64 (zk (zt zg))) (zw i64 (zk (zt zg)))]) a)
theorem Am(a:(Int×List Int)×Int×List Int):T a=let b':=(fst (fst a),snd (fst a));let c':=(fst (snd a),snd (snd a));let d':=zk (zt zg);let a':=[(0,.box [.dat i64 (fst (fst a)),.dat d' (snd (fst a)),.dat i64 (fst (snd a)),.dat d' (snd (snd a))])];.ite true (.ite (CN c') (.ite (A4 b') (.leaf (.dat zi (AW (z7 b'))) a') .fail) (.ite (A4 b') (.ite (decide (length (AW (z7 b'))+1<=4611686018427387904)) (.ite (A4 c') (.ite (decide (length (AW (z7 b')++[(47:UInt8)])+length (AW (z7 c'))<=4611686018427387904)) (.leaf (.dat zi (AW (z7 b')++[(47:UInt8)]++AW (z7 c'))) a') .fail) .fail) .fail) .fail)) .fail:=by kernel_rfl
end T132
namespace T103
def T(a:(Int×List Int)×Int×List Int):Tr:=tree zP false 9 103 (Af ([zw (zw i64 (zk (zt zg))) (zw i64 (zk (zt zg)))]) a)
theorem Am(a:(Int×List Int)×Int×List Int):T a=let b':=((fst (fst a),snd (fst a)),fst (snd a),snd (snd a));let c':=zk (zt zg);let a':=[(0,.box [.dat i64 (fst (fst a)),.dat c' (snd (fst a)),.dat i64 (fst (snd a)),.dat c' (snd (snd a))])];.ite (jg b') (.ite (DO b') (.leaf (.tup [.dat zi [],.dat i64 (4:Int)]) a') (.ite (jg b') (.leaf (.tup [.dat zi (Ft b'),.dat i64 (0:Int)]) a') .fail)) .fail:=by kernel_rfl
end T103
namespace T110
def T(a:(Int×List Int)×Int×List Int):Tr:=tree XX3 false 9 110 (Af ([zw (zw i64 (zk (zt zg))) (zw i64 (zk (zt zg)))]) a)
theorem Am(a:(Int×List Int)×Int×List Int):T a=let a':=zk (zt zg);let b':=(fst (fst a),snd (fst a));.ite (Dk b') (.leaf (.dat i64 (EN b')) ([(0,.box [.dat i64 (fst (fst a)),.dat a' (snd (fst a)),.dat i64 (fst (snd a)),.dat a' (snd (snd a))])])) .fail:=by kernel_rfl
end T110
end
namespace T200
variable {Q:PV->Ob->Prop}
theorem Al(neg:Bool)(V:Nat)(h0:0<V)(hV:Small V)(hG:(Cf (V+1) V).length<=1000000)(hfin:Exit neg (Cf (V+1) V) Q):Ends P7 (L1 neg (Bq (V:Int)) 1 [1000000000000000000]) Q:=by
 have hlt:V % 10^18<10^18:=je _ (by decide);have hg:∀s,s=(if V/10^18=0 then zc (V % 10^18)else FY 18 (V % 10^18))->[s]++(if V/10^18=0 then[]else Cf V (V/10^18))=Cf (V+1) V:=by
  rintro s rfl;have eg:Cf (V+1) V=if V<10^18 then[zc V]else FY 18 (V % 10^18)::Cf V (V/10^18):=rfl
  rw[eg];by_cases c:V<10^18
  ·rw[wd c,wd (by omega),wd (by omega),Nat.mod_eq_of_lt c];rfl
  ·rw[wc c,wc (by omega),wc (by omega)];rfl
 have next:∀s,s=(if V/10^18=0 then zc (V % 10^18)else FY 18 (V % 10^18))->Ends P7 (L2 neg (Bq ((V/10^18:Nat):Int)) 1 1 [s] [1000000000000000000]) Q:=
  fun s hs=>A2 neg _ hG hfin V (V/10^18) [s] (by omega) (hV.le (qx _ _)) (hg s hs)
 refine Ends.An (Ap ..) (zf (w4 (by have:=I9 h0;omega)) (zf (Ac rfl hV.div) ?_));rw[Tm,UF];rcases yj (V % 10^18)with r0|r0
 ·have q0:V/10^18≠0:=by omega
  rw[r0,show((0:Nat):Int)=0 from rfl,Ka];refine jc rfl (zf (w4 (by have:=I9 (V:=V/10^18) (by omega);omega)) (zf rfl (zf rfl (zf rfl (next _ ?_)))));have hp:=RJ 0 (by decide);rw[yg (by omega)]at hp;rw[wc q0,r0, <-hp];rfl
 ·rw[UO (r:=((V % 10^18:Nat):Int)) (by omega) (by omega)];have hgd:jh [((V % 10^18:Nat):Int)] 0 0=((V % 10^18:Nat):Int):=rfl;rw[hgd,Mm];have hd:=Ry hlt;have hr18:((V % 10^18:Nat):Int)<1000000000000000000:=by omega
  have h18:0<(zc (V % 10^18)).length:=by
   rw[zr,qz];split<;>omega
  refine zf rfl (zf rfl (zf (Ac (Ac (w4 (Int.natCast_nonneg _)) (w4 hr18)) rfl) ?_));rw[wr _ (by omega) (by omega)];by_cases q0:V/10^18=0
  ·rw[q0];refine jc (by rw[show((0:Nat):Int)=0 from rfl,Ka];rfl) (zf rfl ?_);have:=next _ rfl;rw[wd q0,q0]at this;exact this
  ·have hpad:=RJ _ hlt;refine zf (w4 (by have:=I9 (V:=V/10^18) (by omega);omega)) (zf (Ac (Ac (w4 (by omega)) (w4 (by omega))) rfl) (zf (w4 ?_) (zf rfl (next _ ?_))))
   ·rw[<-zh,hpad];unfold FY;rw[zh,List.length_replicate];omega
   ·rw[wc q0];exact hpad
end T200
theorem tB(n:Nat):(18446744073709551616:Nat)^n<=10^(20*n):=by
 rw[Nat.pow_mul];exact Nat.pow_le_pow_left (by decide) n
theorem Z7{V k:Nat}(h:(V:Int)<(Ai:Int)^k):V<18446744073709551616^k:=by
 rw[<-SU k]at h;exact qi.mp h
theorem Zb{V k:Nat}(h:(V:Int)<(Ai:Int)^k)(hk:1<=k):(zc V).length<=20*k:=by
 rw[zr];obtain⟨j,hj⟩:∃j,20*k=j+1:=⟨20*k-1,by omega⟩;have h3:=yn (Z7 h) (tB k);rw[hj]at h3 ⊢;exact M6 j V h3
theorem HI{V:Nat}(h:Small V):(zc V).length<=180000:=Zb (k:=9000) h.h (by decide)
theorem Mk:∀(f v:Nat) (s:List UInt8),s∈Cf f v->0<s.length
 |0,v,s,h=>by cases h
 |f+1,v,s,h=>by
  have eg:Cf (f+1) v=if v<10^18 then[zc v]else FY 18 (v % 10^18)::Cf f (v/10^18):=rfl
  have hd:∀r,0<(zc r).length:=fun r=>by rw[zr,qz];split<;>omega
  rw[eg]at h;split at h
  ·rw[y7]at h;subst h;exact hd _
  ·rcases jd.1 h with rfl|h
   ·unfold FY;rw[zh];have:=hd (v % 10^18);omega
   ·exact Mk f _ s h
theorem N6:∀(l:List (List UInt8)),(∀s∈l,0<s.length)->l.length<=l.flatten.length
 |[],_=>yb _
 |s::l,h=>by
  have h1:=N6 l fun x hx=>h x (qh _ hx)
  have h2:=h s (qk ..);rw[qn,zh,zl];omega
theorem ZY{V:Nat}(h:0<V):AW (-(V:Int))=45::zc V:=Lib.itoa_neg V h
theorem oD(hfmt:Ag Bh 249 TG):D3 P7:=Aa mK (Aa (T218.ok Fi) (Aa QD (Aa hfmt (Aa ZQ AO))))
namespace T200
variable {Q:PV->Ob->Prop}
theorem ZK(neg:Bool){V:Nat}(hV:Small V)(hq:∀ob,Q (.dat .str (if neg=true then 45::zc V else zc V)) ob):Exit neg (Cf (V+1) V) Q:=by
 have hne:=Mk (V+1) V;have ht:=IA (V+1) V (by omega);have hd:=HI hV;have hl:=N6 _ hne;have hr:(Cf (V+1) V).flatten.length=(zc V).length:=by
  rw[<-ht,yx,yx,List.map_reverse,List.sum_reverse]
 have hpos:0<(Cf (V+1) V).length:=by
  have eg:Cf (V+1) V=if V<10^18 then[zc V]else FY 18 (V % 10^18)::Cf V (V/10^18):=rfl
  rw[eg];split<;>simp
 generalize Cf (V+1) V=G at*;unfold Exit;refine ql (fun c=>zf rfl (zf rfl ?_)) (fun c=>?_)
 ·rw[wd c]at hq;rw[wr _ (by omega) (by omega)];exact EC G (45::zc V) (by rw[zl];omega) (by omega) hq G.length [45] _ 1 (yb _) rfl rfl (by decide) (by rw[List.take_length,ht];rfl)
 ·rw[wc (by rw[c];decide)]at hq;rw[wr _ (by omega) (by omega)];obtain⟨i,hi⟩:∃i,i+1=G.length:=⟨G.length-1,by omega⟩;exact Ff G (zc V) (by omega) (by omega) hq i hi _ (by omega) (hne _ (List.getElem_mem _)) ht
theorem ok(hfmt:Ag Bh 249 TG):Ag Bh 200 sX:=by
 refine Lb (X:=P7) rfl (oD hfmt) (d:=9) (by kernel_rfl) (by kernel_rfl) (by kernel_rfl) (fun(a:Int×List Int) ha=>?_) (Bl (by kernel_rfl));have ha:A4 a=true:=ha;have hk:=(Ce ha).1;have hr:=(DT hk).1;refine qp (Am a) (ql (fun c=>zf (C4 hr.1 hr.2) (z8 (qt rfl rfl ?_))) (fun c=>zf hk ?_))
 ·have c:a.2=[]:=by simpa using c
  show AW a.1=AW (z7 a);rw[Bi c]
 ·have c:a.2≠[]:=by rintro k;rw[k]at c;simp at c
  have hb:=bounds ha;have hbig:(9223372036854775808:Int)<=Ae (z7 a):=by
   obtain⟨_,hw⟩:=DT hk;obtain⟨s,w⟩:=a;rcases hw with hw|⟨_,_,h3⟩
   ·exact wh hw c
   ·rw[WH c,Ah];have h3:9223372036854775808<=Ak w:=h3;split<;>omega
  obtain⟨V,hV⟩:=qc (AE (z7 a));have hVa:=Ah (z7 a);rw[hV]at hb hbig hVa ⊢;have hs:Small V:=⟨hb⟩;have hd:=HI hs;have hp:0<V:=by omega
  have hl:=N6 _ (Mk (V+1) V);have ht:=IA (V+1) V (by omega);have hlen:(Cf (V+1) V).flatten.length=(zc V).length:=by
   rw[<-ht,yx,yx,List.map_reverse,List.sum_reverse]
  refine Al _ V hp hs (by omega) (ZK _ hs fun ob=>qt rfl rfl ?_);show(if decide (z7 a<0)=true then 45::zc V else zc V)=AW (z7 a);by_cases n:z7 a<0
  ·rw[wd (w4 n),show z7 a= -(V:Int)from by omega,ZY hp]
  ·rw[wc (by simpa using n),show z7 a=(V:Int)from by omega,Mm]
end T200
end Go.Pe
namespace Go.Sp
theorem Dw{a:Bool×List Int}(h:CM a=true):A5 a.2=true/\a.2.length<=3000/\(a.1=true->a.2≠[]):=by
 unfold CM at h;rw[zd,zd,w5,ye,w5,Bool.not_eq_true']at h;refine⟨h.1.1,h.1.2,fun k=>?_⟩;rcases h.2 with x|x
 ·rw[k]at x;cases x
 ·exact x
theorem GA{a:Bool×List Int}(h:CM a=true):Ae (vR a)=Ar a.2/\0<=Ar a.2:=by
 obtain⟨h1,h2,h3⟩:=Dw h;have h0:=Ax (b:=B9) (by decide) (Bk h1).2.1;have h0:0<=Ar a.2:=h0;refine⟨?_,h0⟩;unfold vR;rw[Ah];split<;>omega
theorem PQ{a:Bool×List Int}(h:CM a=true):a.1=rN (vR a):=by
 obtain⟨h1,h2,h3⟩:=Dw h;obtain⟨_,h0⟩:=GA h;unfold rN vR;cases ha:a.1 with
 |false=>rw[wc (by decide)];symm;rw[w9];omega
 |true=>
  rw[wd rfl];symm;rw[w5];have:=IU (b:=B9) (by decide) (Bk h1).2.1 (Bk h1).2.2 (h3 ha);have:0<Ar a.2:=this;omega
theorem tK{a:Bool×List Int}(h:CM a=true):a.2=rW (vR a):=by
 unfold rW;rw[(GA h).1];exact Ie (b:=B9) (by decide) (Bk (Dw h).1).2.1 (Bk (Dw h).1).2.2
theorem rS{a:Bool×List Int}(h:CM a=true):a=(rN (vR a),rW (vR a)):=Prod.ext (PQ h) (tK h)
theorem Wi(k:Nat):(B9:Int)^k=10^(9*k):=by
 have:(B9:Int)=10^9:=by decide
 rw[this, <-Int.pow_mul]
theorem lZ{n:Int}{k:Nat}(h:n.natAbs<10^(9*k)):Ae n<(B9:Int)^k:=by
 rw[Ah,Wi];have:((10^(9*k):Nat):Int)=(10:Int)^(9*k):=by simp
 rw[<-this];exact qi.mpr h
theorem Nc(n:Int):0<=Ae n:=by rw[Ah];omega
theorem J3(n:Int):Ar (rW n)=Ae n:=CS (b:=B9) (by decide) (Nc n)
theorem EH(n:Int):vR (rN n,rW n)=n:=by
 unfold vR;show(if rN n=true then -Ar (rW n)else Ar (rW n))=n;rw[J3,Ah];unfold rN;by_cases h:n<0
 ·rw[wd (w4 h)];omega
 ·rw[wc (by simpa using h)];omega
theorem RS{n:Int}(h:n.natAbs<10^27000):CM (rN n,rW n)=true:=by
 have k:27000=9*3000:=rfl;rw[k]at h;obtain⟨h1,_,h3,h4⟩:=GN (n:=Ae n) (k:=3000) (Nc n) (lZ h) (by decide);unfold CM;have h5:A5 (rW n)=true:=h1;have h6:(rW n).length<=3000:=h4;rw[h5,w4 h6];cases hb:rN n with
 |false=>rfl
 |true=>
  have:rW n≠[]:=by
   intro e;have h7:=J3 n;rw[e]at h7;have h7:0=Ae n:=h7;unfold rN at hb;have hb:=w6 hb;rw[Ah]at h7;omega
  rw[w4 this];rfl
theorem dP(k:Nat):((10^k:Nat):Int)=(10:Int)^k:=by rw[yq];rfl
theorem wJ{x:Nat}(j k:Nat)(h:j<=k)(hx:x<10^j):x<10^k:=yn hx (yv (by decide) h)
theorem vD{a:Bool×List Int}(h:CM a=true):(vR a).natAbs<10^27000:=by
 obtain⟨h1,h2,h3⟩:=Dw h;have h4:=Bo (b:=B9) (by decide) (Bk h1).2.1;have h5:(B9:Int)^a.2.length<=(B9:Int)^3000:=AH (by decide) h2;have h6:Ae (vR a)<(B9:Int)^3000:=by rw[(GA h).1];exact yo h4 h5
 rw[Ah,Wi]at h6;have:=dP (9*3000);rw[<-this]at h6;have k:27000=9*3000:=rfl;rw[k];exact qi.mp h6
theorem jO{neg:Bool}{w:List Int}{n:Int}(hd:Au B9 w)(hv:Ar w=Ae n)(hn:n≠0->neg=rN n):(B7 neg w,As w)=(rN n,rW n):=by
 have h:=Go.Pe.LJ (neg:=neg) hd hv;rw[h];have:(if neg=true then -Ae n else Ae n)=n:=by
  by_cases h0:n=0
  ·rw[h0];unfold Ae;split<;>simp
  ·rw[hn h0];unfold rN;rw[Ah];by_cases h:n<0
   ·rw[wd (w4 h)];omega
   ·rw[wc (by simpa using h)];omega
 rw[this]
theorem DK{s:List UInt8}(h:BT s=true):CM (Bx s,Br s)=true/\vR (Bx s,Br s)=A6 s/\CM (Bg s,Bc s)=true/\vR (Bg s,Bc s)=AG s/\(AQ s).num=A6 s/\((AQ s).den:Int)=AG s/\Hn s=true/\(A6 s).natAbs<10^4000/\(AG s).natAbs<10^4000:=by
 obtain⟨h1,h2⟩:=Gq h;obtain⟨s1,s2⟩:=Nk h;have e:(AQ s).num=A6 s/\((AQ s).den:Int)=AG s:=by
  have:=Hk (AQ s);rw[h1]at this;exact⟨this.1.symm,this.2.symm⟩
 have l1:(A6 s).natAbs<10^4000:=by rw[<-e.1];exact s1
 have l2:(AG s).natAbs<10^4000:=by rw[<-e.2,zj];exact s2
 have m:∀x:Nat,x<10^4000->x<10^27000:=fun x hx=>wJ 4000 27000 (by decide) hx
 refine⟨RS (m _ l1),EH _,RS (m _ l2),EH _,e.1,e.2,?_,l1,l2⟩;obtain⟨c1,c2,c3⟩:=EI (AQ s);rw[h1]at c1 c2 c3;have k1:=Go.Pe.T77.Dl s;unfold Hn Ee;rw[w4 (p:=s.length<=5999) (by omega),w4 (p:=(Aw s).length<=5999) (by omega),w4 (p:=(AM s).length<=5999) (by omega),yz,yz,Bool.and_true,zd];refine⟨?_,?_⟩
 ·obtain⟨i1,i2,i3,i4⟩:=DQ (AQ s).num;rw[c1];unfold AZ at i2;split at i2
  ·next c=>rw[wd c,i2];exact DL _
  ·next c=>rw[wc c,i2];exact DL _
 ·rw[c2];split
  ·rfl
  ·rw[wc (Fj (DL _))];exact DL _
end Go.Sp
namespace Go.Pe
open Sp
open Go.Det
theorem Wh{x:Int}{k:Nat}(h:x.natAbs<10^k):Ae x<(Ai:Int)^k:=by
 have h4:((10^k:Nat):Int)=(10:Int)^k:=yq ..;rw[Ah];refine yo ?_ (gD k);rw[<-h4];exact qi.mpr h
theorem Cd{q:Rat}{k:Nat}(h:Dq k q)(hk:k<=4000):ZR 4000 q:=by
 obtain⟨h1,h2⟩:=h.mono hk;have h3:=Wh (k:=4000) (x:=(q.den:Int)) (by rw[zj];exact h2);rw[Ah,zj]at h3;exact⟨Wh h1,h3⟩
def frS(s:List UInt8):AS:=((WO s,V3 s),(Si s,Rk s))
theorem T3{s:List UInt8}(h:BT s=true):E3 (frS s) (AQ s):=by
 obtain⟨_,_,_,_,e1,e2,_,l1,l2⟩:=DK h;have m:∀x:Int,x.natAbs<10^4000->Ae x<(Ai:Int)^9000:=fun x hx=>yo (Wh hx) (AH (by decide) (by decide))
 exact⟨(Ce (FG (Di (m _ l1)))).1,(Ce (FG (Di (m _ l2)))).1,(JB _).trans e1.symm,(JB _).trans e2.symm⟩
theorem aI{d:AR}(h:Dk d=true):CN d=decide (z7 d=1):=by
 unfold CN;rw[Bool.eq_iff_iff,zd,w5,w5,w5];refine⟨fun⟨h1,h2⟩=>by rw[Bi h1];exact h2,fun e=>?_⟩;by_cases c:d.2=[]
 ·rw[Bi c]at e;exact⟨c,e⟩
 ·obtain⟨_,hw⟩:=DT h;obtain⟨s,w⟩:=d;rcases hw with hw|⟨_,_,h3⟩
  ·exact wh hw c
  ·rw[WH c]at e;have h3:9223372036854775808<=Ak w:=h3;split at e<;>omega
theorem Qs{f:AS}{q:Rat}(h:E3 f q):DO f=Me q:=by
 unfold DO En Me;rw[h.vn,h.vd]
theorem Tc{f:AS}{q:Rat}(h:E3 f q):Ft f=Az q:=by
 unfold Ft Az;rw[aI h.d,h.vn,h.vd];have e:decide ((q.den:Int)=1)=true↔q.den=1:=by rw[w5];omega
 by_cases c:q.den=1
 ·rw[wd (e.2 c),wd c];rfl
 ·rw[wc (fun k=>c (e.1 k)),wc c];show zq q.num++47::zq ((q.den:Nat):Int)=_;rw[qw]
theorem WY{f:AS}{q:Rat}(h:E3 f q):MX f=gT 0 q/\MZ f=gN 0 q:=by
 unfold MX MZ gT gN;rw[Qs h,Tc h];exact⟨rfl,rfl⟩
theorem E3.DB{f:AS}{q:Rat}(h:E3 f q)(hs:ZR 4000 q):jg f=true:=by
 have:=h.FO hs;unfold Sp.FO at this;rw[zd]at this;exact this.1
theorem E3.cmp{f g:AS}{p q:Rat}(hf:E3 f p)(hg:E3 g q):bN f g=if p<q then -1 else if q<p then 1 else 0:=by
 unfold bN BO;rw[hf.vn,hf.vd,hg.vn,hg.vd];have h1:p<q↔p.num*(q.den:Int)<q.num*(p.den:Int):=Rat.lt_iff ..;have h2:q<p↔q.num*(p.den:Int)<p.num*(q.den:Int):=Rat.lt_iff ..;by_cases c:p<q
 ·rw[wd c,wd (h1.1 c)]
 ·rw[wc c,wc (fun k=>c (h1.2 k))];by_cases d:q<p
  ·rw[wd d,wd (h2.1 d)]
  ·rw[wc d,wc (fun k=>d (h2.2 k))]
end Go.Pe
namespace Go.Sp
theorem dY{n:Int}(h:0<=n):n+1<=2^(EP n).toNat:=by
 unfold EP;split
 ·have:n=0:=by omega
  subst this;decide
 ·have hb:=Nat.lt_log2_self (n:=n.toNat);have e:((n.toNat.log2:Int)+1).toNat=n.toNat.log2+1:=by omega
  have e2:((2^(n.toNat.log2+1):Nat):Int)=(2:Int)^(n.toNat.log2+1):=yq ..;rw[e, <-e2];generalize 2^(n.toNat.log2+1)=P at*;omega
theorem tQ{w:List Int}(hd:Au Ai w){k:Nat}(hl:w.length=k+1):val Ai w<(Ai:Int)^k*(w.getD k 0+1):=by
 have h1:=Ca (Ai:Int) w k (by omega);have h2:=Bo (b:=(Ai:Int)) (by decide) (AK hd k);rw[List.length_take,Nat.min_eq_left (by omega)]at h2;have h3:w.drop k=[w.getD k 0]:=by
  rw[Cb (by omega),qv (by omega)]
 rw[h3]at h1;have h4:val Ai [w.getD k 0]=w.getD k 0:=by
  show w.getD k 0+(Ai:Int)*0=_;omega
 rw[h4]at h1;rw[Int.mul_add,Int.mul_one];omega
theorem Wk(k:Nat):((10^k:Nat):Int)=(10:Int)^k:=by rw[yq];rfl
theorem iN(k:Nat):2^(3*k)<=10^k:=by rw[Nat.pow_mul];exact Nat.pow_le_pow_left (by decide) k
theorem cM(k:Nat):(2:Int)^(3*k)<=10^k:=by
 have h2:((2^(3*k):Nat):Int)<=((10^k:Nat):Int):=Int.ofNat_le.2 (iN k);rw[yq,yq]at h2;exact h2
theorem lN:(2:Int)^1800<=10^600:=by
 have h:=cM 600;have k:3*600=1800:=rfl;rw[k]at h;exact h
theorem pF{a:AR}(h:Of a<=1800):En a=false:=by
 have a0:0<=Ae (vI a):=by rw[Ah];omega
 have hv:=CS (b:=Ai) (by decide) a0;have hd:=Fh (b:=Ai) (by decide) (Ae (vI a));have key:Ae (vI a)<2^1800:=by
  unfold Of at h;have hv:val Ai (Bq (Ae (vI a)))=Ae (vI a):=hv;have hd:Au Ai (Bq (Ae (vI a))):=hd;generalize Bq (Ae (vI a))=w at*;rw[<-hv];by_cases hw:w=[]
  ·subst hw;show(0:Int)<_;exact Int.pow_pos (by decide)
  ·rw[wc hw]at h;obtain⟨k,hk⟩:∃k,w.length=k+1:=⟨w.length-1,by have:=List.length_pos_iff.2 hw;omega⟩;have ht:=tQ hd hk;have g:=JW (b:=(Ai:Int)) (by decide) hd k;have hp:=dY g.1;have hl:=(Go.Pe.R9 g.1 (by have:(Ai:Int)=18446744073709551616:=rfl;omega)).1;rw[hk,Nat.add_sub_cancel,show((k+1:Nat):Int)-1=(k:Int)by omega]at h;have hB:(0:Int)<(Ai:Int)^k:=AN (by decide) k;have h5:=Int.mul_le_mul_of_nonneg_left hp (Int.le_of_lt hB);have e1:(Ai:Int)^k=2^(64*k):=by
    have:(Ai:Int)=2^64:=by decide
    rw[this, <-Int.pow_mul]
   rw[e1, <-Int.pow_add]at h5;rw[e1]at ht;have h6:(2:Int)^(64*k+(EP (w.getD k 0)).toNat)<=2^1800:=AH (by decide) (by omega);exact yo ht (Int.le_trans h5 h6)
 have h7:=yo key lN;unfold En NV;rw[w9];have:(vI a).natAbs<10^600:=by
  rw[Ah]at h7;have e:=Wk 600;rw[<-e]at h7;exact qi.mp h7
 have:=CW this (by decide);omega
end Go.Sp
namespace Go.Pe
open Sp
open Go.Det
theorem lF:D3 XX0:=fun g sp h=>by cases h
theorem T214.ok:Ag Bh 214 Rw:=by
 refine Cn lF (fun(i:List UInt8×List UInt8) hi=>?_);obtain⟨s,t⟩:=i;have hi:(decide (t=[45])&&decide (s.length<=1000000))=true:=hi;rw[zd,w5,w5]at hi;obtain⟨rfl,hl⟩:=hi;have hq:∀v ob,v=AZ s->Ad Rw (s,[45]) (.dat .str v) ob:=fun v ob h=>qt rfl rfl h
 refine qp (T214.Am s [45]) ?_;conv=>zeta
 cases s with
 |nil=>exact jc rfl (z8 (hq _ _ rfl))
 |cons c r=>
  have e1:yr (([(45:UInt8)].length:Nat):Int)=1:=rfl;have e2:qj 1 (c::r)=[c]:=rfl;have e3:qj (Nat.sub (c::r).length 1) (List.drop 1 (c::r))=r:=qd (yb _);have g0:(c::r).getD 0 0=c:=rfl;rw[e1,e2,e3];refine zf (w4 (by simp;omega)) (zf (by simp) (ql (fun d=>zf (by simp) (z8 (hq _ _ ?_))) (fun d=>z8 (hq _ _ ?_))))
  ·have hc:c=45:=by simpa using d
   unfold AZ;rw[g0,wd hc];rfl
  ·have hc:c≠45:=by simpa using d
   unfold AZ;rw[g0,wc hc]
theorem oF:D3 XX1:=Aa (T218.ok Fi) (Aa T247.ok AO)
theorem nB{a:AR}(h:A4 a=true):(Bq (Ae (z7 a))).length<=9000:=by
 have hb:=bounds h;have h0:=AE (z7 a);refine No Ai (by decide) 9000 _ _ ?_;have e:((Ai^9000:Nat):Int)=(Ai:Int)^9000:=SU 9000;rw[<-e]at hb;generalize Ai^9000=P at*;omega
theorem T248.ok:Ag Bh 248 eO:=by
 refine Cn oF (fun(a:Int×List Int) ha=>?_);have ha:A4 a=true:=ha;have hk:=(Ce ha).1;have hl:=nB ha;have hd:=Fh (b:=Ai) (by decide) (Ae (z7 a));have hd:Au Ai (Bq (Ae (z7 a))):=hd;have hq:∀v ob,v=Of a->Ad eO a (.dat i64 v) ob:=fun v ob h=>qt rfl rfl h
 unfold Of at hq;refine qp (T248.Am a) (zf hk ?_);have ea:(Prod.fst a,Prod.snd a)=a:=rfl;rw[ea];generalize Bq (Ae (z7 a))=w at*;refine ql (fun c=>z8 (hq _ _ ?_)) (fun c=>?_)
 ·have:w=[]:=yh.1 (by have:(w.length:Int)=0:=(by simpa using c);omega);rw[wd this]
 ·have c:(w.length:Int)≠0:=by simpa using c
  have hn:w≠[]:=by rintro rfl;exact c rfl
  have g:=AU hd (w.length-1);have e1:ze .i64 ((w.length:Int)-1)=((w.length-1:Nat):Int):=by rw[wr _ (by omega) (by omega)];omega
  have l2:=R9 (Sp.AX g).1 (Sp.AX g).2;rw[e1,yf,wr (64*_) (by omega) (by omega),wr _ (by omega) (by omega)];refine zf (Ac (w4 (by omega)) (w4 (by omega))) (zf g (z8 (hq _ _ ?_)));rw[wc hn];omega
theorem cJ:D3 yI:=Aa T248.ok (Aa (T200.ok cO) (Aa T214.ok AO))
theorem dM(n:Int):AZ (AW n)=zc n.natAbs:=(DQ n).2.1
theorem PD{a:AR}(h:A4 a=true):(AW (z7 a)).length<=180001:=by
 have hb:=bounds h;have ha:=Ah (z7 a);have h1:(zc (z7 a).natAbs).length<=180000:=HI ⟨by rw[<-ha];exact hb⟩;unfold AW zq;split
 ·rw[zl];omega
 ·rw[show(z7 a).toNat=(z7 a).natAbs by omega];omega
theorem T199.ok:Ag Bh 199 Xu:=by
 refine Cn cJ (fun(a:Int×List Int) ha=>?_);have ha:A4 a=true:=ha;have hl:=PD ha;have hq:∀v ob,v=En a->Ad Xu a (.dat .bool v) ob:=fun v ob h=>qt rfl rfl h
 have hqb:∀v ob,v=En a->Ad Xu a (.bl v) ob:=fun v ob h=>qt rfl rfl h
 refine qp (T199.Am a) (zf ha (ql (fun c=>zf ha (zf (Ac (w4 rfl) (w4 (by show(AW (z7 a)).length<=1000000;omega))) (z8 (hq _ _ ?_)))) (fun c=>z8 (hqb _ _ ?_))))
 ·show decide (((AZ (AW (z7 a))).length:Int)>600)=En a;rw[dM];unfold En NV;rw[decide_eq_decide];omega
 ·have c:=w7 c;have c:¬Of a>1800:=c;exact(pF (by omega)).symm
theorem gS{a:AR}(h:M5 a=true):A4 a=true:=by
 unfold M5 at h;rw[zd,w5]at h;unfold A4;rw[h.1,yz];exact w4 (by omega)
theorem jG{a:AS}(h:jg a=true):A4 a.1=true/\A4 a.2=true:=by
 unfold jg at h;rw[zd]at h;exact⟨gS h.1,gS h.2⟩
theorem Xw:D3 XX2:=Aa T199.ok (Aa T156.ok (Aa (T200.ok cO) AO))
theorem T131.ok:Ag Bh 131 SQ:=by
 refine Cn Xw (fun(a:(Int×List Int)×(Int×List Int)) ha=>?_);obtain⟨h1,h2⟩:=jG (a:=a) ha;refine qp (T131.Am a) (zf h1 (ql (fun c=>z8 (qt rfl rfl ?_)) (fun c=>zf h2 (z8 (qt rfl rfl ?_)))))
 ·have c:En a.1=true:=c;show true=(En a.1||En a.2);rw[c];rfl
 ·have c:En a.1=false:=c;show En a.2=(En a.1||En a.2);rw[c];rfl
theorem T132.ok:Ag Bh 132 V9:=by
 refine Cn Xw (fun(a:(Int×List Int)×(Int×List Int)) ha=>?_);obtain⟨h1,h2⟩:=jG (a:=a) ha;have l1:=PD h1;have l2:=PD h2;refine qp (T132.Am a) (zf rfl (ql (fun c=>zf h1 (z8 (qt rfl rfl ?_))) (fun c=>zf h1 (zf (w4 (by show(AW (z7 a.1)).length+1<=_;omega)) (zf h2 (zf (w4 (by rw[zh,List.length_singleton];show(AW (z7 a.1)).length+1+(AW (z7 a.2)).length<=_;omega)) (z8 (qt rfl rfl ?_))))))))
 ·have c:CN a.2=true:=c;show AW (z7 a.1)=Ft a;unfold Ft;rw[wd c]
 ·have c:CN a.2=false:=c;show AW (z7 a.1)++[47]++AW (z7 a.2)=Ft a;unfold Ft;rw[wc (by rw[c];decide),yt];rfl
theorem aU:D3 zP:=Aa T131.ok (Aa T132.ok AO)
theorem T103.ok:Ag Bh 103 YO:=by
 refine Cn aU (fun(a:(Int×List Int)×(Int×List Int)) ha=>?_);refine qp (T103.Am a) (zf ha (ql (fun c=>z8 (qt rfl rfl ?_)) (fun c=>zf ha (z8 (qt rfl rfl ?_)))))
 ·have c:DO a=true:=c;show([],(4:Int))=(MX a,MZ a);unfold MX MZ;rw[wd c,wd c]
 ·have c:DO a=false:=c;show(Ft a,(0:Int))=(MX a,MZ a);unfold MX MZ;rw[wc (by rw[c];decide),wc (by rw[c];decide)]
theorem kS:D3 XX3:=Aa T77.ok (Aa T173.ok AO)
theorem T110.ok:Ag Bh 110 rT:=by
 refine Cn kS (fun(a:(Int×List Int)×(Int×List Int)) ha=>?_);exact qp (T110.Am a) (zf ha (z8 (qt rfl rfl rfl)))
theorem T111.ok:Ag Bh 111 cF:=by
 refine Cn I5 (fun(n:Int) _=>?_);exact qp (T111.Am n) (zf rfl (zf rfl (z8 (qt rfl rfl rfl))))
theorem cP{f:AS}{q:Rat}(h:E3 f q){e:Int}(he:e=0):(MX f,MZ f)=(gT e q,gN e q):=by
 rw[he,(WY h).1,(WY h).2]
theorem Jl(x y:Int):yp [x,y]=if x≠0 then x else y:=by
 by_cases h:x≠0
 ·rw[wd h];unfold yp
  simp[h]
 ·rw[wc h];have h:x=0:=by omega
  subst h;unfold yp yp yp
  simp;intro k;exact k.symm
theorem qV(n:Int):BA n=[]:=by unfold BA;split<;>rfl
theorem Nl{n:Int}(h:CD n=true):A4 (n,BA n)=true/\z7 (n,BA n)=n:=by
 rw[qV];have hr:=Ed h;refine⟨?_,Bi rfl⟩;unfold A4;rw[show Dk (n,([]:List Int))=true from Kx h,yz];rfl
theorem fJ(n:Int)(h:CD n=true):E3 ((n,BA n),(1,BA 1)) (n:Rat):=by
 obtain⟨h1,h2⟩:=Nl h;obtain⟨h3,h4⟩:=Nl (n:=1) rfl;exact⟨(Ce h1).1,(Ce h3).1,h2.trans (Rat.num_intCast n).symm,h4.trans rfl⟩
theorem Aay(n:Int)(h:n.natAbs<10^20):Dq 20 (n:Rat):=by
 unfold Dq;rw[Rat.num_intCast,Rat.den_intCast];exact⟨h,by decide⟩
section
open List Int Prod
namespace T27
def T(a b:List UInt8):Tr:=tree sI false 9 27 (Af ([zi,zi]) (a,b))
def L1(v0 v1:List UInt8):Tr:=re ((T [] []).L.L.L.R) (AD 63 [(0,.dat zi v0),(1,.dat zi v1)] [] 0)
theorem Am(a b:List UInt8):T a b=let a':=ze .i64 (ze .i64 (gK a*TS b)+ze .i64 (gK b*TS a));let b':=ze .i64 (TS a*TS b);.ite (BT a) (.ite (BT b) (.ite (DY a) (.ite (DY b) (.ite (CD a'&&CD b'&&decide (ze .i64 (TS a*TS b)≠0)) (.leaf (.dat zi (C1 a' b')) []) .fail) (L1 a b)) (L1 a b)) .fail) .fail:=by kernel_rfl
theorem Ap(v0 v1:List UInt8):stepT sI (L1 v0 v1)=let b':=(G6 (Bx v0,Br v0) (Bg v1,Bc v1),Hl (Bx v0,Br v0) (Bg v1,Bc v1));let c':=(G6 (Bx v1,Br v1) (Bg v0,Bc v0),Hl (Bx v1,Br v1) (Bg v0,Bc v0));let d':=(G6 (Bg v0,Bc v0) (Bg v1,Bc v1),Hl (Bg v0,Bc v0) (Bg v1,Bc v1));let a':=(MD b' c',Mx b' c');.ite (Hn v0) (.ite (Hn v1) (.ite (CM (Bx v0,Br v0)&&CM (Bg v1,Bc v1)) (.ite (CM (Bx v1,Br v1)&&CM (Bg v0,Bc v0)) (.ite (CM b'&&CM c') (.ite (CM (Bg v0,Bc v0)&&CM (Bg v1,Bc v1)) (.ite (CM a'&&CM d'&&decide (Sp.vR d'≠0)) (.leaf (.dat zi (HM a' d')) ([(zo (zo (zo 0 1) 1) 1,.box [.dat ym (Bg v1),.dat (yc i64) (Bc v1)]),(zo (zo 0 1) 1,.box [.dat ym (Bx v1),.dat (yc i64) (Br v1)]),(zo 0 1,.box [.dat ym (Bg v0),.dat (yc i64) (Bc v0)]),(0,.box [.dat ym (Bx v0),.dat (yc i64) (Br v0)])])) .fail) .fail) .fail) .fail) .fail) .fail) .fail:=by kernel_rfl
end T27
namespace T29
def T(a b:List UInt8):Tr:=tree sI false 9 29 (Af ([zi,zi]) (a,b))
def L1(v0 v1:List UInt8):Tr:=re ((T [] []).L.L.L.R) (AD 55 [(0,.dat zi v0),(1,.dat zi v1)] [] 0)
theorem Am(a b:List UInt8):T a b=let a':=ze .i64 (gK a*gK b);let b':=ze .i64 (TS a*TS b);.ite (BT a) (.ite (BT b) (.ite (DY a) (.ite (DY b) (.ite (CD a'&&CD b'&&decide (ze .i64 (TS a*TS b)≠0)) (.leaf (.dat zi (C1 a' b')) []) .fail) (L1 a b)) (L1 a b)) .fail) .fail:=by kernel_rfl
theorem Ap(v0 v1:List UInt8):stepT sI (L1 v0 v1)=let a':=(G6 (Bg v0,Bc v0) (Bg v1,Bc v1),Hl (Bg v0,Bc v0) (Bg v1,Bc v1));let b':=(G6 (Bx v0,Br v0) (Bx v1,Br v1),Hl (Bx v0,Br v0) (Bx v1,Br v1));.ite (Hn v0) (.ite (Hn v1) (.ite (CM (Bx v0,Br v0)&&CM (Bx v1,Br v1)) (.ite (CM (Bg v0,Bc v0)&&CM (Bg v1,Bc v1)) (.ite (CM b'&&CM a'&&decide (Sp.vR a'≠0)) (.leaf (.dat zi (HM b' a')) ([(zo (zo (zo 0 1) 1) 1,.box [.dat ym (Bg v1),.dat (yc i64) (Bc v1)]),(zo (zo 0 1) 1,.box [.dat ym (Bx v1),.dat (yc i64) (Br v1)]),(zo 0 1,.box [.dat ym (Bg v0),.dat (yc i64) (Bc v0)]),(0,.box [.dat ym (Bx v0),.dat (yc i64) (Br v0)])])) .fail) .fail) .fail) .fail) .fail:=by kernel_rfl
end T29
namespace T94
def T(a:List UInt8):Tr:=tree sI false 9 94 (Af ([zi]) a)
theorem Am(a:List UInt8):T a=.ite (Hn a) (.ite (CM (Bg a,Bc a)&&CM (Bx a,Br a)&&decide (Sp.vR (Bx a,Br a)≠0)) (.leaf (.dat zi (HM (Bg a,Bc a) (Bx a,Br a))) ([(zo 0 1,.box [.dat ym (Bg a),.dat (yc i64) (Bc a)]),(0,.box [.dat ym (Bx a),.dat (yc i64) (Br a)])])) .fail) .fail:=by kernel_rfl
end T94
namespace T28
def T(a b:List UInt8):Tr:=tree XR7 false 9 28 (Af ([zi,zi]) (a,b))
theorem Am(a b:List UInt8):T a b=.ite (decide (length b<=1000000)) (.ite (BT a&&BT (Ld b)) (.leaf (.dat zi (J9 a (Ld b))) []) .fail) .fail:=by kernel_rfl
end T28
namespace T30
def T(a b:List UInt8):Tr:=tree XR8 false 9 30 (Af ([zi,zi]) (a,b))
theorem Am(a b:List UInt8):T a b=.ite (BT a&&Jt b) (.ite (decide (length (Vr a b)<=1000000)) (.leaf (.dat i64 (Fx (Vr a b))) []) .fail) .fail:=by kernel_rfl
end T30
namespace T43
def T(a:List UInt8):Tr:=tree XR8 false 9 43 (Af ([zi]) a)
theorem Am(a:List UInt8):T a=.ite (decide (length a<=1000000)) (.leaf (.dat ym (AV a==(length a:Int))) []) .fail:=by kernel_rfl
end T43
end
end Go.Pe
