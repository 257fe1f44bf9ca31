import Derived.Test.YtknhdhchejmpgaaGreatDoorX11
import Derived.Test.YtknhdhchejmpgaaGreatDoorX13
import Derived.Test.YtknhdhchejmpgaaGreatDoorX07
import Derived.Test.YtknhdhchejmpgaaGreatDoorX10
import Derived.Test.YtknhdhchejmpgaaGreatDoorX09
import Derived.Test.YtknhdhchejmpgaaGreatDoorX12
/- A part of a proof (no law is stated here). Made by program out of texts by AI agents. -/
noncomputable section
open Go.IntKind renaming wrap -> zc, u64 -> zi, i64 -> yh
open Bool renaming and_eq_true -> zd, or_eq_true -> yf, true_and -> qu
open Go.Lib renaming decDigits -> ze, itoa -> zw, decDigits_length -> z6, decDigits_one -> yt, itoa_nonneg -> qz, nDigits -> je
open Go.Pe.Sh renaming list -> zf, str -> zh, bool -> zk, pair -> zo, nlist -> zq, int -> zr
open Go.Pe.Ends renaming tt -> zg, leaf -> ya, ite -> qn, eq -> qt, ff -> jh
open List renaming length_append -> zj, length_cons -> zu, length_map -> z7, length_eq_zero_iff -> yi, map -> yj, append_assoc -> yr, length -> yu, length_flatten -> yy, all_cons -> yz, mem_singleton -> y7, take_of_length_le -> qd, take_succ_eq_append_getElem -> qe, all_eq_true -> qh, mem_cons_of_mem -> qj, take -> ql, mem_cons_self -> qm, drop_eq_getElem_cons -> qp, flatten_cons -> qq, reverse_singleton -> qx, drop_eq_nil_of_le -> qy, mem_cons -> ji, getD -> jm
open Nat renaming add -> zl, le_refl -> yc, ble_eq_true_of_le -> ye, lt_of_lt_of_le -> ym, pow_le_pow_right -> yw, pow_succ -> yx, eq_zero_or_pos -> y8, lt_of_le_of_lt -> y9, div_le_self -> q9, mul_one -> jf, mod_lt -> jj, ble -> jk
open Int renaming natAbs_natCast -> zt, toNat_natCast -> yg, lt_of_lt_of_le -> yn, natCast_pow -> yp, toNat -> yq, natAbs_mul -> yv, eq_ofNat_of_zero_le -> qc, ofNat_lt -> qk, tdiv -> qo, tmod -> jg
open Go.Sp renaming vI -> z8, first -> yo, rN -> qf, rW -> qg, Du -> jl
open UInt8 renaming ofNat -> yb, toNat -> yd
open Rat renaming num_divInt_den -> yk, divInt -> qi, num_intCast -> jc
open Go.Pe.Obj renaming tbox -> qv
open Go.Pe.Ad renaming of -> qw
open Go.Pe renaming DZ -> jd
namespace Go.Sp
open Go.Lib
theorem SD{P:Nat->List UInt8->Prop}(h1:∀d,d<10->P d [yb (48+d)])(h2:∀a d,0<a->d<10->P a (decDigits a)->P (10*a+d) (decDigits a++[yb (48+d)]))(n:Nat):P n (decDigits n):=by
 induction n using Nat.strongRecOn with
 |_ n ih=>
  by_cases h:n<10
  ·rw[decDigits_one h];exact h1 n h
  ·have e:n=10*(n/10)+n % 10:=by omega
   have:=h2 (n/10) (n % 10) (by omega) (jj _ (by decide)) (ih (n/10) (by omega));rw[<-FE _ _ (by omega) (jj _ (by decide)), <-e]at this;exact this
theorem O5:∀d:Fin 10,(yb (48+d.1)).toNat=48+d.1:=by decide
theorem Ko{d:Nat}(h:d<10):BK (yb (48+d))=true/\Hb (yb (48+d))=d:=by
 have e:(yb (48+d)).toNat=48+d:=O5 ⟨d,h⟩;unfold BK Hb;rw[e];refine⟨?_,by omega⟩;rw[w4 (by omega),w4 (by omega)];rfl
theorem dF{c:UInt8}(h:BK c=true):c=yb (48+(Hb c).toNat)/\(Hb c).toNat<10:=by
 obtain⟨h1,h2⟩:=CT h;have hl:(Hb c).toNat<10:=by omega
 refine⟨UInt8.toNat_inj.1 ?_,hl⟩;rw[O5 ⟨(Hb c).toNat,hl⟩];show c.toNat=48+(Hb c).toNat;unfold Hb at*;omega
theorem rA(n:Nat):decDigits n≠[]:=SD (P:=fun _ l=>l≠[]) (fun _ _=>by simp) (fun _ _ _ _ _=>by simp) n
theorem D9(n:Nat):Aj (decDigits n)=true:=by
 refine SD (P:=fun _ l=>Aj l=true) (fun d h=>?_) (fun a d _ h ih=>?_) n
 ·unfold Aj;rw[yz,(Ko h).1];rfl
 ·unfold Aj at*;rw[List.all_append,ih,yz,(Ko h).1];rfl
theorem Sv(n:Nat):Az 0 (decDigits n)=n:=by
 refine SD (P:=fun n l=>Az 0 l=n) (fun d h=>?_) (fun a d _ h ih=>?_) n
 ·show 10*0+Hb (yb (48+d))=d;rw[(Ko h).2];omega
 ·rw[CI,ih];show 10*(a:Int)+Hb (yb (48+d))=_;rw[(Ko h).2];omega
theorem FL{s:List UInt8}(h:AW s=true):s≠[]/\Aj s=true/\(s.getD 0 0≠48\/s=[48]):=by
 unfold AW at h;rw[zd,zd,w5,yf,w5,w5]at h;exact⟨h.1.1,h.1.2,h.2⟩
theorem Iw{s:List UInt8}(h:AW s=true)(h0:s≠[48]):0<Az 0 s:=by
 obtain⟨h1,h2,h3⟩:=FL h;cases s with
 |nil=>exact wh rfl h1
 |cons c r=>
  have g0:(c::r).getD 0 0=c:=rfl;rw[g0]at h3;have hc:c≠48:=by
   rcases h3 with x|x
   ·exact x
   ·exact wh x h0
  unfold Aj at h2;rw[yz,zd]at h2;have hd:=CT h2.1;have hr:Aj r=true:=h2.2;have hb:=Bd hr;show 0<Az (10*0+Hb c) r;rw[Ew];have hp:(0:Int)<10^r.length:=Int.pow_pos (by decide);have hn:c.toNat≠48:=fun x=>hc (UInt8.toNat_inj.1 x)
  have hg:0<10*0+Hb c:=by show 0<10*0+((c.toNat:Int)-48);have hd2:0<=((c.toNat:Int)-48):=hd.1;omega
  have:=Int.mul_pos hg hp;omega
theorem Pk{s:List UInt8}(h:AW s=true):s=decDigits (Az 0 s).toNat:=by
 generalize hn:s.length=n;induction n generalizing s with
 |zero=>exact wh (yi.1 hn) (FL h).1
 |succ n ih=>
  obtain⟨h1,h2,h3⟩:=FL h;obtain⟨t,c,rfl⟩:∃t c,s=t++[c]:=⟨_,_,(List.dropLast_concat_getLast h1).symm⟩;unfold Aj at h2;rw[List.all_append,zd,yz,zd]at h2;obtain⟨h4,h5,_⟩:=h2;obtain⟨b1,b2⟩:=dF h5;obtain⟨d1,_⟩:=CT h5;rw[CI];show t++[c]=decDigits (10*Az 0 t+Hb c).toNat;by_cases ht:t=[]
  ·subst ht;show[c]=decDigits (10*0+Hb c).toNat;rw[show(10*0+Hb c).toNat=(Hb c).toNat by omega,decDigits_one b2, <-b1]
  ·have g:(t++[c]).getD 0 0=t.getD 0 0:=by
    cases t with
    |nil=>exact wh rfl ht
    |cons x r=>rfl
   have h6:t.getD 0 0≠48:=by
    rcases h3 with x|x
    ·rw[g]at x;exact x
    ·have h7:=wi yu x;rw[zj]at h7;have h8:t.length+1=1:=h7;exact wh (yi.1 (by omega)) ht
   have hf:AW t=true:=by
    unfold AW Aj;rw[w4 ht,h4,w4 h6];rfl
   have hp:=Iw hf (fun k=>h6 (by rw[k];rfl));have hi:=ih hf (by rw[zj]at hn;simpa using hn);have e:(10*Az 0 t+Hb c).toNat=10*(Az 0 t).toNat+(Hb c).toNat:=by omega
   rw[e,FE _ _ (by omega) b2, <-hi, <-b1]
theorem tS:∀ {a:List UInt8},(∀c∈a,c≠47)->Ax a=a/\AM a=[]/\Bm a=false:=by
 intro a h;have hc:Bm a=false:=by
  unfold Bm;rw[List.any_eq_false];intro x hx;simpa using h x hx
 exact⟨((Go.Pe.BD a).2.2 hc).1,((Go.Pe.BD a).2.2 hc).2,hc⟩
theorem jI:∀ {a:List UInt8} (b:List UInt8),(∀c∈a,c≠47)->Ax (a++47::b)=a/\AM (a++47::b)=b/\Bm (a++47::b)=true:=by
 intro a b h;have hc:Bm (a++47::b)=true:=by
  unfold Bm;rw[List.any_eq_true];exact⟨47,by simp,rfl⟩
 have ha:∀ {a:List UInt8},(∀c∈a,c≠47)->Ax (a++47::b)=a:=by
  intro a;induction a with
  |nil=>intro _;show Ax (47::b)=[];rw[jd,wd rfl]
  |cons x r ih=>
   intro h;show Ax (x::(r++47::b))=_;rw[jd,wc (h x (by simp)),ih (fun c hc=>h c (qj _ hc))]
 have e:=ha h;refine⟨e,?_,hc⟩;rw[((Go.Pe.BD _).2.1 hc).2,e];simp
theorem P3{s:List UInt8}(h:Aj s=true):∀c∈s,c≠47:=by
 intro c hc e;unfold Aj at h;rw[qh]at h;have:=h c hc;rw[e]at this;exact wh this (by decide)
theorem Fi{s:List UInt8}(h:Aj s=true):s.getD 0 0≠45:=by
 cases s with
 |nil=>decide
 |cons c r=>
  unfold Aj at h;rw[yz,zd]at h;show c≠45;intro e;rw[e]at h;exact wh h.1 (by decide)
def AE(q:Rat):List UInt8:=if q.den=1 then itoa q.num else itoa q.num++47::decDigits q.den
def AP(s:List UInt8):Rat:=qi (A6 s) (AG s)
theorem DU(n:Int):(∀c∈itoa n,c≠47)/\A0 (itoa n)=decDigits n.natAbs/\preB (itoa n)=decide (n<0)/\Cd (itoa n)=n:=by
 unfold itoa;by_cases h:n<0
 ·rw[wd h];refine⟨fun c hc=>?_,rfl,(w4 h).symm,?_⟩
  ·rcases ji.1 hc with rfl|hc
   ·decide
   ·exact P3 (D9 _) c hc
  ·show -Az 0 (decDigits n.natAbs)=n;rw[Sv];omega
 ·rw[wc h];have hm:=Fi (D9 n.toNat);have e:n.toNat=n.natAbs:=by omega
  refine⟨P3 (D9 _),?_,?_,?_⟩
  ·unfold A0;rw[wc hm,e]
  ·unfold preB;rw[w8 hm,w8 h]
  ·unfold Cd;rw[wc hm,Sv];omega
theorem EF(q:Rat):Ax (AE q)=itoa q.num/\AM (AE q)=(if q.den=1 then[]else decDigits q.den)/\Bm (AE q)=decide (q.den≠1):=by
 unfold AE;have h:=(DU q.num).1;by_cases hd:q.den=1
 ·rw[wd hd,wd hd,w8 (not_not_intro hd)];exact tS h
 ·rw[wc hd,wc hd,w4 hd];exact jI _ h
theorem JK(q:Rat):A6 (AE q)=q.num/\AG (AE q)=q.den:=by
 obtain⟨h1,h2,h3⟩:=EF q;unfold A6 AG;rw[h1,h2,h3];refine⟨(DU q.num).2.2.2,?_⟩;by_cases hd:q.den=1
 ·rw[wc (by simpa using hd),hd];rfl
 ·rw[wd (w4 hd),wc hd];unfold Cd;rw[wc (Fi (D9 _)),Sv]
theorem CB(q:Rat):AP (AE q)=q:=by
 unfold AP;rw[(JK q).1,(JK q).2];exact yk q
theorem Qj{p q:Rat}(h:AE p=AE q):p=q:=by
 rw[<-CB p,h,CB]
theorem X0(p q:Rat):decide (AE p=AE q)=decide (p=q):=by
 rw[decide_eq_decide];exact⟨Qj,fun h=>by rw[h]⟩
theorem WQ(a:List UInt8):Ax (A0 a)=A0 (Ax a)/\AM (A0 a)=AM a/\Bm (A0 a)=Bm a/\preB (Ax a)=preB a:=by
 unfold A0 preB;cases a with
 |nil=>exact⟨rfl,rfl,rfl,rfl⟩
 |cons c r=>
  have g0:(c::r).getD 0 0=c:=rfl;rw[g0,jd];by_cases hc:c=45
  ·subst hc;have e:AM (45::r)=AM r:=by
    unfold AM;rw[List.findIdx?_cons];cases r.findIdx? (fun x=>x==47)<;>rfl
   exact⟨rfl,e.symm,rfl,rfl⟩
  ·rw[wc hc];by_cases h7:c=47
   ·subst h7;exact⟨(jd _ _),rfl,rfl,rfl⟩
   ·rw[wc h7];have g1:(c::Ax r).getD 0 0=c:=rfl;rw[g1,wc hc];exact⟨by rw[jd,wc h7],rfl,rfl,rfl⟩
theorem Vy{a:List UInt8}(h:AO a=0):HG a=true/\(Ax (A0 a)).length<=600/\(AM (A0 a)).length<=600/\(Bm (A0 a)=true->gI (tK a) (uC a)=1):=by
 unfold AO at h;cases hf:HG a with
 |false=>rw[wd hf]at h;exact wh h (by decide)
 |true=>
  rw[wc (by rw[hf];decide)]at h;split at h
  ·exact wh h (by decide)
  ·next c=>
   split at h
   ·exact wh h (by decide)
   ·next d=>exact⟨rfl,by omega,by omega,fun k=>Classical.byContradiction fun g=>d ⟨k,g⟩⟩
def ER(k:Nat)(q:Rat):Prop:=q.num.natAbs<10^k/\q.den<10^k
theorem Pc{n d:Int}(hd:0<d)(h:Int.gcd n d=1):(qi n d).num=n/\((qi n d).den:Int)=d:=by
 have hs:d.sign=1:=Int.sign_eq_one_of_pos hd;rw[Rat.num_divInt,Rat.den_divInt,wc (Int.ne_of_gt hd),hs,Int.one_mul,Int.gcd_comm,h];refine⟨Int.ediv_one _,?_⟩;rw[Nat.div_one,Int.natAbs_of_nonneg (Int.le_of_lt hd)]
theorem Pt{s:List UInt8}(h:Aj s=true){k:Nat}(hl:s.length<=k):(Az 0 s).toNat<10^k:=by
 have h1:=Bd h;have h2:(10:Int)^s.length<=10^k:=AH (by decide) hl;have h3:((10^k:Nat):Int)=(10:Int)^k:=by simp
 omega
theorem O0(k:Nat)(h:k≠0):(1:Int).toNat<10^k:=Nat.one_lt_pow h (by decide)
theorem mX:decDigits (yq 1)=[49]:=by rw[show yq 1=1 from rfl,decDigits_one (by decide)];rfl
theorem Zm{s:List UInt8}(h:AO s=0):AE (AP s)=s/\(AP s).num=A6 s/\((AP s).den:Int)=AG s/\ER 600 (AP s):=by
 obtain⟨hf,l1,l2,hg⟩:=Vy h;obtain⟨p1,p2,p3,p4⟩:=WQ s;unfold HG at hf;rw[zd,zd]at hf;obtain⟨⟨fa,fm⟩,fb⟩:=hf;unfold tK uC at hg;obtain⟨A,hA⟩:∃A,A=Ax (A0 s):=⟨_,rfl⟩;obtain⟨B,hB⟩:∃B,B=AM (A0 s):=⟨_,rfl⟩;rw[<-hA]at fa fm l1 hg;rw[<-hB]at fb l2 hg;rw[p3]at fb hg;have dA:=(FL fa).2.1;have ea:=Pk fa;have v0:=Bd dA;have hn:A6 s=(if preB s=true then -Az 0 A else Az 0 A)/\Ax s=(if preB s=true then 45::A else A):=by
  have e1:A=A0 (Ax s):=by rw[hA,p1]
  unfold A6 Cd;rw[<-p4];unfold preB;rw[e1];unfold A0;by_cases hc:(Ax s).getD 0 0=45
  ·rw[wd hc,wd (w4 hc),wd hc,wd (w4 hc)];refine⟨rfl,?_⟩;cases hs:Ax s with
   |nil=>rw[hs]at hc;exact wh hc (by decide)
   |cons c r=>
    rw[hs]at hc;have hc:c=45:=hc;rw[hc];rfl
  ·rw[wc hc,wc (by rw[w8 hc];decide),wc hc,wc (by rw[w8 hc];decide)];exact⟨rfl,rfl⟩
 have hna:(A6 s).natAbs=(Az 0 A).toNat:=by rw[hn.1];split<;>omega
 have hd:0<AG s/\(AG s).toNat<10^600/\Int.gcd (A6 s) (AG s)=1/\(Bm s=true->B=decDigits (AG s).toNat/\AG s≠1)/\(Bm s=false->AG s=1):=by
  unfold AG;rw[<-p2, <-hB];cases hc:Bm s with
  |false=>
   rw[wc (by decide)];exact⟨by decide,O0 600 (by decide),Int.gcd_one,(fun k=>by cases k),fun _=>rfl⟩
  |true=>
   rw[hc]at fb;have fb:(AW B&&decide (B≠[48])&&decide (B≠[49]))=true:=fb;rw[zd,zd,w5,w5]at fb;obtain⟨⟨f1,f2⟩,f3⟩:=fb;have dB:=(FL f1).2.1;have hp:=Iw f1 f2;have er:Cd B=Az 0 B:=by unfold Cd;rw[wc (Fi dB)]
   rw[wd rfl,er];refine⟨hp,Pt (k:=600) dB l2,?_,fun _=>⟨Pk f1,?_⟩,(fun k=>by cases k)⟩
   ·have g:=hg hc;rw[Gr]at g;have g:Int.gcd (Az 0 A) (Az 0 B)=1:=by omega
    rw[hn.1];split
    ·rw[Int.neg_gcd];exact g
    ·exact g
   ·intro e;have:=Pk f1;rw[e]at this;exact f3 (this.trans mX)
 obtain⟨d0,d1,d2,d3,d4⟩:=hd;obtain⟨r1,r2⟩:=Pc (n:=A6 s) d0 d2;have r1:(AP s).num=A6 s:=r1;have r2:((AP s).den:Int)=AG s:=r2;have r3:(AP s).den=(AG s).toNat:=by omega
 refine⟨?_,r1,r2,?_,?_⟩
 ·have ei:itoa (A6 s)=Ax s:=by
   rw[hn.2];unfold itoa;by_cases hb:preB s=true
   ·have hA0:A≠[48]:=by
     have hb2:preB s=true:=hb;rw[hb2]at fm;simpa using fm
    have:=Iw fa hA0;rw[hn.1,wd hb,wd hb,wd (by omega),Int.natAbs_neg];rw[show(Az 0 A).natAbs=(Az 0 A).toNat by omega, <-ea]
   ·rw[hn.1,wc hb,wc hb,wc (by omega), <-ea]
  unfold AE;rw[r1,r3,ei];obtain⟨c1,c2,c3⟩:=Go.Pe.BD s;cases hc:Bm s with
  |false=>
   rw[d4 hc,wd (show yq 1=1 from rfl)];exact(c3 hc).1
  |true=>
   obtain⟨k1,k2⟩:=d3 hc;obtain⟨m1,m2⟩:=c2 hc;rw[wc (by omega), <-k1,hB,p2,m2];have hx:s.drop (Ax s).length=47::s.drop ((Ax s).length+1):=by
    have h0:∀t:List UInt8,Bm t=true->t.drop (Ax t).length=47::t.drop ((Ax t).length+1):=by
     intro t;induction t with
     |nil=>intro h;cases h
     |cons c r ih=>
      intro h;rw[jd];by_cases e:c=47
      ·rw[wd e,e];rfl
      ·rw[wc e];have h2:Bm r=true:=by
        unfold Bm at h ⊢;rw[List.any_cons]at h;simpa [e]using h
       exact ih h2
    exact h0 s hc
   rw[<-hx];conv=>lhs;rw[c1]
   have:=List.take_append_drop (Ax s).length s;rw[<-c1]at this ⊢;exact this
 ·rw[r1,hna];exact Pt (k:=600) dA l1
 ·rw[r3];exact d1
end Go.Sp
namespace Go.Sp
def AV(n:Int):List UInt8:=zw n
def NK(s:List UInt8)(n:Int):List UInt8:=Lib.repeatL s n.toNat
end Go.Sp
namespace Go.Pe
open Go.Det
def aJ:Ao:=⟨[i64],fun n=>Sp.CH n,[.str],fun n=>Sp.AV n,false⟩
def UL:Ao:=⟨[u64,i64],fun i=>decide (0<=i.1)&&decide (i.1<1000000000000000000)&&decide (i.2=10),[.str],fun i=>Sp.AV i.1,false⟩
def Ra:Ao:=⟨[.str,i64],fun i=>decide (0<=i.2)&&decide (i.2<=1000)&&decide (i.1.length<=1000),[.str],fun i=>Sp.NK i.1 i.2,false⟩
def uI:Ao:=⟨[BI],fun a=>Sp.A4 a,[.str],fun a=>Sp.AV (z8 a),false⟩
def PQ:AX:=X7 [(124,aJ),(218,PA),(230,Ga),(249,UL),(250,Ra)]
open Sp
section
open List Int Prod
namespace T200
def T(a:Int×List Int):Tr:=tree PQ false 9 200 (Af ([zo i64 (zq (zr zi))]) a)
def L1(v3:Bool)(v4:List Int)(v5n:Nat)(o0:List Int):Tr:=re ((T (0,[])).R.L) (AA 69 [(3,.dat zk v3),(4,.dat (zf (zr zi)) v4),(5,.sl 0 1 0 v5n none),(6,.nil)] [(0,.arr false 130 (zr zi) o0)] 1)
theorem Al(a:Int×List Int):T a=.ite (!decide (0<length (snd a))) (.ite (CH (fst a)) (.leaf (.dat zh (AV (fst a))) ([(0,.box [.dat i64 (fst a),.dat (zq (zr zi)) (snd a)])])) .fail) (.ite (Dh (fst a,snd a)) (L1 (decide (z8 (fst a,snd a)<0)) (Bt (Ae (z8 (fst a,snd a)))) 1 ([1000000000000000000])) .fail):=by kernel_rfl
def L2(v3:Bool)(v4:List Int)(v5n v6n:Nat)(o1:List (List UInt8))(o0:List Int):Tr:=re ((stepT PQ (L1 false [] 0 [])).L.L.L.L.L.L.L.L.L) (AA 69 [(3,.dat zk v3),(4,.dat (zf (zr zi)) v4),(5,.sl 0 1 0 v5n none),(6,.sl 1 1 0 v6n none)] [(1,.arr false 9 zh o1),(0,.arr true 130 (zr zi) o0)] 2)
def L3(v11:Int)(o1:List Int)(o0n:Nat):Tr:=re ((stepT PQ (L1 false [] 0 [])).R.L.L.L) (AA 69 [(6,.nil),(10,.ptr 0 0),(11,.dat i64 v11)] [(1,.arr false 5 (zr IntKind.u8) o1),(0,qv 222 [.ptr 0 0,.sl 1 1 0 o0n none])] 2)
def L4(v11:Int):Tr:=re ((stepT PQ (L1 false [] 0 [])).R.L.R) (AA 69 [(6,.nil),(10,.ptr 0 0),(11,.dat i64 v11)] [(0,qv 222 [.ptr 0 0,.nil])] 1)
def L5(v11:Int):Tr:=re ((stepT PQ (L1 false [] 0 [])).R.R) (AA 69 [(6,.nil),(10,.ptr 0 0),(11,.dat i64 v11)] [(0,qv 222 [PV.nilp,.nil])] 1)
theorem An(v3:Bool)(v4:List Int)(v5n:Nat)(o0:List Int):stepT PQ (L1 v3 v4 v5n o0)=let a':=Bt (Ak v4 % Ak (take v5n o0));let b':=Bt (Ak v4/Ak (take v5n o0));let d':=decide (1<=1)&&decide (0<1)&&decide ((2*1+1000)*16<=281474976710656);let e':=zc .i64 (0-1);let f':=AV (getD a' 0 0);let c':=18-(↑(length f'):Int);.ite (decide ((length v4:Int)>0)) (.ite (decide (0+v5n<=length o0)&&true&&R0 v4 (take v5n o0)) (.ite (decide ((↑(length a'):Int)>0)) (.ite (decide (0<(↑(length a'):Int))) (.ite (decide ((0:Sh.T u64)<=getD a' 0 0)&&decide (getD a' 0 0<(1000000000000000000:Sh.T u64))&&decide (10=10)) (.ite (decide ((↑(length b'):Int)>0)) (.ite (decide (0<=zc .i64 c')&&decide (zc .i64 c'<=1000)&&decide (1<=1000)) (.ite (decide (length (NK [(48:UInt8)] (zc .i64 c'))+length f'<=4611686018427387904)) (.ite d' (L2 v3 b' v5n 1 ([NK [(48:UInt8)] (zc .i64 c')++AV (getD a' 0 0)]) o0) .fail) .fail) .fail) (.ite d' (L2 v3 b' v5n 1 ([AV (getD a' 0 0)]) o0) .fail)) .fail) .fail) (.ite (decide ((↑(length b'):Int)>0)) (.ite true (.ite true (.ite true (L2 v3 b' v5n 1 ([NK [(48:UInt8)] (zc .i64 (18-1))++[(48:UInt8)]]) o0) .fail) .fail) .fail) (.ite true (L2 v3 b' v5n 1 ([[(48:UInt8)]]) o0) .fail))) .fail) (.ite v3 (.ite true (.ite true (L3 e' (yj (fun b=>(↑(yd b):Int)) [(45:UInt8)]) 1) .fail) (L4 e')) (L5 e')):=by kernel_rfl
def L6(v6n:Nat)(v11:Int)(o2:List Int)(o1n:Nat)(o0:List (List UInt8)):Tr:=re ((stepT PQ (L2 false [] 0 0 [] [])).R.L.L.L) (AA 69 [(6,.sl 0 1 0 v6n none),(10,.ptr 1 0),(11,.dat i64 v11)] [(2,.arr false 5 (zr IntKind.u8) o2),(1,qv 222 [.ptr 1 0,.sl 2 1 0 o1n none]),(0,.arr false 9 zh o0)] 3)
def L7(v6n:Nat)(v11:Int)(o0:List (List UInt8)):Tr:=re ((stepT PQ (L2 false [] 0 0 [] [])).R.L.R) (AA 69 [(6,.sl 0 1 0 v6n none),(10,.ptr 1 0),(11,.dat i64 v11)] [(1,qv 222 [.ptr 1 0,.nil]),(0,.arr false 9 zh o0)] 2)
def L8(v6n:Nat)(v11:Int)(o0:List (List UInt8)):Tr:=re ((stepT PQ (L2 false [] 0 0 [] [])).R.R) (AA 69 [(6,.sl 0 1 0 v6n none),(10,.ptr 1 0),(11,.dat i64 v11)] [(1,qv 222 [PV.nilp,.nil]),(0,.arr false 9 zh o0)] 2)
theorem AZ(v3:Bool)(v4:List Int)(v5n v6n:Nat)(o1:List (List UInt8))(o0:List Int):stepT PQ (L2 v3 v4 v5n v6n o1 o0)=let a':=Bt (Ak v4 % Ak (take v5n o0));let b':=Bt (Ak v4/Ak (take v5n o0));let d':=decide ((2*(v6n+1)+1000)*16<=281474976710656);let e':=zc .i64 ((↑v6n:Int)-1);let f':=decide (v6n=length o1);let g':=zl v6n 1;let h':=decide (1<=1)&&true&&f'&&d';let i':=AV (getD a' 0 0);let c':=18-(↑(length i'):Int);.ite (decide ((length v4:Int)>0)) (.ite (decide (0+v5n<=length o0)&&true&&R0 v4 (take v5n o0)) (.ite (decide ((↑(length a'):Int)>0)) (.ite (decide (0<(↑(length a'):Int))) (.ite (decide ((0:Sh.T u64)<=getD a' 0 0)&&decide (getD a' 0 0<(1000000000000000000:Sh.T u64))&&decide (10=10)) (.ite (decide ((↑(length b'):Int)>0)) (.ite (decide (0<=zc .i64 c')&&decide (zc .i64 c'<=1000)&&decide (1<=1000)) (.ite (decide (length (NK [(48:UInt8)] (zc .i64 c'))+length i'<=4611686018427387904)) (.ite h' (L2 v3 b' v5n g' (o1++[NK [(48:UInt8)] (zc .i64 c')++AV (getD a' 0 0)]) o0) .fail) .fail) .fail) (.ite h' (L2 v3 b' v5n g' (o1++[AV (getD a' 0 0)]) o0) .fail)) .fail) .fail) (.ite (decide ((↑(length b'):Int)>0)) (.ite true (.ite true (.ite (f'&&d') (L2 v3 b' v5n g' (o1++[NK [(48:UInt8)] (zc .i64 (18-1))++[(48:UInt8)]]) o0) .fail) .fail) .fail) (.ite (f'&&d') (L2 v3 b' v5n g' (o1++[[(48:UInt8)]]) o0) .fail))) .fail) (.ite v3 (.ite true (.ite true (L6 v6n e' (yj (fun b=>(↑(yd b):Int)) [(45:UInt8)]) 1 o1) .fail) (L7 v6n e' o1)) (L8 v6n e' o1)):=by kernel_rfl
theorem Eo(v6n:Nat)(v11:Int)(o2:List Int)(o1n:Nat)(o0:List (List UInt8)):stepT PQ (L6 v6n v11 o2 o1n o0)=let a':=getD o0 (toNat v11) [];.ite (decide (v11>=0)) (.ite (decide (0<=v11)&&decide (v11<(↑v6n:Int))) (.ite (decide (toNat v11<length o0)) (.ite (decide (o1n=length o2)&&decide ((2*(o1n+length (yj (fun b=>(↑(yd b):Int)) a'))+1000)*1<=281474976710656)) (L6 v6n (zc .i64 (v11-1)) (o2++yj (fun b=>(↑(yd b):Int)) a') (zl o1n (length (yj (fun b=>(↑(yd b):Int)) a'))) o0) .fail) .fail) .fail) (.ite (decide (0<o1n)) (.ite (decide (0<(↑o1n:Int))&&decide (toNat (↑o1n:Int)<=length o2)&&decide (toNat (↑o1n:Int)<=9223372036854775807)&&List.all o2 fun x=>decide (0<=x)&&decide (x<256)) (.leaf (.dat zh (yj (fun x=>yb (toNat x)) (take (toNat (↑o1n:Int)) o2))) ([(1,qv 222 [.ptr 1 0,.sl 2 1 0 o1n none]),(0,.arr false 9 zh o0)])) .fail) .fail):=by kernel_rfl
theorem HL(v6n:Nat)(v11:Int)(o0:List (List UInt8)):stepT PQ (L8 v6n v11 o0)=let a':=getD o0 (toNat v11) [];let b':=zc .i64 (v11-1);.ite (decide (v11>=0)) (.ite (decide (0<=v11)&&decide (v11<(↑v6n:Int))) (.ite (decide (toNat v11<length o0)) (.ite (decide (0<length (yj (fun b=>(↑(yd b):Int)) a'))) (.ite (decide ((2*length (yj (fun b=>(↑(yd b):Int)) a')+1000)*1<=281474976710656)) (L6 v6n b' (yj (fun b=>(↑(yd b):Int)) a') (length (yj (fun b=>(↑(yd b):Int)) a')) o0) .fail) (L7 v6n b' o0)) .fail) .fail) .fail:=by kernel_rfl
end T200
end
theorem Lu{f:FuncId}{sp:Ao}{q:List V->H->Option (V×H)}(hp:Bh.prim f=none)(hfn:∃i,Bh.fn f=some i)(hq:Bh.spec f=some q)
  (hrun:∀(F:Fz) (h:H) (args:List V) (i:(BE sp.ins).T),Gh h->LA F (Af sp.ins i) args->sp.pre i=true->∃v,q args h=some (v,h)/\PC F (one (Af sp.outs (sp.f i))) v):Ag Bh f sp:=by
 refine .yN ⟨hp,hfn,fun F h args i hfz hlt hgh hargs hpre=>?_⟩;obtain⟨v,h1,h2⟩:=hrun F h args i hgh hargs hpre;refine⟨[(v,h)],1,fun m hm=>?_,fun _=>⟨_,rfl⟩,fun x hx=>?_⟩
 ·obtain⟨m',rfl⟩:∃m',m=m'+1:=⟨m-1,by omega⟩;rw[Bf];simp only[hq,h1]
 ·cases y7.1 hx;exact⟨yc _,fun _ _=>rfl,hlt,F,fun _ _ h=>h,fun _ _ h=>.inl h,hfz,h2⟩
theorem vQ:∃cs t fz,(3,O.cells cs t fz)∈FY/\rB cs Lib.pow10Tab=true:=⟨_,_,_,qm ..,by kernel_rfl⟩
theorem Yf{h:H}(hg:Gh h):Rr h=true:=by
 obtain⟨cs,t,fz,h1,h2⟩:=vQ;have h3:=hg _ h1;unfold Rr;rw[h3];exact h2
theorem nM:Ag Bh 124 aJ:=by
 refine Lu (q:=Wy) (by kernel_rfl) (Bn (by kernel_rfl)) rfl fun F h args (n:Int) hg ha hp=>?_
 have hp:Sp.CH n=true:=hp;have ha:args=[.int .i64 n]:=by
  have:=ha (fun _=>none) 0;simp only[Af,aJ,Ba]at this;obtain⟨v,vs,rfl,h1,rfl⟩:=this;obtain rfl:=CC h1;rfl
 subst ha;refine⟨.str (zw n),?_,fun ρ N=>JM _⟩;have:=Ej hp;have c1:decide (-9223372036854775808<=n)=true:=w4 (by omega);have c2:decide (n<=9223372036854775807)=true:=w4 (by omega);simp only[Wy,Yf hg,c1,c2,Bool.and_self,we]
theorem ZH:Ag Bh 250 Ra:=by
 refine Lu (q:=RI) (by kernel_rfl) (Bn (by kernel_rfl)) rfl fun F h args (i:List UInt8×Int) hg ha hp=>?_
 obtain⟨s,n⟩:=i;have hp:(decide (0<=n)&&decide (n<=1000)&&decide (s.length<=1000))=true:=hp;rw[zd,zd,w5,w5,w5]at hp;obtain⟨⟨h0,h1⟩,h2⟩:=hp;obtain⟨c,rfl⟩:=qc h0;have ha:args=[.str s,.int .i64 (c:Int)]:=by
  have:=ha (fun _=>none) 0;simp only[Af,Ra,Ba]at this;obtain⟨v,vs,rfl,h3,w,ws,rfl,h4,rfl⟩:=this;obtain rfl:=E1 h3;obtain rfl:=CC h4;rfl
 subst ha;refine⟨.str (Sp.NK s (c:Int)),?_,fun ρ N=>JM _⟩;have c1:jk c 9223372036854775807=true:=ye (by omega);have c2:jk (Dk s*c) 140737488355328=true:=ye (by
  rw[Ch];have:s.length*c<=1000*1000:=Nat.mul_le_mul h2 (by omega);omega)
 show(bif jk c 9223372036854775807&&jk (Dk s*c) 140737488355328 then some (V.str (Lib.repeatL s c),h)else none)=_;rw[c1,c2];rfl
theorem bO:Ag Bh 249 UL:=by
 refine Lu (q:=fmtQ) (by kernel_rfl) (Bn (by kernel_rfl)) rfl fun F h args (i:Int×Int) hg ha hp=>?_
 obtain⟨u,b⟩:=i;have hp:(decide (0<=u)&&decide (u<1000000000000000000)&&decide (b=10))=true:=hp;rw[zd,zd,w5,w5,w5]at hp;obtain⟨⟨h0,h1⟩,rfl⟩:=hp;obtain⟨c,rfl⟩:=qc h0;have ha:args=[.int .u64 (c:Int),.int .i64 10]:=by
  have:=ha (fun _=>none) 0;simp only[Af,UL,Ba]at this;obtain⟨v,vs,rfl,h3,w,ws,rfl,h4,rfl⟩:=this;obtain rfl:=CC h3;obtain rfl:=CC h4;rfl
 subst ha;refine⟨.str (Sp.AV (c:Int)),?_,fun ρ N=>JM _⟩;have c1:jk c 18446744073709551615=true:=ye (by omega);have e:Sp.AV (c:Int)=ze c:=qz _;rw[e];show(bif Rr h&&(jk c 18446744073709551615&&Nat.beq 10 10)then some (V.str (ze c),h)else none)=_;rw[Yf hg,c1];rfl
namespace T200
abbrev jA(s:List UInt8):List Int:=yj (fun b=>(↑(yd b):Int)) s
theorem TD:∀s:List UInt8,yj (fun x:Int=>yb (yq x)) (jA s)=s
 |[]=>rfl
 |b::s=>by
  have:=TD s;simp only[jA,List.map_cons]at this ⊢;rw[this];simp
theorem W4:∀s:List UInt8,(List.all (jA s) fun x=>decide ((0:Int)<=x)&&decide (x<(256:Int)))=true
 |[]=>rfl
 |b::s=>by
  have h1:=W4 s;have h2:=b.toNat_lt;simp only[jA,List.map_cons,yz]at h1 ⊢;rw[h1,Bool.and_true,zd,w5,w5];omega
theorem nL(a b:List UInt8):jA a++jA b=jA (a++b):=by simp[jA]
variable {Q:PV->Ob->Prop}
theorem EE(o0:List (List UInt8))(T:List UInt8)(hT:T.length<=1000000)(hl:o0.length<=1000000)(hq:∀ob,Q (.dat .str T) ob):∀(i:Nat) (acc:List UInt8) (v11:Int) (n:Nat),i<=o0.length->v11=(i:Int)-1->n=acc.length->0<acc.length->acc++(o0.take i).reverse.flatten=T->
  Ends PQ (L6 o0.length v11 (jA acc) n o0) Q
 |0,acc,v11,n,_,hv,hn,h0,he=>by
  have he:acc=T:=by simpa using he
  subst he hn;refine Ends.Am (Eo ..) (jh (w8 (by omega)) (zg (w4 h0) (zg (Ab (Ab (Ab (w4 (by omega)) (w4 (by simp))) (w4 (by simp;omega))) (W4 acc)) (ya ?_))));have e:yj (fun x:Int=>yb (yq x)) (ql (yq (acc.length:Int)) (jA acc))=acc:=by
   rw[yg,qd (by simp),TD]
  rw[e];exact hq _
 |i+1,acc,v11,n,hi,hv,hn,h0,he=>by
  have hg:jm o0 (yq v11) []=o0[i]:=by
   rw[show yq v11=i from by omega];simp[show i<o0.length from hi]
  have hs:acc++o0[i]++(o0.take i).reverse.flatten=T:=by
   have ht:o0.take (i+1)=o0.take i++[o0[i]]:=qe hi;rw[<-he,ht,List.reverse_append,qx,List.singleton_append,qq,yr]
  have hlen:=wi yu hs;simp only[zj]at hlen;refine Ends.Am (Eo ..) (zg (w4 (by omega)) (zg (Ab (w4 (by omega)) (w4 (by omega))) (zg (w4 (by omega)) ?_)));rw[hg];refine zg (Ab (w4 (by simp[hn])) (w4 (by rw[z7];omega))) ?_;rw[nL,wr (v11-1) (by omega) (by omega)];exact EE o0 T hT hl hq i (acc++o0[i]) (v11-1) _ (by omega) (by omega) (by rw[zj,z7,hn];rfl) (by rw[zj];omega) hs
theorem E9(o0:List (List UInt8))(T:List UInt8)(hT:T.length<=1000000)(hl:o0.length<=1000000)(hq:∀ob,Q (.dat .str T) ob)(i:Nat)(hi:i+1=o0.length)(v11:Int)(hv:v11=(i:Int))(hpos:0<(o0[i]'(by omega)).length)(he:o0.reverse.flatten=T):
  Ends PQ (L8 o0.length v11 o0) Q:=by
 have hi':i<o0.length:=by omega
 have hg:jm o0 (yq v11) []=o0[i]:=by
  rw[show yq v11=i from by omega];simp[hi']
 have hs:o0[i]++(o0.take i).reverse.flatten=T:=by
  have ht:o0.take (i+1)=o0.take i++[o0[i]]:=qe hi';rw[hi,List.take_length]at ht;rw[<-he];conv=>rhs;rw[ht]
  rw[List.reverse_append,qx,List.singleton_append,qq]
 have hlen:=wi yu hs;simp only[zj]at hlen;refine Ends.Am (HL ..) (zg (w4 (by omega)) (zg (Ab (w4 (by omega)) (w4 (by omega))) (zg (w4 (by omega)) ?_)));rw[hg];refine zg (w4 (by rw[z7];exact hpos)) (zg (w4 (by rw[z7];omega)) ?_);rw[wr (v11-1) (by omega) (by omega)];exact EE o0 T hT hl hq i o0[i] (v11-1) _ (by omega) (by omega) (by rw[z7]) hpos hs
end T200
theorem TN{r:Int}(h0:0<r)(h1:r<18446744073709551616):Bt r=[r]:=by
 have hd:Av Ai [r]:=by
  intro x hx;rw[y7]at hx;subst hx;exact⟨by omega,h1⟩
 have hn:Sp.nz [r]:=by
  unfold Sp.nz;simp;omega
 have:=Ia (b:=Ai) (by decide) hd hn;have hv:Sp.val Ai [r]=r:=by simp[Sp.val]
 rw[hv]at this;exact this.symm
theorem Ku:Bt 0=[]:=by
 unfold Bt;rfl
theorem Ny:Ak [1000000000000000000]=1000000000000000000:=by simp[Ak,Sp.val]
theorem ZD(n:Nat):NK [48] (n:Int)=List.replicate n 48:=by
 unfold NK;rw[yg];induction n with
 |zero=>rfl
 |succ n ih=>rw[Lib.repeatL,ih];rfl
theorem SN(V:Nat):Ak (Bt (V:Int))=(V:Int):=CP (b:=Ai) (by decide) (by omega)
theorem fX{V:Nat}(hV:(V:Int)<(Ai:Int)^9000):R0 (Bt (V:Int)) [1000000000000000000]=true:=by
 obtain⟨n1,n2,n3⟩:=CV (n:=(V:Int)) (by omega) hV (by omega);have h1:=JR (n:=(V:Int)) (by omega) hV;unfold R0;refine Ab (Ab (Ab (Ab n1 ?_) (w4 h1)) (w4 (by decide))) (w4 (by rw[Ny];decide));decide
theorem UQ(V:Nat):Bt (Ak (Bt (V:Int))/Ak (ql 1 [1000000000000000000]))=Bt ((V/10^18:Nat):Int):=by
 rw[SN,show ql 1 [(1000000000000000000:Int)]=[1000000000000000000]from rfl,Ny];congr 1
theorem UA(V:Nat):Bt (Ak (Bt (V:Int)) % Ak (ql 1 [1000000000000000000]))=Bt ((V % 10^18:Nat):Int):=by
 rw[SN,show ql 1 [(1000000000000000000:Int)]=[1000000000000000000]from rfl,Ny];congr 1
theorem IY{V:Nat}(h:0<V):0<(Bt (V:Int)).length:=by
 rcases y8 (Bt (V:Int)).length with e|e
 ·have h1:=SN V;rw[yi.1 e]at h1;have h2:Ak []=0:=rfl;rw[h2]at h1;omega
 ·exact e
theorem MO:∀(k u:Nat),u<10^(k+1)->je u<=k+1
 |0,u,h=>by rw[Lib.nDigits_small (by omega)];omega
 |k+1,u,h=>by
  by_cases c:u<10
  ·rw[Lib.nDigits_small c];omega
  ·rw[Lib.nDigits_big c];have:u/10<10^(k+1):=by rw[yx]at h;omega
   have:=MO k (u/10) this;omega
theorem Sw{r:Nat}(h:r<10^18):(ze r).length<=18:=by
 rw[z6];exact MO 17 r h
theorem LQ(r:Nat):AV (r:Int)=ze r:=qz r
theorem Sj(r:Nat)(h:r<10^18):NK [48] ((18:Int)-((ze r).length:Int))++ze r=FZ 18 r:=by
 have:=Sw h;rw[show(18:Int)-((ze r).length:Int)=((18-(ze r).length:Nat):Int)from by omega,ZD,z6];rfl
structure Small(V:Nat):Prop where
 h:(V:Int)<(Ai:Int)^9000
theorem Small.le{a b:Nat}(h:Small b)(hab:a<=b):Small a:=⟨Int.lt_of_le_of_lt (Int.ofNat_le.mpr hab) h.h⟩
theorem Small.div{V:Nat}(h:Small V):R0 (Bt (V:Int)) [1000000000000000000]=true:=fX h.h
namespace T200
variable {Q:PV->Ob->Prop}
def Exit(neg:Bool)(G:List (List UInt8))(Q:PV->Ob->Prop):Prop:=Ends PQ (.ite neg (.ite true (.ite true (L6 G.length (zc yh ((G.length:Int)-1)) (yj (fun b=>(↑(yd b):Int)) [(45:UInt8)]) 1 G) .fail) (L7 G.length (zc yh ((G.length:Int)-1)) G)) (L8 G.length (zc yh ((G.length:Int)-1)) G)) Q
theorem A2(neg:Bool)(G:List (List UInt8))(hG:G.length<=1000000)(hfin:Exit neg G Q):∀(f V:Nat) (o1:List (List UInt8)),V<f->Small V->o1++(if V=0 then[]else Cf f V)=G->Ends PQ (L2 neg (Bt (V:Int)) 1 o1.length o1 [1000000000000000000]) Q
 |0,V,o1,h,_,_=>by omega
 |f+1,V,o1,h,hV,he=>by
  rcases y8 V with h0|h0
  ·subst h0;have he:o1=G:=by simpa using he
   subst he;refine Ends.Am (AZ ..) (jh (by rw[show((0:Nat):Int)=0 from rfl,Ku];rfl) ?_);exact hfin
  have hlt:V % 10^18<10^18:=jj _ (by decide);rw[wc (by omega)]at he;have hg:∀s,s=(if V/10^18=0 then ze (V % 10^18)else FZ 18 (V % 10^18))->(o1++[s])++(if V/10^18=0 then[]else Cf f (V/10^18))=G:=by
   rintro s rfl;rw[<-he,yr];congr 1;have eg:Cf (f+1) V=if V<10^18 then[ze V]else FZ 18 (V % 10^18)::Cf f (V/10^18):=rfl
   rw[eg];by_cases c:V<10^18
   ·rw[wd c,wd (by omega),wd (by omega),Nat.mod_eq_of_lt c];rfl
   ·rw[wc c,wc (by omega),wc (by omega)];rfl
  have hsz:o1.length+1<=1000000:=by
   have:=wi yu (hg _ rfl);simp only[zj,List.length_singleton]at this;omega
  have next:∀s,s=(if V/10^18=0 then ze (V % 10^18)else FZ 18 (V % 10^18))->Ends PQ (L2 neg (Bt ((V/10^18:Nat):Int)) 1 (zl o1.length 1) (o1++[s]) [1000000000000000000]) Q:=by
   intro s hs;have:=A2 neg G hG hfin f (V/10^18) (o1++[s]) (by omega) (hV.le (q9 _ _)) (hg s hs);rw[zj]at this;exact this
  refine Ends.Am (AZ ..) (zg (w4 (by have:=IY h0;omega)) (zg (Ab rfl hV.div) ?_));rw[UQ,UA];rcases y8 (V % 10^18)with r0|r0
  ·have q0:V/10^18≠0:=by omega
   rw[r0,show((0:Nat):Int)=0 from rfl,Ku];refine jh rfl (zg (w4 (by have:=IY (V:=V/10^18) (by omega);omega)) (zg rfl (zg rfl (zg (Ab (w4 rfl) (w4 (by omega))) (next _ ?_)))));have hp:=Sj 0 (by decide);rw[yt (by omega)]at hp;rw[wc q0,r0, <-hp];rfl
  ·rw[TN (r:=((V % 10^18:Nat):Int)) (by omega) (by omega)];have hgd:jm [((V % 10^18:Nat):Int)] 0 0=((V % 10^18:Nat):Int):=rfl;rw[hgd,LQ];have hd:=Sw hlt;have hr18:((V % 10^18:Nat):Int)<1000000000000000000:=by omega
   have h18:0<(ze (V % 10^18)).length:=by
    rw[z6,je];split<;>omega
   refine zg rfl (zg rfl (zg (Ab (Ab (w4 (Int.natCast_nonneg _)) (w4 hr18)) rfl) ?_));rw[wr _ (by omega) (by omega)];by_cases q0:V/10^18=0
   ·rw[q0];refine jh (by rw[show((0:Nat):Int)=0 from rfl,Ku];rfl) (zg (Ab (Ab rfl (w4 rfl)) (w4 (by omega))) ?_);have:=next _ rfl;rw[wd q0,q0]at this;exact this
   ·have hpad:=Sj _ hlt;refine zg (w4 (by have:=IY (V:=V/10^18) (by omega);omega)) (zg (Ab (Ab (w4 (by omega)) (w4 (by omega))) rfl) (zg (w4 ?_) (zg (Ab (Ab rfl (w4 rfl)) (w4 (by omega))) (next _ ?_))))
    ·rw[<-zj,hpad];unfold FZ;rw[zj,List.length_replicate];omega
    ·rw[wc q0];exact hpad
end T200
end Go.Pe
namespace Go.Sp
theorem GU{n d:Int}(hd:d≠0):(qi n d).num.natAbs<=n.natAbs/\(qi n d).den<=d.natAbs:=by
 rw[Rat.num_divInt,Rat.den_divInt,wc hd];refine⟨?_,q9 _ _⟩;refine Nat.le_trans (Int.natAbs_ediv_le_natAbs _ _) ?_;rw[yv,Int.natAbs_sign_of_ne_zero hd,Nat.one_mul];exact yc _
theorem Pm{n d:Int}{k:Nat}(hd:d≠0)(h1:n.natAbs<10^k)(h2:d.natAbs<10^k):ER k (qi n d):=
 ⟨y9 (GU hd).1 h1,y9 (GU hd).2 h2⟩
theorem ER.mono{j k:Nat}{q:Rat}(h:ER j q)(hk:j<=k):ER k q:=
 ⟨ym h.1 (yw (by decide) hk),ym h.2 (yw (by decide) hk)⟩
theorem Dz{a b i j:Nat}(h1:a<10^i)(h2:b<10^j):a*b<10^(i+j):=by
 rw[Nat.pow_add];exact y9 (Nat.mul_le_mul_left _ (Nat.le_of_lt h2)) ((Nat.mul_lt_mul_right (Nat.pow_pos (by decide))).2 h1)
theorem LB(q:Rat):(q.den:Int)≠0:=by have:=q.den_pos;omega
theorem ER.mul{p q:Rat}{i j:Nat}(hp:ER i p)(hq:ER j q):ER (i+j) (p*q):=by
 have h:=Rat.divInt_mul_divInt p.num q.num (d₁:=p.den) (d₂:=q.den);rw[yk,yk]at h;rw[h];refine Pm ?_ ?_ ?_
 ·exact Int.mul_ne_zero (LB p) (LB q)
 ·rw[yv];exact Dz hp.1 hq.1
 ·rw[yv,zt,zt];exact Dz hp.2 hq.2
theorem ER.add{p q:Rat}{i j:Nat}(hp:ER i p)(hq:ER j q):ER (i+j+1) (p+q):=by
 have h:=Rat.divInt_add_divInt p.num q.num (LB p) (LB q);rw[yk,yk]at h;rw[h];have a1:=Dz hp.1 hq.2;have a2:=Dz hq.1 hp.2;have a3:=Dz hp.2 hq.2;rw[Nat.add_comm]at a2;refine Pm (Int.mul_ne_zero (LB p) (LB q)) ?_ ?_
 ·refine y9 (Int.natAbs_add_le _ _) ?_;rw[yv,yv,zt,zt,yx];omega
 ·rw[yv,zt,zt,yx];omega
def QT(n:Int):Bool:=decide (600<(ze n.natAbs).length)
def JE(q:Rat):Bool:=QT q.num||QT q.den
theorem FO{u k:Nat}(h:u<10^k)(hk:1<=k):(ze u).length<=k:=by
 rw[z6];obtain⟨j,rfl⟩:∃j,k=j+1:=⟨k-1,by omega⟩;exact Go.Pe.MO j u h
theorem DJ(u:Nat){k:Nat}(h:(ze u).length<=k):u<10^k:=by
 rw[z6]at h;exact ym (Lib.lt_pow_nDigits u) (yw (by decide) h)
theorem Kv{q:Rat}{k:Nat}(h:ER k q)(hk:1<=k):(AE q).length<=2*k+2:=by
 have h1:=FO h.1 hk;have h2:=FO h.2 hk;have h3:(zw q.num).length<=k+1:=by
  unfold zw;split
  ·rw[zu];omega
  ·rw[show q.num.toNat=q.num.natAbs by omega];omega
 unfold AE;split
 ·omega
 ·rw[zj,zu];omega
def Bj(s:List UInt8):Bool:=decide (AE (AP s)=s)&&decide (s.length<=4000)
theorem DG{s:List UInt8}(h:Bj s=true):AE (AP s)=s/\s.length<=4000:=by
 unfold Bj at h;rwa [zd,w5,w5]at h
theorem LL{q:Rat}{k:Nat}(h:ER k q)(hk:k<=1999):Bj (AE q)=true:=by
 have hl:=Kv (h.mono hk) (by decide);unfold Bj;rw[CB,w4 rfl,w4 (by omega)];rfl
theorem Ey{s:List UInt8}(h:AO s=0):Bj s=true/\ER 600 (AP s):=by
 obtain⟨h1,_,_,h4⟩:=Zm h;exact⟨by rw[<-h1];exact LL h4 (by decide),h4⟩
theorem W6{s:List UInt8}(h:Bj s=true):ER 4000 (AP s):=by
 obtain⟨h1,h2⟩:=DG h;have e:(AE (AP s)).length<=4000:=by rw[h1];exact h2
 generalize AP s=q at*;have a:=DJ q.num.natAbs (yc _);have b:=DJ q.den (yc _);have h3:(ze q.num.natAbs).length<=(zw q.num).length:=by
  unfold zw;split
  ·rw[zu];omega
  ·rw[show q.num.toNat=q.num.natAbs by omega];exact yc _
 unfold AE at e;split at e
 ·next c=>exact⟨DJ (k:=4000) _ (by omega),by rw[c];exact O0 4000 (by decide)⟩
 ·rw[zj,zu]at e;exact⟨DJ (k:=4000) _ (by omega),DJ (k:=4000) _ (by omega)⟩
theorem QP(q:Rat):GL (AE q)=Rv q.num:=by
 have h0:AE q=[48]↔q=0:=by
  have:AE (0:Rat)=[48]:=by
   unfold AE;rw[wd (show Rat.den 0=1 from rfl)];show zw 0=[48];unfold zw;rw[wc (by decide),show(0:Int).toNat=0 from rfl,yt (by decide)];rfl
  rw[<-this];exact⟨Qj,fun h=>by rw[h]⟩
 unfold GL Rv;by_cases hz:q=0
 ·rw[wd (h0.2 hz),hz];rfl
 ·rw[wc (fun h=>hz (h0.1 h))];have hn:q.num≠0:=fun h=>hz (Rat.num_eq_zero.mp h)
  have hg:(AE q).getD 0 0=(zw q.num).getD 0 0:=by
   unfold AE;split
   ·rfl
   ·have:zw q.num≠[]:=by unfold zw;split;exact List.cons_ne_nil _ _;exact rA _
    cases hi:zw q.num with
    |nil=>exact wh hi this
    |cons c r=>rfl
  rw[hg];unfold zw;by_cases h:q.num<0
  ·rw[wd h,wd h];rfl
  ·rw[wc h,wc h,wc (Fi (D9 _)),wd (by omega)]
theorem Tj(n:Int)(h:n≠0):zw (-n)=if n<0 then(zw n).drop 1 else 45::zw n:=by
 unfold zw;by_cases c:n<0
 ·rw[wc (by omega),wd c,wd c,show(-n).toNat=n.natAbs by omega];rfl
 ·rw[wd (by omega),wc c,wc c,show(-n).natAbs=n.toNat by omega]
theorem dH(q:Rat):K2 (AE q)=AE (-q):=by
 have hs:=QP q;unfold GL at hs;unfold K2;by_cases h0:AE q=[48]
 ·rw[wd h0]at hs ⊢;have:q.num=0:=by
   unfold Rv at hs;split at hs
   ·exact wh hs (by decide)
   ·split at hs
    ·exact wh hs (by decide)
    ·omega
  have:q=0:=Rat.num_eq_zero.mp this;rw[this];rfl
 ·rw[wc h0]at hs ⊢;have hn:q.num≠0:=by
   intro h;rw[h]at hs;split at hs<;>exact wh hs (by decide)
  have e:AE (-q)=if q.num<0 then(AE q).drop 1 else 45::AE q:=by
   unfold AE;rw[Rat.neg_num,Rat.neg_den,Tj _ hn];by_cases c:q.num<0
   ·rw[wd c,wd c];have:zw q.num=45::ze q.num.natAbs:=by unfold zw;rw[wd c]
    rw[this];split<;>rfl
   ·rw[wc c,wc c];split<;>rfl
  rw[e];unfold Rv at hs;by_cases c:q.num<0
  ·rw[wd c]at hs ⊢;split at hs
   ·next k=>rw[wd k]
   ·exact wh hs (by decide)
  ·rw[wc c,wd (show q.num>0 by omega)]at hs;rw[wc c];split at hs
   ·exact wh hs (by decide)
   ·next k=>rw[wc k]
open Go.Lib
theorem LJ:∀(f n l:Nat) (acc:List UInt8),l<=acc.length->n<10^f->Hm f n l acc=if n=0 then acc else decDigits n++acc
 |0,n,l,acc,_,hn=>by rw[Nat.pow_zero]at hn;rw[wd (by omega)];rfl
 |f+1,n,l,acc,hl,hn=>by
  rw[yx]at hn;unfold Hm;by_cases h:n=0
  ·rw[wd ⟨h,hl⟩,wd h]
  ·rw[wc (fun k=>h k.1),wc h,LJ f (n/10) l _ (by rw[zu];omega) (by omega)];by_cases h2:n/10=0
   ·rw[wd h2,decDigits_one (by omega),show n % 10=n by omega];rfl
   ·have e:=FE (n/10) (n % 10) (by omega) (by omega);rw[show 10*(n/10)+n % 10=n by omega]at e;rw[wc h2,e,yr];rfl
theorem cH{d:Nat}(h:d<10):FZ 1 d=[yb (48+d)]:=by
 unfold FZ;rw[nDigits_small h,decDigits_one h];rfl
theorem TT:∀(k f n l:Nat) (acc:List UInt8),acc.length+(k+1)=l->n<10^(k+1)->k+1<=f->Hm f n l acc=FZ (k+1) n++acc
 |k,0,n,l,acc,_,_,h=>by omega
 |0,f+1,n,l,acc,hl,hn,_=>by
  unfold Hm;rw[wc (by omega),cH (by omega),LJ f (n/10) l _ (by rw[zu];omega) (by rw[show n/10=0 by omega];exact Nat.pow_pos (by decide)),wd (by omega),show n % 10=n by omega];rfl
 |k+1,f+1,n,l,acc,hl,hn,hf=>by
  rw[yx]at hn;have e:=Qh (k+1) (n/10) (n % 10) (by omega) (by omega);rw[show 10*(n/10)+n % 10=n by omega]at e;unfold Hm;rw[wc (by omega),TT k f (n/10) l _ (by rw[zu];omega) (by omega) (by omega),e,yr];rfl
theorem OT{n:Int}(h0:0<=n)(h1:n<9223372036854775808):HO n 1=decDigits n.toNat:=by
 show Hm 64 n.toNat 1 []=_;unfold Hm;rw[wc (by simp)];rw[LJ 63 (n.toNat/10) 1 _ (by simp) (by omega)];by_cases h:n.toNat<10
 ·rw[wd (by omega),decDigits_one h,show n.toNat % 10=n.toNat by omega]
 ·have e:=FE (n.toNat/10) (n.toNat % 10) (by omega) (by omega);rw[show 10*(n.toNat/10)+n.toNat % 10=n.toNat by omega]at e;rw[wc (by omega),e]
theorem Ys{n:Int}(h0:0<=n)(h1:n<1000000000):HO n 9=FZ 9 n.toNat:=by
 show Hm 64 n.toNat 9 []=_;rw[TT 8 64 n.toNat 9 [] rfl (by omega) (by decide),List.append_nil]
def CZ(n d:Int):List UInt8:=AE (qi n d)
theorem ZJ(n:Int):itoa n=(if n<0 then[45]else[])++decDigits n.natAbs:=by
 unfold itoa;split
 ·rfl
 ·rw[show n.toNat=n.natAbs by omega];rfl
end Go.Sp
namespace Go.Sp
def vR(a:Bool×List Int):Int:=if a.1=true then -Ar a.2 else Ar a.2
def CG(a:Bool×List Int):Bool:=A5 a.2&&decide (a.2.length<=3000)&&(!a.1||decide (a.2≠[]))
def HF(l:List Int)(i:Int):Int:=l.getD i.toNat 0
def iX(a b:List Int):Bool:=A5 a&&A5 b&&decide (a.length<=9000)&&decide (b.length<=9000)
def Lm(a b:List Int):List Int:=BM (Ar a+Ar b)
def Gx(a b:List Int):List Int:=BM (Ar a-Ar b)
def Mo(a b:Bool×List Int):Bool:=rN (vR a+vR b)
def Mm(a b:Bool×List Int):List Int:=rW (vR a+vR b)
def Ho(a b:Bool×List Int):Bool:=rN (vR a*vR b)
def Ha(a b:Bool×List Int):List Int:=rW (vR a*vR b)
def RV(a:Bool×List Int):Bool:=rN (-vR a)
def Sx(a:Bool×List Int):List Int:=rW (-vR a)
def GH(a:Bool×List Int):List UInt8:=AV (vR a)
def HK(n d:Bool×List Int):List UInt8:=CZ (vR n) (vR d)
def gN(a:List UInt8):Int:=if DK a=true then H4 a else 0
def Uy(a:List UInt8):Int:=if DK a=true then RR a else 0
def GJ(a b:List UInt8):List UInt8:=AE (AP a+AP b)
def tE(a b:List UInt8):List UInt8:=AE (AP a-AP b)
def Gq(a b:List UInt8):List UInt8:=AE (AP a*AP b)
def lT(a:List UInt8):List UInt8:=AE (AP a)⁻¹
def H5(a:List UInt8):Bool:= !Bm a
def DN(a:List UInt8):Int:=if 600<(A0 (Ax a)).length\/600<(LH a).length then 4 else 0
def VL(a:List UInt8):Bool:=Bj a&&decide (a.length<=3000)
def zH(a:List UInt8):Bool:=VL a&&decide (AP a≠0)
end Go.Sp
namespace Go.Pe
open Sp
open Go.Det
def Vf:Ao:=⟨[li,i64],fun i=>decide (0<=(i.2:Int)),[i64],fun i=>HF i.1 i.2,false⟩
def Vs:Ao:=⟨[li,li],fun i=>iX i.1 i.2,[li],fun i=>Lm i.1 i.2,false⟩
def VK:Ao:=⟨[li,li],fun i=>iX i.1 i.2&&decide (Ar i.2<=Ar i.1),[li],fun i=>Gx i.1 i.2,false⟩
def fF:Ao:=⟨[Jk,Jk],fun i=>CG i.1&&CG i.2,[Jk],fun i=>(Mo i.1 i.2,Mm i.1 i.2),false⟩
def XK:Ao:=⟨[Jk,Jk],fun i=>CG i.1&&CG i.2,[Jk],fun i=>(Ho i.1 i.2,Ha i.1 i.2),false⟩
def Yn:Ao:=⟨[Jk],fun a=>CG a,[Jk],fun a=>(RV a,Sx a),false⟩
def VU:Ao:=⟨[Jk],fun a=>CG a,[.str],fun a=>GH a,false⟩
def LP:Ao:=⟨[Jk,Jk],fun i=>CG i.1&&CG i.2&&decide (Sp.vR i.2≠0),[.str],fun i=>HK i.1 i.2,false⟩
def eE:Ao:=⟨[i64,i64],fun i=>CH i.1&&CH i.2&&decide ((i.2:Int)≠0),[.str],fun i=>CZ i.1 i.2,false⟩
def MX:Ao:=⟨[.str],fun s=>Bj s,[i64,i64,.bool],fun s=>(gN s,Uy s,DK s),false⟩
def P4:Ao:=⟨[.str,.str],fun i=>Bj i.1&&Bj i.2,[.str],fun i=>GJ i.1 i.2,false⟩
def qL:Ao:=⟨[.str,.str],fun i=>Bj i.1&&VL i.2,[.str],fun i=>tE i.1 i.2,false⟩
def OA:Ao:=⟨[.str,.str],fun i=>Bj i.1&&Bj i.2,[.str],fun i=>Gq i.1 i.2,false⟩
def pL:Ao:=⟨[.str],fun s=>zH s,[.str],fun s=>lT s,false⟩
def WN:Ao:=⟨[.str],fun s=>decide (s.length<=1000000),[.bool],fun s=>H5 s,false⟩
def M5:Ao:=⟨[.str],fun s=>decide (s.length<=1000000),[i64],fun s=>DN s,false⟩
def zZ:AX:=X7 []
def US:AX:=X7 [(229,Vf),(227,Sl)]
def yK:AX:=X7 [(168,H3),(169,Vs),(170,XP),(171,VK),(172,WO),(164,Qn)]
def yG:AX:=X7 [(109,PB)]
def iY:AX:=ZR [(96,[3,7,9])] [] [(96,[(3,[2,3]),(7,[8,10]),(9,[8,10])])] [(166,Yn),(92,KM),(164,Qn),(168,H3),(167,VU)]
def ZS:AX:=ZR [(36,[3,5,7,11])] [] [(36,[(3,[0,1]),(5,[0,1]),(7,[0,1]),(11,[1,6])])] [(107,IQ),(96,LP),(108,qD),(109,PB)]
def pG:AX:=ZR [(27,[5]),(29,[5])] [] [(27,[(5,[0,1])]),(29,[(5,[0,1])])] [(95,MX),(36,eE),(91,SM),(97,fF),(98,XK),(96,LP)]
def XR7:AX:=X7 [(94,pL),(29,OA),(27,P4),(99,Z9)]
def zN:AX:=X7 [(28,qL),(41,Pv),(89,La),(100,Xq),(101,fL),(102,T1)]
def Ve:Ao:=⟨[],fun _=>true,[.bool],fun _=>true,false⟩
theorem gL:Ag Bh 17 Ve:=by
 refine .yN ⟨by kernel_rfl,Bn (by kernel_rfl),fun F h args i hfz hlt hgh hargs _=>?_⟩;have ha:args=[]:=by
  have:=hargs (fun _=>none) 0;simpa [Af,Ve]using this
 subst ha;refine⟨[(.bool true,h)],1,fun m hm=>?_,fun _=>⟨_,rfl⟩,fun x hx=>?_⟩
 ·obtain⟨m',rfl⟩:∃m',m=m'+1:=⟨m-1,by omega⟩;have hq:Bh.spec 17=some fun args h=>bif nE h FY then(match Ir A7 17 args with|some v=>some (v,h)|none=>none)else none:=rfl
  rw[Bf];simp only[hq,rU hgh,we];rfl
 ·cases y7.1 hx;exact⟨yc _,fun _ _=>rfl,hlt,F,fun _ _ h=>h,fun _ _ h=>.inl h,hfz,fun ρ N=>DI _⟩
end Go.Pe
namespace Go.Sp
def Pj(a:AR):Int:=if Bt (Ae (vI a))=[]then 0 else 64*((Bt (Ae (vI a))).length-1)+EU ((Bt (Ae (vI a))).getD ((Bt (Ae (vI a))).length-1) 0)
def Eb(a:AR):Bool:=QT (vI a)
def DM(a:AS):Bool:=Eb a.1||Eb a.2
def FT(a:AS):List UInt8:=if CJ a.2=true then AV (vI a.1)else AV (vI a.1)++47::AV (vI a.2)
def MG(a:AS):List UInt8:=if DM a=true then[]else FT a
def ML(a:AS):Int:=if DM a=true then 4 else 0
def VA(a:AS):Int:=Rv (vI a.1)
def Yw(e:Int)(q:Rat):List UInt8:=if e≠0 then[]else if JE q=true then[]else AE q
def Zr(e:Int)(q:Rat):Int:=if e≠0 then e else if JE q=true then 4 else 0
def E3(a:List UInt8)(e:Int)(w:List UInt8)(bad:Int):Bool:=if (if bad=0 then DN w else bad)≠0 then decide (a=[])&&decide (e=(if bad=0 then DN w else bad))else decide (e=0)&&decide (a=w)
end Go.Sp
namespace Go.Pe
open Sp
open Go.Det
def aM:Ao:=⟨[BI],fun a=>A4 a,[i64],fun a=>Pj a,false⟩
def WY:Ao:=⟨[BI],fun a=>A4 a,[.bool],fun a=>Eb a,false⟩
def Sg:Ao:=⟨[.str,.str],fun i=>Rn i.1 i.2,[.str],fun i=>A0 i.1,false⟩
def Sf:Ao:=⟨[BS],fun a=>jl (a:AS),[.bool],fun a=>DM a,false⟩
def Wq:Ao:=⟨[BS],fun a=>jl (a:AS),[.str],fun a=>FT a,false⟩
def X9:Ao:=⟨[BS],fun a=>jl (a:AS),[.str,i64],fun a=>(MG a,ML a),false⟩
def qO:Ao:=⟨[BS],fun a=>Dh (a:AS).1,[i64],fun a=>VA a,false⟩
def QG:Ao:=⟨[.str,i64,.str,i64],fun i=>decide (yu (α:=UInt8) i.2.2.1<=1000000),[.bool],fun i=>E3 i.1 i.2.1 i.2.2.1 i.2.2.2,false⟩
def xG:AX:=X7 []
def XX1:AX:=X7 [(218,PA),(247,Vn)]
def wP:AX:=X7 [(248,aM),(200,uI),(214,Sg)]
def yV:AX:=X7 [(199,WY),(156,Oy),(200,uI)]
def wU:AX:=X7 [(131,Sf),(132,Wq)]
def XX3:AX:=X7 [(77,Fa),(173,IE)]
def yA:AX:=X7 [(93,M5)]
end Go.Pe
namespace Go.Sp
def QJ(a:List UInt8):List UInt8:=Gq a [49,47,50]
end Go.Sp
namespace Go.Pe
open Go.Det
def pH:Ao:=⟨[.str],fun s=>Sp.Bj s,[.str],fun s=>Sp.QJ s,false⟩
def zX:AX:=X7 [(29,OA)]
end Go.Pe
namespace Go.Sp
def Jr(s:List UInt8):AS:=((VF s,VV s),(Sn s,SI s))
end Go.Sp
namespace Go.Pe
open Go.Det
def W9:KQ:=⟨[],3,.int .i64,fun _ l=>decide (yu (α:=Int) l≠0)&&decide (yu (α:=Int) l<=1000000),fun _ l=>Go.Det.sorted l⟩
theorem O4:∀l:List Int,Lo (l.map (V.int .i64))=some l
 |[]=>rfl
 |x::l=>by
  show(Lo (l.map (V.int .i64))).map (x:: ·)=_;rw[O4 l];rfl
theorem nK{F:Fz}{l:List Int}{cs:List V}(h:DW F (.int .i64) l cs):cs=l.map (V.int .i64):=by
 obtain⟨h1,h2⟩:=h;have h1:cs.length=l.length:=by rw[h1];exact jf _
 refine List.ext_getElem (by rw[z7,h1]) fun i g1 g2=>?_
 have h3:=h2 i (by omega);have h3:(cs.drop (i*1)).take 1=[.int .i64 (l[i]'(by omega))]:=h3;rw[jf,qp g1]at h3;have h3:[cs[i]]=[V.int .i64 (l[i]'(by omega))]:=h3;rw[List.getElem_map];exact List.head_eq_of_cons_eq h3
theorem bQ{F:Fz}(l:List Int):DW F (.int .i64) l (l.map (V.int .i64)):=by
 refine⟨by rw[z7];exact(jf _).symm,fun i hi=>?_⟩;show((l.map (V.int .i64)).drop (i*1)).take 1=[.int .i64 l[i]];rw[jf,qp (by rw[z7];exact hi),List.getElem_map];rfl
theorem Vg{C:Ctx}{f:FuncId}(hp:C.prim f=none)(hfn:∃i,C.fn f=some i)(hq:C.spec f=some Ui):Fb C f W9 where
 prim:=hp
 fn:=hfn
 len:=fun _ l _=>List.length_mergeSort (l:=(l:List Int)) ..
 run:=by
  intro F h args i (l:List Int) b cs fz o hF hlt hgh hargs hpre hg hd hfz hFb ho;have ha:args=[]:=by
   have:=hargs (fun _=>none) 0;simpa [Af,W9]using this
  subst ha;have hpre:(decide (l.length≠0)&&decide (l.length<=1000000))=true:=hpre;rw[zd,w5,w5]at hpre;have hcs:=nK hd;subst hcs;have hg:h.get b=some (.cells (l.map (V.int .i64)) 3 fz):=hg;have run:Ui [.sl b 0 l.length l.length o] h=some (.tup [],h.put b (.cells ((sorted l).map (V.int .i64)) 3 fz)):=by
   unfold Ui;simp only[hg,GK,GR,List.drop_zero];rw[qd (by rw[z7];exact yc _),O4];simp only[Ch,Nat.beq_refl,ye (show l.length<=140737488355328 by omega),ye hfz,Bool.and_self,we];rw[List.take_zero,List.nil_append,Nat.zero_add,qy (by rw[z7];exact yc _),List.append_nil]
  refine⟨(.tup [],h.put b (.cells ((sorted l).map (V.int .i64)) 3 fz)),1,fun m hm=>?_,rfl,yc _,fun c _ hc=>?_,fun c y hy=>?_,F,fun _ _ h=>h,fun _ _ h=>.inl h,fun c bs hc=>?_,_,fz,?_,bQ _,hfz⟩
  ·obtain⟨m',rfl⟩:∃m',m=m'+1:=⟨m-1,by omega⟩;rw[Bf];simp only[hq,List.nil_append];split
   ·next x hx=>rw[Option.some.inj (hx.symm.trans run)]
   ·next hx=>exact wh (hx.symm.trans run) (by simp)
  ·rw[H.A8,wc hc]
  ·rw[H.A8]at hy;rw[H.rO];split at hy
   ·next e=>rw[e];exact hlt _ _ hg
   ·exact hlt _ _ hy
  ·rw[H.A8];by_cases e:c=b
   ·subst e;rw[hFb]at hc;cases hc
   ·rw[wc e];exact hF c bs hc
  ·rw[H.A8,wd rfl];rfl
 nils:=by
  intro F h args i hF hlt hgh hargs hpre;exact wh (show false=true from hpre) (by decide)
end Go.Pe
namespace Go.Sp
abbrev Bg:=Int×List UInt8
def isNum(n:Int):Bool:=decide (-999999999<=n)&&decide (n<=999999999)
def iZ(d:Int):Bool:=decide (d=((2^d.toNat.log2:Nat):Int))
def Xv(s:List UInt8):Bool:=iZ (AG s)
def WB(a:AS):Bool:=iZ (vI a.2)
def RJ(a:AR):Bool:=A4 a&&decide (0<vI a)
def sG(o:Option Int)(v:Int):Bool:=match o with
 |some p=>decide (v<=p)
 |none=>false
def Cr(o:Option Int)(c:Bg):Int:=if isNum c.1=false then 3 else if AO c.2≠0 then AO c.2 else if AP c.2<=0 then 3 else if Xv c.2=false then 1 else if sG o c.1=true then 11 else 0
def HP:Option Int->Rat->List Bg->Int
 |_,s,[]=>if s=1 then 0 else 15
 |o,s,c::l=>if Cr o c≠0 then Cr o c else HP (some c.1) (s+AP c.2) l
def As(l:List Bg):Int:=if l=[]then 12 else if 64<l.length then 5 else HP none 0 l
def FD:List Bg->Rat
 |[]=>0
 |c::l=>(c.1:Rat)*AP c.2+FD l
def FJ(n:Int):List Bg->Rat
 |[]=>0
 |c::l=>(if c.1<=n then AP c.2 else 0)+FJ n l
def QH(l:List Bg):List UInt8:=Yw (As l) (FD l)
def Qp(l:List Bg):Int:=Zr (As l) (FD l)
def QS(l:List Bg)(n:Int):List UInt8:=Yw (As l) (FJ n l)
def Qy(l:List Bg)(n:Int):Int:=Zr (As l) (FJ n l)
def NG(l:List Bg):List UInt8:=AE (FD l)
def NA(l:List Bg)(n:Int):List UInt8:=AE (FJ n l)
def BZ(v:Int)(q:Rat):List (Int×Rat)->List (Int×Rat)
 |[]=>[(v,q)]
 |c::l=>if c.1<v then c::BZ v q l else if c.1=v then(v,c.2+q)::l else(v,q)::c::l
def PW(x:Bg):List Bg->List (Int×Rat)->List (Int×Rat)
 |[],w=>w
 |y::b,w=>PW x b (BZ (x.1+y.1) (AP x.2*AP y.2) w)
def NB:List Bg->List Bg->List (Int×Rat)->List (Int×Rat)
 |[],_,w=>w
 |x::a,b,w=>NB a b (PW x b w)
def Fk(a b:List Bg):List (Int×Rat):=NB a b []
def FB(w:List (Int×Rat)):List Bg:=w.map fun c=>(c.1,AE c.2)
def DT(c:Int×Rat):Bool:=decide (c.1< -999999999)||decide (999999999<c.1)||JE c.2
def Wn(w:List (Int×Rat)):Int:=if 64<w.length then 5 else if w.any DT then 4 else 0
def C8(a b:List Bg):Int:=Wn (Fk a b)
def D4(a b:List Bg):Int:=if As a≠0 then As a else if As b≠0 then As b else C8 a b
def Gm(a b:List Bg):List Bg:=if D4 a b≠0 then[]else FB (Fk a b)
def Mh(a b:List Bg):List Bg:=if C8 a b≠0 then[]else FB (Fk a b)
def C1(l:List Bg)(c:Bg):List Bg:=FB (BZ c.1 (AP c.2) (l.map fun x=>(x.1,AP x.2)))
def BT(l:List Bg)(n d:Int):Bool:=(decide ((l.length:Int)<=n)||decide (64<l.length))&&decide (l.length<=70)&&l.all fun c=>BY c.2 d
def K9(w:List UInt8):Nat:=max (A0 (Ax w)).length (LH w).length
def Fl:List Bg->Nat
 |[]=>0
 |c::l=>(if AO c.2=0 then K9 c.2 else 0)+1+Fl l
def K8(l:List Bg):Bool:=decide (l.length<=1000)&&(l.all fun c=>decide (c.2.length<=1000000))&&(decide (64<l.length)||decide (Fl l<=1300))
def Kb(l:List Bg):Bool:=decide (l.length<=5000)&&l.all fun c=>Bj c.2
def cL(a b:List Bg):Bool:=decide (a=b)
end Go.Sp
namespace Go.Pe
open Sp
open Go.Det
abbrev Fe:Sh:=.pair i64 .str
def VO:Ao:=⟨[i64],fun _=>true,[.bool],fun n=>Sp.isNum n,false⟩
def xT:Ao:=⟨[BS],fun a=>RJ (a:AS).2,[.bool],fun a=>WB (a:AS),false⟩
def vW:Ao:=⟨[.str],fun s=>Bj s,[.bool],fun s=>Xv s,false⟩
def Ry:Ao:=⟨[.list Fe],fun l=>K8 l,[i64],fun l=>As l,false⟩
def pN:Ao:=⟨[.list Fe],fun l=>K8 l,[.str,i64],fun l=>(QH l,Qp l),false⟩
def pX:Ao:=⟨[.list Fe,i64],fun i=>K8 i.1,[.str,i64],fun i=>(QS i.1 i.2,Qy i.1 i.2),false⟩
def TZ:Ao:=⟨[.list Fe,.list Fe],fun i=>BT i.1 10 9&&BT i.2 10 9,[.list Fe,i64],fun i=>(Gm i.1 i.2,D4 i.1 i.2),false⟩
def Vq:Ao:=⟨[.list Fe],fun l=>K8 l&&decide (As l=0),[.str],fun l=>NG l,false⟩
def Vc:Ao:=⟨[.list Fe,i64],fun i=>K8 i.1&&decide (As i.1=0),[.str],fun i=>NA i.1 i.2,false⟩
def pU:Ao:=⟨[.list Fe,Fe],fun i=>Kb i.1&&Bj (i.2.2:List UInt8),[.list Fe],fun i=>C1 i.1 i.2,false⟩
def SF:Ao:=⟨[.list Fe,.list Fe],fun i=>BT i.1 10 9&&BT i.2 10 9&&decide (As i.1=0)&&decide (As i.2=0),[.list Fe,i64],fun i=>(Mh i.1 i.2,C8 i.1 i.2),false⟩
def Wt:Ao:=⟨[.list Fe,.list Fe],fun i=>decide (yu (α:=Bg) i.1<=5000),[.bool],fun i=>cL i.1 i.2,false⟩
def Nk:Ao:=⟨[.list Fe,i64,i64],fun i=>decide (0<=(i.2.1:Int))&&decide ((i.2.1:Int)<=64)&&decide (0<=(i.2.2:Int))&&decide ((i.2.2:Int)<=1000),[.bool],fun i=>BT i.1 i.2.1 i.2.2,false⟩
def Z3:Ao:=⟨[.list Fe,.list Fe,i64],fun _=>true,[.bool],fun _=>true,false⟩
def yB:AX:=X7 [(105,U1),(154,XQ),(176,Fm),(173,IE)]
def yH:AX:=X7 [(102,T1),(44,pH),(43,WN)]
def vZ:AX:=X7 [(130,VO),(83,JL),(85,WS),(77,Fa),(87,WA),(110,qO),(134,xT),(80,T7),(88,qE),(111,cF)]
def Tn:AX:=ZR [(62,[14,16,18,20])] [] [] [(24,Fa),(41,Pv),(133,vW),(27,P4)]
def sT:AX:=X7 [(63,Ry),(111,cF),(87,WA),(82,cW),(80,T7),(103,X9)]
def iV:AX:=X7 [(107,IQ),(167,VU),(29,OA),(27,P4)]
def JX:AX:=(ZR [(60,[17])] [] [] [(130,VO),(63,Ry),(83,JL),(111,cF),(87,WA),(82,cW),(80,T7),(131,Sf),(132,Wq)]).wr [(129,W9)]
def SQ:AX:=X7 [(136,pU),(29,OA),(93,M5)]
def iW:AX:=X7 [(46,Mb)]
def vV:AX:=X7 [(58,Nk),(17,Ve),(59,pN),(60,TZ),(61,pX),(62,Ry),(63,Ry),(25,QG),(64,Vq),(65,Vc),(23,JL),(66,SF),(67,Wt)]
section
open List Int Prod
namespace T134
def T(a:(Int×List Int)×Int×List Int):Tr:=tree yB false 9 134 (Af ([zo (zo i64 (zq (zr zi))) (zo i64 (zq (zr zi)))]) a)
def L1(o1:Int)(o1_1:List Int)(o0:Int)(o0_1:List Int):Tr:=re ((T ((0,[]),(0,[]))).L) (AA 24 [(3,.ptr 0 0),(4,.ptr 1 0)] [(1,.box [.dat i64 o1,.dat (zq (zr zi)) o1_1]),(0,.box [.dat i64 o0,.dat (zq (zr zi)) o0_1])] 2)
theorem Al(a:(Int×List Int)×Int×List Int):T a=.ite true (L1 2 (BB 2) (fst (snd a)) (snd (snd a))) .fail:=by kernel_rfl
theorem An(o1:Int)(o1_1:List Int)(o0:Int)(o0_1:List Int):stepT yB (L1 o1 o1_1 o0 o0_1)=let a':=zq (zr zi);let b':=(Iv (o0,o0_1) (o1,o1_1),HS (o0,o0_1) (o1,o1_1));let c':=bJ (o0,o0_1) (o1,o1_1);let d':=fY (o0,o0_1) (o1,o1_1);.ite true (.ite (A4 (o0,o0_1)&&A4 (1,BB 1)) (.ite (decide (Nr (o0,o0_1) (1,BB 1)>0)) (.ite (A4 (o0,o0_1)&&A4 (o1,o1_1)&&decide (0<z8 (o1,o1_1))) (.ite (Dh b') (.ite (EI b' !=0) (.leaf (.bl false) ([(zl 2 1,.box [.dat i64 (Iv (o0,o0_1) (o1,o1_1)),.dat a' (HS (o0,o0_1) (o1,o1_1))]),(2,.box [.dat i64 c',.dat a' d']),(1,.box [.dat i64 o1,.dat a' o1_1]),(0,.box [.dat i64 o0,.dat a' o0_1])])) (L1 o1 o1_1 c' d')) .fail) .fail) (.leaf (.bl true) ([(1,.box [.dat i64 o1,.dat a' o1_1]),(0,.box [.dat i64 o0,.dat a' o0_1])]))) .fail) .fail:=by kernel_rfl
end T134
namespace T133
def T(s:List UInt8):Tr:=tree yH false 9 133 (Af ([zh]) s)
def L1(v3:List UInt8):Tr:=re ((T []).L) (AA 13 [(3,.dat zh v3)] [] 0)
theorem Al(s:List UInt8):T s=.ite (decide (length s<=1000000)) (L1 (LH s)) .fail:=by kernel_rfl
theorem An(v3:List UInt8):stepT yH (L1 v3)=.ite (!v3==[(49:UInt8)]) (.ite (Bj v3) (.ite (decide (length (QJ v3)<=1000000)) (.ite (!H5 (QJ v3)) (.leaf (.bl false) []) (L1 (QJ v3))) .fail) .fail) (.leaf (.bl true) []):=by kernel_rfl
end T133
namespace T63
def T(l:List (Int×List UInt8)):Tr:=tree vZ false 9 63 (Af ([zf (zo i64 zh)]) l)
def L1(v0:List (Int×List UInt8))(v24:List (Int×List UInt8))(v25 v26 o0:Int)(o0_1:List Int)(o0_2:Int)(o0_3:List Int):Tr:=re ((T []).L.L.L.R.L) (AA 83 [(0,.dat (zf (zo i64 zh)) v0),(4,.ptr 0 0),(24,.dat (zf (zo i64 zh)) v24),(25,.dat i64 v25),(26,.dat i64 v26)] [(0,.box [.dat i64 o0,.dat (zq (zr zi)) o0_1,.dat i64 o0_2,.dat (zq (zr zi)) o0_3])] 1)
theorem Al(l:List (Int×List UInt8)):T l=let a':=(length l:Int);let b':=decide (a'>64);.ite true (.ite true (.ite (decide (2<=2)&&true&&decide (2<=1000000)) (.ite (yo [Dl (a'==0) 12,Dl b' 5] !=0) (.leaf (.dat i64 (yo [Dl (a'==0) 12,Dl b' 5])) ([(0,.arr false 25 i64 [Dl (a'==0) 12,Dl b' 5])])) (.ite true (L1 l l (a') 0 0 (BB 0) 1 (BB 1)) .fail)) .fail) .fail) .fail:=by kernel_rfl
theorem An(v0:List (Int×List UInt8))(v24:List (Int×List UInt8))(v25 v26 o0:Int)(o0_1:List Int)(o0_2:Int)(o0_3:List Int):stepT vZ (L1 v0 v24 v25 v26 o0 o0_1 o0_2 o0_3)=let a':=getD v24 (toNat v26) (0,[]);let b':=zq (zr zi);let g':=((o0,o0_1),o0_2,o0_3);let j':=decide (3<=3)&&true&&decide (3<=1000000);let k':=zl (zl 1 1) 1;let l':=((1,BB 1),1,BB 1);let c':=Jr (snd a');let e':=decide (fst a'<=fst (getD v0 (toNat (zc .i64 (v26-1))) (0,[])));let f':=(zl (zl 1 1) 1,.box [.dat i64 (VF (snd a')),.dat b' (VV (snd a')),.dat i64 (Sn (snd a')),.dat b' (SI (snd a'))]);let i':=!Sp.isNum (fst a');let d':Tr:=.ite (Sp.FC g'&&Sp.FC c') (L1 v0 v24 v25 (zc .i64 (v26+1)) (TX g' c') (TU g' c') (Ud g' c') (S9 g' c')) .fail;let h':=decide (VA c'<=0);.ite (decide (v26<v25)) (.ite (decide (0<=v26)&&decide (v26<(length v24:Int))) (.ite true (.ite true (.ite (decide (length (snd a')<=1000000)) (.ite (decide (2<=2)&&true&&decide (2<=1000000)) (.ite (yo [Dl i' 3,AO (snd a')] !=0) (.leaf (.dat i64 (yo [Dl i' 3,AO (snd a')])) ([(zl 1 1,.arr false 25 i64 [Dl i' 3,AO (snd a')]),(1,.box [.dat i64 (fst a'),.dat zh (snd a')]),(0,.box [.dat i64 o0,.dat b' o0_1,.dat i64 o0_2,.dat b' o0_3])])) (.ite (Hg (snd a')) (.ite (Dh (VF (snd a'),VV (snd a'))) (.ite true (.ite (RJ (Sn (snd a'),SI (snd a'))) (.ite true (.ite (decide (v26>0)) (.ite (decide (0<=zc .i64 (v26-1))&&decide (zc .i64 (v26-1)<(length v0:Int))) (.ite true (.ite j' (.ite (yo [Dl h' 3,Dl (!WB c') 1,Dl e' 11] !=0) (.leaf (.dat i64 (yo [Dl h' 3,Dl (!WB c') 1,Dl e' 11])) ([(zl k' 1,.arr false 25 i64 [Dl h' 3,Dl (!WB c') 1,Dl e' 11]),f',(zl 1 1,.arr false 25 i64 [Dl i' 3,AO (snd a')]),(1,.box [.dat i64 (fst a'),.dat zh (snd a')]),(0,.box [.dat i64 o0,.dat b' o0_1,.dat i64 o0_2,.dat b' o0_3])])) d') .fail) .fail) .fail) (.ite true (.ite j' (.ite (yo [Dl h' 3,Dl (!WB c') 1,Dl false 11] !=0) (.leaf (.dat i64 (yo [Dl h' 3,Dl (!WB c') 1,Dl false 11])) ([(zl k' 1,.arr false 25 i64 [Dl h' 3,Dl (!WB c') 1,Dl false 11]),f',(zl 1 1,.arr false 25 i64 [Dl i' 3,AO (snd a')]),(1,.box [.dat i64 (fst a'),.dat zh (snd a')]),(0,.box [.dat i64 o0,.dat b' o0_1,.dat i64 o0_2,.dat b' o0_3])])) d') .fail) .fail)) .fail) .fail) .fail) .fail) .fail)) .fail) .fail) .fail) .fail) .fail) (.ite true (.ite (jl g'&&jl l') (.ite true (.leaf (.dat i64 (Dl (!eQ g' l'==0) 15)) ([(zl 1 1,.box [.dat i64 (1:Int),.dat b' (BB 1),.dat i64 (1:Int),.dat b' (BB 1)]),(1,.box [.dat i64 o0,.dat b' o0_1,.dat i64 o0_2,.dat b' o0_3]),(0,.box [.dat i64 o0,.dat b' o0_1,.dat i64 o0_2,.dat b' o0_3])])) .fail) .fail) .fail):=by kernel_rfl
end T63
namespace T62
def T(l:List (Int×List UInt8)):Tr:=tree Tn false 9 62 (Af ([zf (zo i64 zh)]) l)
def L1(v0:List (Int×List UInt8))(v3:List UInt8)(v4:Int):Tr:=re ((T []).R.R) (AA 94 [(0,.dat (zf (zo i64 zh)) v0),(3,.dat zh v3),(4,.dat i64 v4)] [] 0)
theorem Al(l:List (Int×List UInt8)):T l=.ite ((length l:Int)==0) (.leaf (.dat i64 (12:Int)) []) (.ite (decide ((length l:Int)>64)) (.leaf (.dat i64 (5:Int)) []) (L1 l ([(48:UInt8)]) 0)):=by kernel_rfl
def L2(v0:List (Int×List UInt8))(v3:List UInt8)(v4 v5:Int):Tr:=re ((stepT Tn (L1 [] [] 0)).L.L.L.L.L.L) (AA 94 [(0,.dat (zf (zo i64 zh)) v0),(3,.dat zh v3),(4,.dat i64 v4),(5,.dat i64 v5)] [] 0)
theorem An(v0:List (Int×List UInt8))(v3:List UInt8)(v4:Int):stepT Tn (L1 v0 v3 v4)=let c':=getD v0 (toNat v4) (0,[]);let e':=decide (v4<(length v0:Int));let b':=decide (0<=v4)&&e';let a':Tr:=.ite b' (.ite (decide (length (snd c')<=1000000)) (L2 v0 v3 v4 (AO (snd c'))) .fail) .fail;let d':Tr:=.ite false a' (L2 v0 v3 v4 3);.ite (e') (.ite b' (.ite (decide (fst c'<(-999999999))) d' (.ite b' (.ite (decide (fst c'>999999999)) d' (.ite true a' (L2 v0 v3 v4 0))) .fail)) .fail) (.ite (!v3==[(49:UInt8)]) (.leaf (.dat i64 (15:Int)) []) (.leaf (.dat i64 (0:Int)) [])):=by kernel_rfl
def L3(v0:List (Int×List UInt8))(v3:List UInt8)(v4 v5:Int):Tr:=re ((stepT Tn (L2 [] [] 0 0)).L.L.L.L) (AA 94 [(0,.dat (zf (zo i64 zh)) v0),(3,.dat zh v3),(4,.dat i64 v4),(5,.dat i64 v5)] [] 0)
theorem AZ(v0:List (Int×List UInt8))(v3:List UInt8)(v4 v5:Int):stepT Tn (L2 v0 v3 v4 v5)=let a':=snd (getD v0 (toNat v4) (0,[]));.ite (v5==0) (.ite (decide (0<=v4)&&decide (v4<(length v0:Int))) (.ite (decide (length a'<=1000000)) (.ite (decide (GL a'<=0)) (L3 v0 v3 v4 3) (L3 v0 v3 v4 v5)) .fail) .fail) (L3 v0 v3 v4 v5):=by kernel_rfl
def L4(v0:List (Int×List UInt8))(v3:List UInt8)(v4 v5:Int):Tr:=re ((stepT Tn (L3 [] [] 0 0)).L.L.L.L) (AA 94 [(0,.dat (zf (zo i64 zh)) v0),(3,.dat zh v3),(4,.dat i64 v4),(5,.dat i64 v5)] [] 0)
theorem CU(v0:List (Int×List UInt8))(v3:List UInt8)(v4 v5:Int):stepT Tn (L3 v0 v3 v4 v5)=let a':=snd (getD v0 (toNat v4) (0,[]));.ite (v5==0) (.ite (decide (0<=v4)&&decide (v4<(length v0:Int))) (.ite (Bj a') (.ite (!Xv a') (L4 v0 v3 v4 1) (L4 v0 v3 v4 v5)) .fail) .fail) (L4 v0 v3 v4 v5):=by kernel_rfl
def L5(v0:List (Int×List UInt8))(v3:List UInt8)(v4 v5:Int):Tr:=re ((stepT Tn (L4 [] [] 0 0)).L.L.L.L.L) (AA 94 [(0,.dat (zf (zo i64 zh)) v0),(3,.dat zh v3),(4,.dat i64 v4),(5,.dat i64 v5)] [] 0)
theorem Ct(v0:List (Int×List UInt8))(v3:List UInt8)(v4 v5:Int):stepT Tn (L4 v0 v3 v4 v5)=let a':=L5 v0 v3 v4 v5;.ite (v5==0) (.ite (decide (v4>0)) (.ite (decide (0<=zc .i64 (v4-1))&&decide (zc .i64 (v4-1)<(length v0:Int))) (.ite (decide (0<=v4)&&decide (v4<(length v0:Int))) (.ite (decide (fst (getD v0 (toNat (zc .i64 (v4-1))) (0,[]))>=fst (getD v0 (toNat v4) (0,[])))) (L5 v0 v3 v4 11) a') .fail) .fail) a') a':=by kernel_rfl
theorem Ei(v0:List (Int×List UInt8))(v3:List UInt8)(v4 v5:Int):stepT Tn (L5 v0 v3 v4 v5)=let a':=snd (getD v0 (toNat v4) (0,[]));.ite (v5 !=0) (.leaf (.dat i64 v5) []) (.ite (decide (0<=v4)&&decide (v4<(length v0:Int))) (.ite (Bj v3&&Bj a') (L1 v0 (GJ v3 a') (zc .i64 (v4+1))) .fail) .fail):=by kernel_rfl
end T62
namespace T130
def T(n:Int):Tr:=tree iW false 9 130 (Af ([zr yh]) n)
theorem Al(n:Int):T n=.ite (decide (n>=(-999999999))) (.leaf (.dat zk (decide (n<=999999999))) []) (.leaf (.bl false) []):=by kernel_rfl
end T130
end
end Go.Pe
namespace Go.Sp
theorem Ol(q:Rat):LH (AE q)=ze q.den:=by
 obtain⟨_,c2,c3⟩:=EF q;unfold LH;rw[c2,c3];by_cases h:q.den=1
 ·rw[wc (by simpa using h),h,yt (by decide)];rfl
 ·rw[wd (w4 h),wc h]
theorem JD(q:Rat):DN (AE q)=if JE q=true then 4 else 0:=by
 obtain⟨c1,_,_⟩:=EF q;unfold DN;rw[Ol,c1,(DU q.num).2.1];have hb:JE q=true↔600<(ze q.num.natAbs).length\/600<(ze q.den).length:=by
  unfold JE QT;rw[yf,w5,w5,zt]
 by_cases h:JE q=true
 ·rw[wd (hb.1 h),wd h]
 ·rw[wc (fun k=>h (hb.2 k)),wc h]
theorem Yp(q:Rat):E3 (Yw 0 q) (Zr 0 q) (AE q) 0=true:=by
 unfold E3 Yw Zr;rw[JD];by_cases h:JE q=true
 ·simp[h]
 ·simp[h]
theorem TO{e:Int}(h:e≠0)(q:Rat)(w:List UInt8):E3 (Yw e q) (Zr e q) w e=true:=by
 unfold E3 Yw Zr;simp[h]
theorem Lh:AE 0=[48]:=by
 unfold AE;rw[wd (show Rat.den 0=1 from rfl)];show zw 0=[48];unfold zw;rw[wc (by decide),show(0:Int).toNat=0 from rfl,yt (by decide)];rfl
theorem Rq{s:List UInt8}(h:VL s=true):Bj s=true/\s.length<=3000:=by
 unfold VL at h;rwa [zd,w5]at h
theorem tI{s:List UInt8}(h:zH s=true):VL s=true/\AP s≠0:=by
 unfold zH at h;rwa [zd,w5]at h
theorem Uo{q:Rat}{k:Nat}(h:ER k q)(hk:k<=400000):(AE q).length<=1000000:=by
 have:=Kv (h.mono (show k<=k+1 by omega)) (by omega);omega
structure Nu(k:Nat)(s:List UInt8)(q:Rat):Prop where
 t:s=AE q
 z:ER k q
theorem Nu.mono{i j:Nat}{s:List UInt8}{q:Rat}(h:Nu i s q)(k:i<=j):Nu j s q:=⟨h.t,h.z.mono k⟩
theorem Nu.rat{k:Nat}{s:List UInt8}{q:Rat}(h:Nu k s q):AP s=q:=by rw[h.t,CB]
theorem Nu.num{k:Nat}{s:List UInt8}{q:Rat}(h:Nu k s q)(hk:k<=1999):Bj s=true:=by rw[h.t];exact LL h.z hk
theorem YP(n:Int):AV n=AE (n:Rat):=by
 unfold AE AV;rw[wd (Rat.den_intCast ..),jc]
theorem rG:AP [49,47,50]=1/2:=by decide+kernel
theorem XO:Nu 1 [49,47,50] (1/2):=by
 refine⟨by decide+kernel,?_⟩;unfold ER;decide+kernel
theorem Nu.Gq{i j:Nat}{a b:List UInt8}{p q:Rat}(ha:Nu i a p)(hb:Nu j b q):Nu (i+j) (Sp.Gq a b) (p*q):=⟨by unfold Sp.Gq;rw[ha.rat,hb.rat],ha.z.mul hb.z⟩
theorem Ya:iZ 1=true:=by decide+kernel
theorem T8{n:Nat}(h0:0<n):iZ ((2*n:Nat):Int)=iZ (n:Int):=by
 unfold iZ;rw[yg,yg];have e:(2*n).log2=n.log2+1:=by
  rw[Nat.log2_two_mul (by omega)]
 rw[e,yx];congr 1;apply propext;omega
theorem XR{n:Nat}(h0:0<n):iZ ((2*n+1:Nat):Int)=false:=by
 unfold iZ;rw[yg,w9];intro h;have h:2*n+1=2^(2*n+1).log2:=by omega
 have hl:1<=(2*n+1).log2:=(Nat.le_log2 (by omega)).2 (by omega);obtain⟨k,hk⟩:∃k,(2*n+1).log2=k+1:=⟨(2*n+1).log2-1,by omega⟩;rw[hk,yx]at h;omega
theorem eS(q:Rat):K9 (AE q)=max (ze q.num.natAbs).length (ze q.den).length:=by
 unfold K9;rw[(EF q).1,(DU q.num).2.1,Ol]
theorem JS{s:List UInt8}(h:AO s=0):Nu (K9 s) s (AP s):=by
 obtain⟨n,_⟩:=Ey h;have e:=(DG n).1;have hz:=eS (AP s);rw[e]at hz;exact⟨e.symm,DJ _ (by rw[hz];exact Nat.le_max_left ..),DJ _ (by rw[hz];exact Nat.le_max_right ..)⟩
theorem mO{s:List UInt8}{n:Nat}(h:BY s n=true):s.length<=40/\(AO s=0->K9 s<=n):=by
 unfold BY at h;rw[zd,w5,yf,w5]at h;refine⟨h.1,fun h0=>?_⟩;rcases h.2 with k|k
 ·exact wh h0 k
 ·unfold P2 at k;rw[zd,zd,w5,w5]at k;unfold K9;omega
theorem Qt{l:List Bg}{n d:Nat}(h:BT l n d=true):(l.length<=n\/64<l.length)/\l.length<=70/\∀c∈l,c.2.length<=40/\(AO c.2=0->K9 c.2<=d):=by
 unfold BT at h;rw[zd,zd,yf,w5,w5,w5,qh]at h;exact⟨by omega,h.1.2,fun c hc=>mO (h.2 c hc)⟩
theorem bV{d:Nat}:∀(l:List Bg),(∀c∈l,AO c.2=0->K9 c.2<=d)->Fl l<=(d+1)*l.length
 |[],_=>Nat.zero_le _
 |c::l,h=>by
  have h1:=bV l fun x hx=>h x (qj _ hx)
  have h2:=h c (qm ..);rw[Fl,zu,Nat.mul_add];split
  ·next k=>have:=h2 k;omega
  ·omega
theorem Vj{l:List Bg}(h:K8 l=true):l.length<=1000/\(∀c∈l,c.2.length<=1000000)/\(64<l.length\/Fl l<=1300):=by
 unfold K8 at h;rw[zd,zd,yf,w5,w5,w5,qh]at h;exact⟨h.1.1,fun c hc=>w6 (h.1.2 c hc),h.2⟩
theorem Jd{l:List Bg}(h:BT l 10 9=true):K8 l=true:=by
 obtain⟨h1,h2,h3⟩:=Qt (n:=10) (d:=9) h;have h4:=bV (d:=9) l fun c hc=>(h3 c hc).2
 unfold K8;rw[zd,zd,yf,w5,w5,w5,qh];exact⟨⟨by omega,fun c hc=>w4 (by have:=(h3 c hc).1;omega)⟩,by omega⟩
theorem jF{o:Option Int}{c:Bg}(h:Cr o c=0):isNum c.1=true/\AO c.2=0/\0<AP c.2/\Xv c.2=true/\sG o c.1=false:=by
 unfold Cr at h;split at h
 ·cases h
 next h1=>
 split at h
 ·next h2=>exact wh h h2
 next h2=>
 split at h
 ·cases h
 next h3=>
 split at h
 ·cases h
 next h4=>
 split at h
 ·cases h
 next h5=>
 exact⟨by simpa using h1,by simpa using h2,Rat.not_le.1 h3,by simpa using h4,by simpa using h5⟩
theorem CE{n:Int}(h:isNum n=true): -999999999<=n/\n<=999999999:=by
 unfold isNum at h;rwa [zd,w5,w5]at h
theorem Ln(o:Option Int)(s:Rat)(c:Bg)(l:List Bg):HP o s (c::l)=if Cr o c≠0 then Cr o c else HP (some c.1) (s+AP c.2) l:=by rw[HP]
theorem Tq:∀ {l:List Bg} {o:Option Int} {s:Rat},HP o s l=0->∀c∈l,isNum c.1=true/\AO c.2=0/\0<AP c.2/\Xv c.2=true
 |[],_,_,_,c,hc=>by cases hc
 |x::l,o,s,h,c,hc=>by
  rw[Ln]at h;split at h
  ·next k=>exact wh h k
  next k=>
  have k:Cr o x=0:=by simpa using k
  rcases ji.1 hc with rfl|hc
  ·have:=jF k;exact⟨this.1,this.2.1,this.2.2.1,this.2.2.2.1⟩
  ·exact Tq h c hc
theorem LR{l:List Bg}(h:As l=0):l≠[]/\l.length<=64/\HP none 0 l=0:=by
 unfold As at h;split at h
 ·cases h
 next h1=>
 split at h
 ·cases h
 next h2=>
 exact⟨h1,by omega,h⟩
end Go.Sp
namespace Go.Pe
open Sp
open Go.Det
section
open List Int Prod
namespace T111
def T(n:Int):Tr:=tree qT false 9 111 (Af ([zr yh]) n)
theorem Al(n:Int):T n=let a':=zq (zr zi);.ite true (.ite true (.leaf (PV.agg [.dat i64 n,.dat a' (BB n),.dat i64 (1:Int),.dat a' (BB 1)]) ([(zl (zl 0 1) 1,.box [.dat i64 n,.dat a' (BB n),.dat i64 (1:Int),.dat a' (BB 1)]),(zl 0 1,.box [.dat i64 n,.dat a' (BB n)]),(0,.box [.dat i64 n,.dat a' (BB n),.dat i64 (1:Int),.dat a' (BB 1)])])) .fail) .fail:=by kernel_rfl
end T111
namespace T44
def T(a:List UInt8):Tr:=tree zX false 9 44 (Af ([zh]) a)
theorem Al(a:List UInt8):T a=.ite (Bj a&&Bj [(49:UInt8),(47:UInt8),(50:UInt8)]) (.leaf (.dat zh (Gq a [(49:UInt8),(47:UInt8),(50:UInt8)])) []) .fail:=by kernel_rfl
end T44
namespace T214
def T(s t:List UInt8):Tr:=tree xG false 9 214 (Af ([zh,zh]) (s,t))
theorem Al(s t:List UInt8):T s t=let a':=(length t:Int);let b':=decide (toNat a'<=length s);.ite (decide ((length s:Int)>=a')) (.ite (decide (0<=a')&&decide (0<=toNat a')&&b') (.ite (take (toNat a') s==t) (.ite (decide (0<=a')&&true&&b'&&decide (length s<=length s)) (.leaf (.dat zh (take (Nat.sub (length s) (toNat a')) (drop (toNat a') s))) []) .fail) (.leaf (.dat zh s) [])) .fail) (.leaf (.dat zh s) []):=by kernel_rfl
end T214
namespace T248
def T(a:Int×List Int):Tr:=tree XX1 false 9 248 (Af ([zo i64 (zq (zr zi))]) a)
theorem Al(a:Int×List Int):T a=let c':=[(0,.box [.dat i64 (fst a),.dat (zq (zr zi)) (snd a)])];let d':=Bt (Ae (z8 (fst a,snd a)));let a':=(↑(length d'):Int);let b':=getD d' (toNat (zc .i64 (a'-1))) 0;.ite (Dh (fst a,snd a)) (.ite (a'==0) (.leaf (.dat i64 (0:Int)) c') (.ite (decide (0<=zc .i64 (a'-1))&&decide (zc .i64 (a'-1)<a')) (.ite (Sp.u64 b') (.leaf (.dat i64 (zc .i64 (zc .i64 (64*zc .i64 (a'-1))+EU b'))) c') .fail) .fail)) .fail:=by kernel_rfl
end T248
namespace T199
def T(a:Int×List Int):Tr:=tree wP false 9 199 (Af ([zo i64 (zq (zr zi))]) a)
theorem Al(a:Int×List Int):T a=let a':=[(0,.box [.dat i64 (fst a),.dat (zq (zr zi)) (snd a)])];let b':=AV (z8 (fst a,snd a));.ite (A4 (fst a,snd a)) (.ite (decide (Pj (fst a,snd a)>1800)) (.ite (A4 (fst a,snd a)) (.ite (Rn b' [(45:UInt8)]) (.leaf (.dat zk (decide ((↑(length (A0 b')):Int)>600))) a') .fail) .fail) (.leaf (.bl false) a')) .fail:=by kernel_rfl
end T199
namespace T131
def T(a:(Int×List Int)×Int×List Int):Tr:=tree yV false 9 131 (Af ([zo (zo i64 (zq (zr zi))) (zo i64 (zq (zr zi)))]) a)
theorem Al(a:(Int×List Int)×Int×List Int):T a=let b':=zq (zr zi);let c':=(fst (fst a),snd (fst a));let d':=(fst (snd a),snd (snd a));let a':=[(0,.box [.dat i64 (fst (fst a)),.dat b' (snd (fst a)),.dat i64 (fst (snd a)),.dat b' (snd (snd a))])];.ite (A4 c') (.ite (Eb c') (.leaf (.bl true) a') (.ite (A4 d') (.leaf (.dat zk (Eb d')) a') .fail)) .fail:=by kernel_rfl
end T131
namespace T132
def T(a:(Int×List Int)×Int×List Int):Tr:=tree yV false 9 132 (Af ([zo (zo i64 (zq (zr zi))) (zo i64 (zq (zr zi)))]) a)
theorem Al(a:(Int×List Int)×Int×List Int):T a=let b':=(fst (fst a),snd (fst a));let c':=(fst (snd a),snd (snd a));let d':=zq (zr zi);let a':=[(0,.box [.dat i64 (fst (fst a)),.dat d' (snd (fst a)),.dat i64 (fst (snd a)),.dat d' (snd (snd a))])];.ite true (.ite (CJ c') (.ite (A4 b') (.leaf (.dat zh (AV (z8 b'))) a') .fail) (.ite (A4 b') (.ite (decide (length (AV (z8 b'))+1<=4611686018427387904)) (.ite (A4 c') (.ite (decide (length (AV (z8 b')++[(47:UInt8)])+length (AV (z8 c'))<=4611686018427387904)) (.leaf (.dat zh (AV (z8 b')++[(47:UInt8)]++AV (z8 c'))) a') .fail) .fail) .fail) .fail)) .fail:=by kernel_rfl
end T132
namespace T103
def T(a:(Int×List Int)×Int×List Int):Tr:=tree wU false 9 103 (Af ([zo (zo i64 (zq (zr zi))) (zo i64 (zq (zr zi)))]) a)
theorem Al(a:(Int×List Int)×Int×List Int):T a=let b':=((fst (fst a),snd (fst a)),fst (snd a),snd (snd a));let c':=zq (zr zi);let a':=[(0,.box [.dat i64 (fst (fst a)),.dat c' (snd (fst a)),.dat i64 (fst (snd a)),.dat c' (snd (snd a))])];.ite (jl b') (.ite (DM b') (.leaf (.tup [.dat zh [],.dat i64 (4:Int)]) a') (.ite (jl b') (.leaf (.tup [.dat zh (FT b'),.dat i64 (0:Int)]) a') .fail)) .fail:=by kernel_rfl
end T103
namespace T110
def T(a:(Int×List Int)×Int×List Int):Tr:=tree XX3 false 9 110 (Af ([zo (zo i64 (zq (zr zi))) (zo i64 (zq (zr zi)))]) a)
theorem Al(a:(Int×List Int)×Int×List Int):T a=let a':=zq (zr zi);let b':=(fst (fst a),snd (fst a));.ite (Dh b') (.leaf (.dat i64 (EI b')) ([(0,.box [.dat i64 (fst (fst a)),.dat a' (snd (fst a)),.dat i64 (fst (snd a)),.dat a' (snd (snd a))])])) .fail:=by kernel_rfl
end T110
namespace T25
def T(a:List UInt8)(e:Int)(w:List UInt8)(bad:Int):Tr:=tree yA false 9 25 (Af ([zh,zr yh,zh,zr yh]) (a,e,w,bad))
theorem Al(a:List UInt8)(e:Int)(w:List UInt8)(bad:Int):T a e w bad=let b':Tr:=.leaf (.bl false) [];let a':Tr:=.ite (e==0) (.leaf (.dat zk (a==w)) []) b';.ite (bad==0) (.ite (decide (length w<=1000000)) (.ite (DN w !=0) (.ite (a==[]) (.leaf (.dat zk (e==DN w)) []) b') a') .fail) (.ite (bad !=0) (.ite (a==[]) (.leaf (.dat zk (e==bad)) []) b') a'):=by kernel_rfl
end T25
end
namespace T200
variable {Q:PV->Ob->Prop}
theorem Ap(neg:Bool)(V:Nat)(h0:0<V)(hV:Small V)(hG:(Cf (V+1) V).length<=1000000)(hfin:Exit neg (Cf (V+1) V) Q):Ends PQ (L1 neg (Bt (V:Int)) 1 [1000000000000000000]) Q:=by
 have hlt:V % 10^18<10^18:=jj _ (by decide);have hg:∀s,s=(if V/10^18=0 then ze (V % 10^18)else FZ 18 (V % 10^18))->[s]++(if V/10^18=0 then[]else Cf V (V/10^18))=Cf (V+1) V:=by
  rintro s rfl;have eg:Cf (V+1) V=if V<10^18 then[ze V]else FZ 18 (V % 10^18)::Cf V (V/10^18):=rfl
  rw[eg];by_cases c:V<10^18
  ·rw[wd c,wd (by omega),wd (by omega),Nat.mod_eq_of_lt c];rfl
  ·rw[wc c,wc (by omega),wc (by omega)];rfl
 have next:∀s,s=(if V/10^18=0 then ze (V % 10^18)else FZ 18 (V % 10^18))->Ends PQ (L2 neg (Bt ((V/10^18:Nat):Int)) 1 1 [s] [1000000000000000000]) Q:=
  fun s hs=>A2 neg _ hG hfin V (V/10^18) [s] (by omega) (hV.le (q9 _ _)) (hg s hs)
 refine Ends.Am (An ..) (zg (w4 (by have:=IY h0;omega)) (zg (Ab rfl hV.div) ?_));rw[UQ,UA];rcases y8 (V % 10^18)with r0|r0
 ·have q0:V/10^18≠0:=by omega
  rw[r0,show((0:Nat):Int)=0 from rfl,Ku];refine jh rfl (zg (w4 (by have:=IY (V:=V/10^18) (by omega);omega)) (zg rfl (zg rfl (zg rfl (next _ ?_)))));have hp:=Sj 0 (by decide);rw[yt (by omega)]at hp;rw[wc q0,r0, <-hp];rfl
 ·rw[TN (r:=((V % 10^18:Nat):Int)) (by omega) (by omega)];have hgd:jm [((V % 10^18:Nat):Int)] 0 0=((V % 10^18:Nat):Int):=rfl;rw[hgd,LQ];have hd:=Sw hlt;have hr18:((V % 10^18:Nat):Int)<1000000000000000000:=by omega
  have h18:0<(ze (V % 10^18)).length:=by
   rw[z6,je];split<;>omega
  refine zg rfl (zg rfl (zg (Ab (Ab (w4 (Int.natCast_nonneg _)) (w4 hr18)) rfl) ?_));rw[wr _ (by omega) (by omega)];by_cases q0:V/10^18=0
  ·rw[q0];refine jh (by rw[show((0:Nat):Int)=0 from rfl,Ku];rfl) (zg rfl ?_);have:=next _ rfl;rw[wd q0,q0]at this;exact this
  ·have hpad:=Sj _ hlt;refine zg (w4 (by have:=IY (V:=V/10^18) (by omega);omega)) (zg (Ab (Ab (w4 (by omega)) (w4 (by omega))) rfl) (zg (w4 ?_) (zg rfl (next _ ?_))))
   ·rw[<-zj,hpad];unfold FZ;rw[zj,List.length_replicate];omega
   ·rw[wc q0];exact hpad
end T200
theorem tT(n:Nat):(18446744073709551616:Nat)^n<=10^(20*n):=by
 rw[Nat.pow_mul];exact Nat.pow_le_pow_left (by decide) n
theorem Zq{V k:Nat}(h:(V:Int)<(Ai:Int)^k):V<18446744073709551616^k:=by
 rw[<-Q6 k]at h;exact qk.mp h
theorem ZF{V k:Nat}(h:(V:Int)<(Ai:Int)^k)(hk:1<=k):(ze V).length<=20*k:=by
 rw[z6];obtain⟨j,hj⟩:∃j,20*k=j+1:=⟨20*k-1,by omega⟩;have h3:=ym (Zq h) (tT k);rw[hj]at h3 ⊢;exact MO j V h3
theorem Hw{V:Nat}(h:Small V):(ze V).length<=180000:=ZF (k:=9000) h.h (by decide)
theorem Lc:∀(f v:Nat) (s:List UInt8),s∈Cf f v->0<s.length
 |0,v,s,h=>by cases h
 |f+1,v,s,h=>by
  have eg:Cf (f+1) v=if v<10^18 then[ze v]else FZ 18 (v % 10^18)::Cf f (v/10^18):=rfl
  have hd:∀r,0<(ze r).length:=fun r=>by rw[z6,je];split<;>omega
  rw[eg]at h;split at h
  ·rw[y7]at h;subst h;exact hd _
  ·rcases ji.1 h with rfl|h
   ·unfold FZ;rw[zj];have:=hd (v % 10^18);omega
   ·exact Lc f _ s h
theorem Od:∀(l:List (List UInt8)),(∀s∈l,0<s.length)->l.length<=l.flatten.length
 |[],_=>yc _
 |s::l,h=>by
  have h1:=Od l fun x hx=>h x (qj _ hx)
  have h2:=h s (qm ..);rw[qq,zj,zu];omega
theorem YG{V:Nat}(h:0<V):AV (-(V:Int))=45::ze V:=Lib.itoa_neg V h
theorem lN(hfmt:Ag Bh 249 UL):DF PQ:=Aa nM (Aa (T218.ok E7) (Aa Qf (Aa hfmt (Aa ZH AN))))
namespace T200
variable {Q:PV->Ob->Prop}
theorem Y2(neg:Bool){V:Nat}(hV:Small V)(hq:∀ob,Q (.dat .str (if neg=true then 45::ze V else ze V)) ob):Exit neg (Cf (V+1) V) Q:=by
 have hne:=Lc (V+1) V;have ht:=ID (V+1) V (by omega);have hd:=Hw hV;have hl:=Od _ hne;have hr:(Cf (V+1) V).flatten.length=(ze V).length:=by
  rw[<-ht,yy,yy,List.map_reverse,List.sum_reverse]
 have hpos:0<(Cf (V+1) V).length:=by
  have eg:Cf (V+1) V=if V<10^18 then[ze V]else FZ 18 (V % 10^18)::Cf V (V/10^18):=rfl
  rw[eg];split<;>simp
 generalize Cf (V+1) V=G at*;unfold Exit;refine qn (fun c=>zg rfl (zg rfl ?_)) (fun c=>?_)
 ·rw[wd c]at hq;rw[wr _ (by omega) (by omega)];exact EE G (45::ze V) (by rw[zu];omega) (by omega) hq G.length [45] _ 1 (yc _) rfl rfl (by decide) (by rw[List.take_length,ht];rfl)
 ·rw[wc (by rw[c];decide)]at hq;rw[wr _ (by omega) (by omega)];obtain⟨i,hi⟩:∃i,i+1=G.length:=⟨G.length-1,by omega⟩;exact E9 G (ze V) (by omega) (by omega) hq i hi _ (by omega) (hne _ (List.getElem_mem _)) ht
theorem ok(hfmt:Ag Bh 249 UL):Ag Bh 200 uI:=by
 refine Kg (X:=PQ) rfl (lN hfmt) (d:=9) (by kernel_rfl) (by kernel_rfl) (by kernel_rfl) (fun(a:Int×List Int) ha=>?_) (Bn (by kernel_rfl));have ha:A4 a=true:=ha;have hk:=(Ce ha).1;have hr:=(DS hk).1;refine qt (Al a) (qn (fun c=>zg (Dg hr.1 hr.2) (ya (qw rfl rfl ?_))) (fun c=>zg hk ?_))
 ·have c:a.2=[]:=by simpa using c
  show AV a.1=AV (z8 a);rw[Bl c]
 ·have c:a.2≠[]:=by rintro k;rw[k]at c;simp at c
  have hb:=bounds ha;have hbig:(9223372036854775808:Int)<=Ae (z8 a):=by
   obtain⟨_,hw⟩:=DS hk;obtain⟨s,w⟩:=a;rcases hw with hw|⟨_,_,h3⟩
   ·exact wh hw c
   ·rw[VC c,Ah];have h3:9223372036854775808<=Ak w:=h3;split<;>omega
  obtain⟨V,hV⟩:=qc (AF (z8 a));have hVa:=Ah (z8 a);rw[hV]at hb hbig hVa ⊢;have hs:Small V:=⟨hb⟩;have hd:=Hw hs;have hp:0<V:=by omega
  have hl:=Od _ (Lc (V+1) V);have ht:=ID (V+1) V (by omega);have hlen:(Cf (V+1) V).flatten.length=(ze V).length:=by
   rw[<-ht,yy,yy,List.map_reverse,List.sum_reverse]
  refine Ap _ V hp hs (by omega) (Y2 _ hs fun ob=>qw rfl rfl ?_);show(if decide (z8 a<0)=true then 45::ze V else ze V)=AV (z8 a);by_cases n:z8 a<0
  ·rw[wd (w4 n),show z8 a= -(V:Int)from by omega,YG hp]
  ·rw[wc (by simpa using n),show z8 a=(V:Int)from by omega,LQ]
end T200
end Go.Pe
namespace Go.Sp
theorem Dp{a:Bool×List Int}(h:CG a=true):A5 a.2=true/\a.2.length<=3000/\(a.1=true->a.2≠[]):=by
 unfold CG at h;rw[zd,zd,w5,yf,w5,Bool.not_eq_true']at h;refine⟨h.1.1,h.1.2,fun k=>?_⟩;rcases h.2 with x|x
 ·rw[k]at x;cases x
 ·exact x
theorem Gz{a:Bool×List Int}(h:CG a=true):Ae (vR a)=Ar a.2/\0<=Ar a.2:=by
 obtain⟨h1,h2,h3⟩:=Dp h;have h0:=Ay (b:=B9) (by decide) (Bk h1).2.1;have h0:0<=Ar a.2:=h0;refine⟨?_,h0⟩;unfold vR;rw[Ah];split<;>omega
theorem OX{a:Bool×List Int}(h:CG a=true):a.1=rN (vR a):=by
 obtain⟨h1,h2,h3⟩:=Dp h;obtain⟨_,h0⟩:=Gz h;unfold rN vR;cases ha:a.1 with
 |false=>rw[wc (by decide)];symm;rw[w9];omega
 |true=>
  rw[wd rfl];symm;rw[w5];have:=I1 (b:=B9) (by decide) (Bk h1).2.1 (Bk h1).2.2 (h3 ha);have:0<Ar a.2:=this;omega
theorem sS{a:Bool×List Int}(h:CG a=true):a.2=rW (vR a):=by
 unfold rW;rw[(Gz h).1];exact Ia (b:=B9) (by decide) (Bk (Dp h).1).2.1 (Bk (Dp h).1).2.2
theorem pQ{a:Bool×List Int}(h:CG a=true):a=(rN (vR a),rW (vR a)):=Prod.ext (OX h) (sS h)
theorem Vd(k:Nat):(B9:Int)^k=10^(9*k):=by
 have:(B9:Int)=10^9:=by decide
 rw[this, <-Int.pow_mul]
theorem kN{n:Int}{k:Nat}(h:n.natAbs<10^(9*k)):Ae n<(B9:Int)^k:=by
 rw[Ah,Vd];have:((10^(9*k):Nat):Int)=(10:Int)^(9*k):=by simp
 rw[<-this];exact qk.mpr h
theorem MV(n:Int):0<=Ae n:=by rw[Ah];omega
theorem JN(n:Int):Ar (rW n)=Ae n:=CP (b:=B9) (by decide) (MV n)
theorem EP(n:Int):vR (rN n,rW n)=n:=by
 unfold vR;show(if rN n=true then -Ar (rW n)else Ar (rW n))=n;rw[JN,Ah];unfold rN;by_cases h:n<0
 ·rw[wd (w4 h)];omega
 ·rw[wc (by simpa using h)];omega
theorem OH{n:Int}(h:n.natAbs<10^27000):CG (rN n,rW n)=true:=by
 have k:27000=9*3000:=rfl;rw[k]at h;obtain⟨h1,_,h3,h4⟩:=GI (n:=Ae n) (k:=3000) (MV n) (kN h) (by decide);unfold CG;have h5:A5 (rW n)=true:=h1;have h6:(rW n).length<=3000:=h4;rw[h5,w4 h6];cases hb:rN n with
 |false=>rfl
 |true=>
  have:rW n≠[]:=by
   intro e;have h7:=JN n;rw[e]at h7;have h7:0=Ae n:=h7;unfold rN at hb;have hb:=w6 hb;rw[Ah]at h7;omega
  rw[w4 this];rfl
theorem fG(k:Nat):((10^k:Nat):Int)=(10:Int)^k:=by rw[yp];rfl
theorem bW{x:Nat}(j k:Nat)(h:j<=k)(hx:x<10^j):x<10^k:=ym hx (yw (by decide) h)
theorem uN{a:Bool×List Int}(h:CG a=true):(vR a).natAbs<10^27000:=by
 obtain⟨h1,h2,h3⟩:=Dp h;have h4:=Bq (b:=B9) (by decide) (Bk h1).2.1;have h5:(B9:Int)^a.2.length<=(B9:Int)^3000:=AH (by decide) h2;have h6:Ae (vR a)<(B9:Int)^3000:=by rw[(Gz h).1];exact yn h4 h5
 rw[Ah,Vd]at h6;have:=fG (9*3000);rw[<-this]at h6;have k:27000=9*3000:=rfl;rw[k];exact qk.mp h6
theorem gM{neg:Bool}{w:List Int}{n:Int}(hd:Av B9 w)(hv:Ar w=Ae n)(hn:n≠0->neg=rN n):(B6 neg w,Au w)=(rN n,rW n):=by
 have h:=Go.Pe.Lb (neg:=neg) hd hv;rw[h];have:(if neg=true then -Ae n else Ae n)=n:=by
  by_cases h0:n=0
  ·rw[h0];unfold Ae;split<;>simp
  ·rw[hn h0];unfold rN;rw[Ah];by_cases h:n<0
   ·rw[wd (w4 h)];omega
   ·rw[wc (by simpa using h)];omega
 rw[this]
theorem DE{s:List UInt8}(h:Bj s=true):CG (Bz s,Br s)=true/\vR (Bz s,Br s)=A6 s/\CG (Bi s,Be s)=true/\vR (Bi s,Be s)=AG s/\(AP s).num=A6 s/\((AP s).den:Int)=AG s/\Hg s=true/\(A6 s).natAbs<10^4000/\(AG s).natAbs<10^4000:=by
 obtain⟨h1,h2⟩:=DG h;obtain⟨s1,s2⟩:=W6 h;have e:(AP s).num=A6 s/\((AP s).den:Int)=AG s:=by
  have:=JK (AP s);rw[h1]at this;exact⟨this.1.symm,this.2.symm⟩
 have l1:(A6 s).natAbs<10^4000:=by rw[<-e.1];exact s1
 have l2:(AG s).natAbs<10^4000:=by rw[<-e.2,zt];exact s2
 have m:∀x:Nat,x<10^4000->x<10^27000:=fun x hx=>bW 4000 27000 (by decide) hx
 refine⟨OH (m _ l1),EP _,OH (m _ l2),EP _,e.1,e.2,?_,l1,l2⟩;obtain⟨c1,c2,c3⟩:=EF (AP s);rw[h1]at c1 c2 c3;have k1:=Go.Pe.T77.CX s;unfold Hg Em;rw[w4 (p:=s.length<=5999) (by omega),w4 (p:=(Ax s).length<=5999) (by omega),w4 (p:=(AM s).length<=5999) (by omega),qu,qu,Bool.and_true,zd];refine⟨?_,?_⟩
 ·obtain⟨i1,i2,i3,i4⟩:=DU (AP s).num;rw[c1];unfold A0 at i2;split at i2
  ·next c=>rw[wd c,i2];exact D9 _
  ·next c=>rw[wc c,i2];exact D9 _
 ·rw[c2];split
  ·rfl
  ·rw[wc (Fi (D9 _))];exact D9 _
end Go.Sp
namespace Go.Pe
open Sp
open Go.Det
theorem Wh{x:Int}{k:Nat}(h:x.natAbs<10^k):Ae x<(Ai:Int)^k:=by
 have h4:((10^k:Nat):Int)=(10:Int)^k:=yp ..;rw[Ah];refine yn ?_ (cS k);rw[<-h4];exact qk.mpr h
theorem Cc{q:Rat}{k:Nat}(h:ER k q)(hk:k<=4000):YL 4000 q:=by
 obtain⟨h1,h2⟩:=h.mono hk;have h3:=Wh (k:=4000) (x:=(q.den:Int)) (by rw[zt];exact h2);rw[Ah,zt]at h3;exact⟨Wh h1,h3⟩
def frS(s:List UInt8):AS:=((VF s,VV s),(Sn s,SI s))
theorem T6{s:List UInt8}(h:Bj s=true):EW (frS s) (AP s):=by
 obtain⟨_,_,_,_,e1,e2,_,l1,l2⟩:=DE h;have m:∀x:Int,x.natAbs<10^4000->Ae x<(Ai:Int)^9000:=fun x hx=>yn (Wh hx) (AH (by decide) (by decide))
 exact⟨(Ce (FA (De (m _ l1)))).1,(Ce (FA (De (m _ l2)))).1,(Jw _).trans e1.symm,(Jw _).trans e2.symm⟩
theorem Zb{d:AR}(h:Dh d=true):CJ d=decide (z8 d=1):=by
 unfold CJ;rw[Bool.eq_iff_iff,zd,w5,w5,w5];refine⟨fun⟨h1,h2⟩=>by rw[Bl h1];exact h2,fun e=>?_⟩;by_cases c:d.2=[]
 ·rw[Bl c]at e;exact⟨c,e⟩
 ·obtain⟨_,hw⟩:=DS h;obtain⟨s,w⟩:=d;rcases hw with hw|⟨_,_,h3⟩
  ·exact wh hw c
  ·rw[VC c]at e;have h3:9223372036854775808<=Ak w:=h3;split at e<;>omega
theorem QZ{f:AS}{q:Rat}(h:EW f q):DM f=JE q:=by
 unfold DM Eb JE;rw[h.vn,h.vd]
theorem TB{f:AS}{q:Rat}(h:EW f q):FT f=AE q:=by
 unfold FT AE;rw[Zb h.d,h.vn,h.vd];have e:decide ((q.den:Int)=1)=true↔q.den=1:=by rw[w5];omega
 by_cases c:q.den=1
 ·rw[wd (e.2 c),wd c];rfl
 ·rw[wc (fun k=>c (e.1 k)),wc c];show zw q.num++47::zw ((q.den:Nat):Int)=_;rw[qz]
theorem Xb{f:AS}{q:Rat}(h:EW f q):MG f=Yw 0 q/\ML f=Zr 0 q:=by
 unfold MG ML Yw Zr;rw[QZ h,TB h];exact⟨rfl,rfl⟩
theorem EW.Du{f:AS}{q:Rat}(h:EW f q)(hs:YL 4000 q):jl f=true:=by
 have:=h.FC hs;unfold Sp.FC at this;rw[zd]at this;exact this.1
theorem EW.cmp{f g:AS}{p q:Rat}(hf:EW f p)(hg:EW g q):eQ f g=if p<q then -1 else if q<p then 1 else 0:=by
 unfold eQ BO;rw[hf.vn,hf.vd,hg.vn,hg.vd];have h1:p<q↔p.num*(q.den:Int)<q.num*(p.den:Int):=Rat.lt_iff ..;have h2:q<p↔q.num*(p.den:Int)<p.num*(q.den:Int):=Rat.lt_iff ..;by_cases c:p<q
 ·rw[wd c,wd (h1.1 c)]
 ·rw[wc c,wc (fun k=>c (h1.2 k))];by_cases d:q<p
  ·rw[wd d,wd (h2.1 d)]
  ·rw[wc d,wc (fun k=>d (h2.2 k))]
end Go.Pe
namespace Go.Sp
theorem iT{n:Int}(h:0<=n):n+1<=2^(EU n).toNat:=by
 unfold EU;split
 ·have:n=0:=by omega
  subst this;decide
 ·have hb:=Nat.lt_log2_self (n:=n.toNat);have e:((n.toNat.log2:Int)+1).toNat=n.toNat.log2+1:=by omega
  have e2:((2^(n.toNat.log2+1):Nat):Int)=(2:Int)^(n.toNat.log2+1):=yp ..;rw[e, <-e2];generalize 2^(n.toNat.log2+1)=P at*;omega
theorem tF{w:List Int}(hd:Av Ai w){k:Nat}(hl:w.length=k+1):val Ai w<(Ai:Int)^k*(w.getD k 0+1):=by
 have h1:=Cb (Ai:Int) w k (by omega);have h2:=Bq (b:=(Ai:Int)) (by decide) (AK hd k);rw[List.length_take,Nat.min_eq_left (by omega)]at h2;have h3:w.drop k=[w.getD k 0]:=by
  rw[Ca (by omega),qy (by omega)]
 rw[h3]at h1;have h4:val Ai [w.getD k 0]=w.getD k 0:=by
  show w.getD k 0+(Ai:Int)*0=_;omega
 rw[h4]at h1;rw[Int.mul_add,Int.mul_one];omega
theorem UX(k:Nat):((10^k:Nat):Int)=(10:Int)^k:=by rw[yp];rfl
theorem ZW(k:Nat):2^(3*k)<=10^k:=by rw[Nat.pow_mul];exact Nat.pow_le_pow_left (by decide) k
theorem dQ(k:Nat):(2:Int)^(3*k)<=10^k:=by
 have h2:((2^(3*k):Nat):Int)<=((10^k:Nat):Int):=Int.ofNat_le.2 (ZW k);rw[yp,yp]at h2;exact h2
theorem lL:(2:Int)^1800<=10^600:=by
 have h:=dQ 600;have k:3*600=1800:=rfl;rw[k]at h;exact h
theorem nO{a:AR}(h:Pj a<=1800):Eb a=false:=by
 have a0:0<=Ae (vI a):=by rw[Ah];omega
 have hv:=CP (b:=Ai) (by decide) a0;have hd:=E6 (b:=Ai) (by decide) (Ae (vI a));have key:Ae (vI a)<2^1800:=by
  unfold Pj at h;have hv:val Ai (Bt (Ae (vI a)))=Ae (vI a):=hv;have hd:Av Ai (Bt (Ae (vI a))):=hd;generalize Bt (Ae (vI a))=w at*;rw[<-hv];by_cases hw:w=[]
  ·subst hw;show(0:Int)<_;exact Int.pow_pos (by decide)
  ·rw[wc hw]at h;obtain⟨k,hk⟩:∃k,w.length=k+1:=⟨w.length-1,by have:=List.length_pos_iff.2 hw;omega⟩;have ht:=tF hd hk;have g:=JW (b:=(Ai:Int)) (by decide) hd k;have hp:=iT g.1;have hl:=(Go.Pe.Q1 g.1 (by have:(Ai:Int)=18446744073709551616:=rfl;omega)).1;rw[hk,Nat.add_sub_cancel,show((k+1:Nat):Int)-1=(k:Int)by omega]at h;have hB:(0:Int)<(Ai:Int)^k:=AL (by decide) k;have h5:=Int.mul_le_mul_of_nonneg_left hp (Int.le_of_lt hB);have e1:(Ai:Int)^k=2^(64*k):=by
    have:(Ai:Int)=2^64:=by decide
    rw[this, <-Int.pow_mul]
   rw[e1, <-Int.pow_add]at h5;rw[e1]at ht;have h6:(2:Int)^(64*k+(EU (w.getD k 0)).toNat)<=2^1800:=AH (by decide) (by omega);exact yn ht (Int.le_trans h5 h6)
 have h7:=yn key lL;unfold Eb QT;rw[w9];have:(vI a).natAbs<10^600:=by
  rw[Ah]at h7;have e:=UX 600;rw[<-e]at h7;exact qk.mp h7
 have:=FO this (by decide);omega
end Go.Sp
namespace Go.Pe
open Sp
open Go.Det
theorem Xt:DF xG:=fun g sp h=>by cases h
theorem T214.ok:Ag Bh 214 Sg:=by
 refine B5 Xt (fun(i:List UInt8×List UInt8) hi=>?_);obtain⟨s,t⟩:=i;have hi:(decide (t=[45])&&decide (s.length<=1000000))=true:=hi;rw[zd,w5,w5]at hi;obtain⟨rfl,hl⟩:=hi;have hq:∀v ob,v=A0 s->Ad Sg (s,[45]) (.dat .str v) ob:=fun v ob h=>qw rfl rfl h
 refine qt (T214.Al s [45]) ?_;conv=>zeta
 cases s with
 |nil=>exact jh rfl (ya (hq _ _ rfl))
 |cons c r=>
  have e1:yq (([(45:UInt8)].length:Nat):Int)=1:=rfl;have e2:ql 1 (c::r)=[c]:=rfl;have e3:ql (Nat.sub (c::r).length 1) (List.drop 1 (c::r))=r:=qd (yc _);have g0:(c::r).getD 0 0=c:=rfl;rw[e1,e2,e3];refine zg (w4 (by simp;omega)) (zg (by simp) (qn (fun d=>zg (by simp) (ya (hq _ _ ?_))) (fun d=>ya (hq _ _ ?_))))
  ·have hc:c=45:=by simpa using d
   unfold A0;rw[g0,wd hc];rfl
  ·have hc:c≠45:=by simpa using d
   unfold A0;rw[g0,wc hc]
theorem jM:DF XX1:=Aa (T218.ok E7) (Aa T247.ok AN)
theorem jL{a:AR}(h:A4 a=true):(Bt (Ae (z8 a))).length<=9000:=by
 have hb:=bounds h;have h0:=AF (z8 a);refine MT Ai (by decide) 9000 _ _ ?_;have e:((Ai^9000:Nat):Int)=(Ai:Int)^9000:=Q6 9000;rw[<-e]at hb;generalize Ai^9000=P at*;omega
theorem T248.ok:Ag Bh 248 aM:=by
 refine B5 jM (fun(a:Int×List Int) ha=>?_);have ha:A4 a=true:=ha;have hk:=(Ce ha).1;have hl:=jL ha;have hd:=E6 (b:=Ai) (by decide) (Ae (z8 a));have hd:Av Ai (Bt (Ae (z8 a))):=hd;have hq:∀v ob,v=Pj a->Ad aM a (.dat i64 v) ob:=fun v ob h=>qw rfl rfl h
 unfold Pj at hq;refine qt (T248.Al a) (zg hk ?_);have ea:(Prod.fst a,Prod.snd a)=a:=rfl;rw[ea];generalize Bt (Ae (z8 a))=w at*;refine qn (fun c=>ya (hq _ _ ?_)) (fun c=>?_)
 ·have:w=[]:=yi.1 (by have:(w.length:Int)=0:=(by simpa using c);omega);rw[wd this]
 ·have c:(w.length:Int)≠0:=by simpa using c
  have hn:w≠[]:=by rintro rfl;exact c rfl
  have g:=AT hd (w.length-1);have e1:zc .i64 ((w.length:Int)-1)=((w.length-1:Nat):Int):=by rw[wr _ (by omega) (by omega)];omega
  have l2:=Q1 (Sp.AY g).1 (Sp.AY g).2;rw[e1,yg,wr (64*_) (by omega) (by omega),wr _ (by omega) (by omega)];refine zg (Ab (w4 (by omega)) (w4 (by omega))) (zg g (ya (hq _ _ ?_)));rw[wc hn];omega
theorem fQ:DF wP:=Aa T248.ok (Aa (T200.ok bO) (Aa T214.ok AN))
theorem gY(n:Int):A0 (AV n)=ze n.natAbs:=(DU n).2.1
theorem NH{a:AR}(h:A4 a=true):(AV (z8 a)).length<=180001:=by
 have hb:=bounds h;have ha:=Ah (z8 a);have h1:(ze (z8 a).natAbs).length<=180000:=Hw ⟨by rw[<-ha];exact hb⟩;unfold AV zw;split
 ·rw[zu];omega
 ·rw[show(z8 a).toNat=(z8 a).natAbs by omega];omega
theorem T199.ok:Ag Bh 199 WY:=by
 refine B5 fQ (fun(a:Int×List Int) ha=>?_);have ha:A4 a=true:=ha;have hl:=NH ha;have hq:∀v ob,v=Eb a->Ad WY a (.dat .bool v) ob:=fun v ob h=>qw rfl rfl h
 have hqb:∀v ob,v=Eb a->Ad WY a (.bl v) ob:=fun v ob h=>qw rfl rfl h
 refine qt (T199.Al a) (zg ha (qn (fun c=>zg ha (zg (Ab (w4 rfl) (w4 (by show(AV (z8 a)).length<=1000000;omega))) (ya (hq _ _ ?_)))) (fun c=>ya (hqb _ _ ?_))))
 ·show decide (((A0 (AV (z8 a))).length:Int)>600)=Eb a;rw[gY];unfold Eb QT;rw[decide_eq_decide];omega
 ·have c:=w7 c;have c:¬Pj a>1800:=c;exact(nO (by omega)).symm
theorem dR{a:AR}(h:ME a=true):A4 a=true:=by
 unfold ME at h;rw[zd,w5]at h;unfold A4;rw[h.1,qu];exact w4 (by omega)
theorem gE{a:AS}(h:jl a=true):A4 a.1=true/\A4 a.2=true:=by
 unfold jl at h;rw[zd]at h;exact⟨dR h.1,dR h.2⟩
theorem WM:DF yV:=Aa T199.ok (Aa T156.ok (Aa (T200.ok bO) AN))
theorem T131.ok:Ag Bh 131 Sf:=by
 refine B5 WM (fun(a:(Int×List Int)×(Int×List Int)) ha=>?_);obtain⟨h1,h2⟩:=gE (a:=a) ha;refine qt (T131.Al a) (zg h1 (qn (fun c=>ya (qw rfl rfl ?_)) (fun c=>zg h2 (ya (qw rfl rfl ?_)))))
 ·have c:Eb a.1=true:=c;show true=(Eb a.1||Eb a.2);rw[c];rfl
 ·have c:Eb a.1=false:=c;show Eb a.2=(Eb a.1||Eb a.2);rw[c];rfl
theorem T132.ok:Ag Bh 132 Wq:=by
 refine B5 WM (fun(a:(Int×List Int)×(Int×List Int)) ha=>?_);obtain⟨h1,h2⟩:=gE (a:=a) ha;have l1:=NH h1;have l2:=NH h2;refine qt (T132.Al a) (zg rfl (qn (fun c=>zg h1 (ya (qw rfl rfl ?_))) (fun c=>zg h1 (zg (w4 (by show(AV (z8 a.1)).length+1<=_;omega)) (zg h2 (zg (w4 (by rw[zj,List.length_singleton];show(AV (z8 a.1)).length+1+(AV (z8 a.2)).length<=_;omega)) (ya (qw rfl rfl ?_))))))))
 ·have c:CJ a.2=true:=c;show AV (z8 a.1)=FT a;unfold FT;rw[wd c]
 ·have c:CJ a.2=false:=c;show AV (z8 a.1)++[47]++AV (z8 a.2)=FT a;unfold FT;rw[wc (by rw[c];decide),yr];rfl
theorem gJ:DF wU:=Aa T131.ok (Aa T132.ok AN)
theorem T103.ok:Ag Bh 103 X9:=by
 refine B5 gJ (fun(a:(Int×List Int)×(Int×List Int)) ha=>?_);refine qt (T103.Al a) (zg ha (qn (fun c=>ya (qw rfl rfl ?_)) (fun c=>zg ha (ya (qw rfl rfl ?_)))))
 ·have c:DM a=true:=c;show([],(4:Int))=(MG a,ML a);unfold MG ML;rw[wd c,wd c]
 ·have c:DM a=false:=c;show(FT a,(0:Int))=(MG a,ML a);unfold MG ML;rw[wc (by rw[c];decide),wc (by rw[c];decide)]
theorem mP:DF XX3:=Aa T77.ok (Aa T173.ok AN)
theorem T110.ok:Ag Bh 110 qO:=by
 refine B5 mP (fun(a:(Int×List Int)×(Int×List Int)) ha=>?_);exact qt (T110.Al a) (zg ha (ya (qw rfl rfl rfl)))
theorem T111.ok:Ag Bh 111 cF:=by
 refine B5 I9 (fun(n:Int) _=>?_);exact qt (T111.Al n) (zg rfl (zg rfl (ya (qw rfl rfl rfl))))
theorem eV{f:AS}{q:Rat}(h:EW f q){e:Int}(he:e=0):(MG f,ML f)=(Yw e q,Zr e q):=by
 rw[he,(Xb h).1,(Xb h).2]
theorem Fh(x y:Int):yo [x,y]=if x≠0 then x else y:=by
 by_cases h:x≠0
 ·rw[wd h];unfold yo
  simp[h]
 ·rw[wc h];have h:x=0:=by omega
  subst h;unfold yo yo yo
  simp;intro k;exact k.symm
theorem oE(n:Int):BB n=[]:=by unfold BB;split<;>rfl
theorem Np{n:Int}(h:CH n=true):A4 (n,BB n)=true/\z8 (n,BB n)=n:=by
 rw[oE];have hr:=Ej h;refine⟨?_,Bl rfl⟩;unfold A4;rw[show Dh (n,([]:List Int))=true from JZ h,qu];rfl
theorem dX(n:Int)(h:CH n=true):EW ((n,BB n),(1,BB 1)) (n:Rat):=by
 obtain⟨h1,h2⟩:=Np h;obtain⟨h3,h4⟩:=Np (n:=1) rfl;exact⟨(Ce h1).1,(Ce h3).1,h2.trans (jc n).symm,h4.trans rfl⟩
theorem yZ(n:Int)(h:n.natAbs<10^20):ER 20 (n:Rat):=by
 unfold ER;rw[jc,Rat.den_intCast];exact⟨h,by decide⟩
section
open List Int Prod
namespace T27
def T(a b:List UInt8):Tr:=tree pG false 9 27 (Af ([zh,zh]) (a,b))
def L1(v0 v1:List UInt8):Tr:=re ((T [] []).L.L.L.R) (AA 63 [(0,.dat zh v0),(1,.dat zh v1)] [] 0)
theorem Al(a b:List UInt8):T a b=let a':=zc .i64 (zc .i64 (gN a*Uy b)+zc .i64 (gN b*Uy a));let b':=zc .i64 (Uy a*Uy b);.ite (Bj a) (.ite (Bj b) (.ite (DK a) (.ite (DK b) (.ite (CH a'&&CH b'&&decide (zc .i64 (Uy a*Uy b)≠0)) (.leaf (.dat zh (CZ a' b')) []) .fail) (L1 a b)) (L1 a b)) .fail) .fail:=by kernel_rfl
theorem An(v0 v1:List UInt8):stepT pG (L1 v0 v1)=let b':=(Ho (Bz v0,Br v0) (Bi v1,Be v1),Ha (Bz v0,Br v0) (Bi v1,Be v1));let c':=(Ho (Bz v1,Br v1) (Bi v0,Be v0),Ha (Bz v1,Br v1) (Bi v0,Be v0));let d':=(Ho (Bi v0,Be v0) (Bi v1,Be v1),Ha (Bi v0,Be v0) (Bi v1,Be v1));let a':=(Mo b' c',Mm b' c');.ite (Hg v0) (.ite (Hg v1) (.ite (CG (Bz v0,Br v0)&&CG (Bi v1,Be v1)) (.ite (CG (Bz v1,Br v1)&&CG (Bi v0,Be v0)) (.ite (CG b'&&CG c') (.ite (CG (Bi v0,Be v0)&&CG (Bi v1,Be v1)) (.ite (CG a'&&CG d'&&decide (Sp.vR d'≠0)) (.leaf (.dat zh (HK a' d')) ([(zl (zl (zl 0 1) 1) 1,.box [.dat zk (Bi v1),.dat (zf i64) (Be v1)]),(zl (zl 0 1) 1,.box [.dat zk (Bz v1),.dat (zf i64) (Br v1)]),(zl 0 1,.box [.dat zk (Bi v0),.dat (zf i64) (Be v0)]),(0,.box [.dat zk (Bz v0),.dat (zf i64) (Br v0)])])) .fail) .fail) .fail) .fail) .fail) .fail) .fail:=by kernel_rfl
end T27
namespace T29
def T(a b:List UInt8):Tr:=tree pG false 9 29 (Af ([zh,zh]) (a,b))
def L1(v0 v1:List UInt8):Tr:=re ((T [] []).L.L.L.R) (AA 55 [(0,.dat zh v0),(1,.dat zh v1)] [] 0)
theorem Al(a b:List UInt8):T a b=let a':=zc .i64 (gN a*gN b);let b':=zc .i64 (Uy a*Uy b);.ite (Bj a) (.ite (Bj b) (.ite (DK a) (.ite (DK b) (.ite (CH a'&&CH b'&&decide (zc .i64 (Uy a*Uy b)≠0)) (.leaf (.dat zh (CZ a' b')) []) .fail) (L1 a b)) (L1 a b)) .fail) .fail:=by kernel_rfl
theorem An(v0 v1:List UInt8):stepT pG (L1 v0 v1)=let a':=(Ho (Bi v0,Be v0) (Bi v1,Be v1),Ha (Bi v0,Be v0) (Bi v1,Be v1));let b':=(Ho (Bz v0,Br v0) (Bz v1,Br v1),Ha (Bz v0,Br v0) (Bz v1,Br v1));.ite (Hg v0) (.ite (Hg v1) (.ite (CG (Bz v0,Br v0)&&CG (Bz v1,Br v1)) (.ite (CG (Bi v0,Be v0)&&CG (Bi v1,Be v1)) (.ite (CG b'&&CG a'&&decide (Sp.vR a'≠0)) (.leaf (.dat zh (HK b' a')) ([(zl (zl (zl 0 1) 1) 1,.box [.dat zk (Bi v1),.dat (zf i64) (Be v1)]),(zl (zl 0 1) 1,.box [.dat zk (Bz v1),.dat (zf i64) (Br v1)]),(zl 0 1,.box [.dat zk (Bi v0),.dat (zf i64) (Be v0)]),(0,.box [.dat zk (Bz v0),.dat (zf i64) (Br v0)])])) .fail) .fail) .fail) .fail) .fail:=by kernel_rfl
end T29
namespace T94
def T(a:List UInt8):Tr:=tree pG false 9 94 (Af ([zh]) a)
theorem Al(a:List UInt8):T a=.ite (Hg a) (.ite (CG (Bi a,Be a)&&CG (Bz a,Br a)&&decide (Sp.vR (Bz a,Br a)≠0)) (.leaf (.dat zh (HK (Bi a,Be a) (Bz a,Br a))) ([(zl 0 1,.box [.dat zk (Bi a),.dat (zf i64) (Be a)]),(0,.box [.dat zk (Bz a),.dat (zf i64) (Br a)])])) .fail) .fail:=by kernel_rfl
end T94
namespace T28
def T(a b:List UInt8):Tr:=tree XR7 false 9 28 (Af ([zh,zh]) (a,b))
theorem Al(a b:List UInt8):T a b=.ite (decide (length b<=1000000)) (.ite (Bj a&&Bj (K2 b)) (.leaf (.dat zh (GJ a (K2 b))) []) .fail) .fail:=by kernel_rfl
end T28
namespace T43
def T(a:List UInt8):Tr:=tree zN false 9 43 (Af ([zh]) a)
theorem Al(a:List UInt8):T a=.ite (decide (length a<=1000000)) (.leaf (.dat zk (AU a==(length a:Int))) []) .fail:=by kernel_rfl
end T43
namespace T93
def T(a:List UInt8):Tr:=tree zN false 9 93 (Af ([zh]) a)
theorem Al(a:List UInt8):T a=let a':=decide (length a<=1000000);let b':Tr:=.leaf (.dat i64 (4:Int)) [];.ite a' (.ite (decide (length (Ax a)<=1000000)) (.ite (decide ((↑(length (A0 (Ax a))):Int)>600)) b' (.ite a' (.ite (decide ((↑(length (LH a)):Int)>600)) b' (.leaf (.dat i64 (0:Int)) [])) .fail)) .fail) .fail:=by kernel_rfl
end T93
namespace T229
def T(a:List Int)(i:Int):Tr:=tree zZ false 9 229 (Af ([zf i64,zr yh]) (a,i))
theorem Al(a:List Int)(i:Int):T a i=.ite (decide (i<(length a:Int))) (.ite (decide (0<=i)&&decide (i<(length a:Int))) (.leaf (.dat i64 (getD a (toNat i) 0)) []) .fail) (.leaf (.dat i64 (0:Int)) []):=by kernel_rfl
end T229
namespace T169
def T(a b:List Int):Tr:=tree US false 9 169 (Af ([zf i64,zf i64]) (a,b))
def L1(v0 v1:List Int)(v6 v7:Int):Tr:=re ((T [] [])) (AA 42 [(0,.dat (zf i64) v0),(1,.dat (zf i64) v1),(5,.nil),(6,.dat i64 v6),(7,.dat i64 v7)] [] 0)
theorem Al(a b:List Int):T a b=L1 a b 0 0:=by kernel_rfl
def L2(v0 v1:List Int)(v5n:Nat)(v6 v7:Int)(o0:List Int):Tr:=re ((stepT US (L1 [] [] 0 0)).L.L.L.L.L.L) (AA 42 [(0,.dat (zf i64) v0),(1,.dat (zf i64) v1),(5,.sl 0 1 0 v5n none),(6,.dat i64 v6),(7,.dat i64 v7)] [(0,.arr false 3 i64 o0)] 1)
theorem An(v0 v1:List Int)(v6 v7:Int):stepT US (L1 v0 v1 v6 v7)=.ite (decide (v7<(length v0:Int))) (.ite (decide (0<=v7)) (.ite (decide (0<=v7)) (.ite true (.ite (decide (1<=1)&&decide (0<1)&&decide ((2*1+1000)*8<=281474976710656)) (.ite true (L2 v0 v1 1 (zc .i64 (qo (zc .i64 (zc .i64 (HF v0 v7+HF v1 v7)+v6)) 1000000000)) (zc .i64 (v7+1)) ([jg (zc .i64 (zc .i64 (HF v0 v7+HF v1 v7)+v6)) 1000000000])) .fail) .fail) .fail) .fail) .fail) (.ite (decide (v7<(length v1:Int))) (.ite (decide (0<=v7)) (.ite (decide (0<=v7)) (.ite true (.ite (decide (1<=1)&&decide (0<1)&&decide ((2*1+1000)*8<=281474976710656)) (.ite true (L2 v0 v1 1 (zc .i64 (qo (zc .i64 (zc .i64 (HF v0 v7+HF v1 v7)+v6)) 1000000000)) (zc .i64 (v7+1)) ([jg (zc .i64 (zc .i64 (HF v0 v7+HF v1 v7)+v6)) 1000000000])) .fail) .fail) .fail) .fail) .fail) (.ite (decide (v6>0)) (.ite (decide (0<=v7)) (.ite (decide (0<=v7)) (.ite true (.ite (decide (1<=1)&&decide (0<1)&&decide ((2*1+1000)*8<=281474976710656)) (.ite true (L2 v0 v1 1 (zc .i64 (qo (zc .i64 (zc .i64 (HF v0 v7+HF v1 v7)+v6)) 1000000000)) (zc .i64 (v7+1)) ([jg (zc .i64 (zc .i64 (HF v0 v7+HF v1 v7)+v6)) 1000000000])) .fail) .fail) .fail) .fail) .fail) (.leaf .nil []))):=by kernel_rfl
theorem AZ(v0 v1:List Int)(v5n:Nat)(v6 v7:Int)(o0:List Int):stepT US (L2 v0 v1 v5n v6 v7 o0)=.ite (decide (v7<(length v0:Int))) (.ite (decide (0<=v7)) (.ite (decide (0<=v7)) (.ite true (.ite (decide (1<=1)&&true&&decide (v5n=length o0)&&decide ((2*(v5n+1)+1000)*8<=281474976710656)) (.ite true (L2 v0 v1 (zl v5n 1) (zc .i64 (qo (zc .i64 (zc .i64 (HF v0 v7+HF v1 v7)+v6)) 1000000000)) (zc .i64 (v7+1)) (o0++[jg (zc .i64 (zc .i64 (HF v0 v7+HF v1 v7)+v6)) 1000000000])) .fail) .fail) .fail) .fail) .fail) (.ite (decide (v7<(length v1:Int))) (.ite (decide (0<=v7)) (.ite (decide (0<=v7)) (.ite true (.ite (decide (1<=1)&&true&&decide (v5n=length o0)&&decide ((2*(v5n+1)+1000)*8<=281474976710656)) (.ite true (L2 v0 v1 (zl v5n 1) (zc .i64 (qo (zc .i64 (zc .i64 (HF v0 v7+HF v1 v7)+v6)) 1000000000)) (zc .i64 (v7+1)) (o0++[jg (zc .i64 (zc .i64 (HF v0 v7+HF v1 v7)+v6)) 1000000000])) .fail) .fail) .fail) .fail) .fail) (.ite (decide (v6>0)) (.ite (decide (0<=v7)) (.ite (decide (0<=v7)) (.ite true (.ite (decide (1<=1)&&true&&decide (v5n=length o0)&&decide ((2*(v5n+1)+1000)*8<=281474976710656)) (.ite true (L2 v0 v1 (zl v5n 1) (zc .i64 (qo (zc .i64 (zc .i64 (HF v0 v7+HF v1 v7)+v6)) 1000000000)) (zc .i64 (v7+1)) (o0++[jg (zc .i64 (zc .i64 (HF v0 v7+HF v1 v7)+v6)) 1000000000])) .fail) .fail) .fail) .fail) .fail) (.leaf (.sl 0 1 0 v5n none) ([(0,.arr false 3 i64 o0)])))):=by kernel_rfl
end T169
namespace T171
def T(a b:List Int):Tr:=tree US false 9 171 (Af ([zf i64,zf i64]) (a,b))
def L1(v0 v1:List Int)(v6 v7:Int):Tr:=re ((T [] [])) (AA 35 [(0,.dat (zf i64) v0),(1,.dat (zf i64) v1),(5,.nil),(6,.dat i64 v6),(7,.dat i64 v7)] [] 0)
theorem Al(a b:List Int):T a b=L1 a b 0 0:=by kernel_rfl
def L2(v0 v1:List Int)(v5n:Nat)(v6 v7:Int)(o0:List Int):Tr:=re ((stepT US (L1 [] [] 0 0)).L.L.L.L.L) (AA 35 [(0,.dat (zf i64) v0),(1,.dat (zf i64) v1),(5,.sl 0 1 0 v5n none),(6,.dat i64 v6),(7,.dat i64 v7)] [(0,.arr false 3 i64 o0)] 1)
theorem An(v0 v1:List Int)(v6 v7:Int):stepT US (L1 v0 v1 v6 v7)=.ite (decide (v7<(length v0:Int))) (.ite (decide (0<=v7)&&decide (v7<(length v0:Int))) (.ite (decide (0<=v7)) (.ite (decide (zc .i64 (zc .i64 (getD v0 (toNat v7) 0-HF v1 v7)-v6)<0)) (.ite (decide (1<=1)&&decide (0<1)&&decide ((2*1+1000)*8<=281474976710656)) (L2 v0 v1 1 1 (zc .i64 (v7+1)) ([zc .i64 (zc .i64 (zc .i64 (getD v0 (toNat v7) 0-HF v1 v7)-v6)+1000000000)])) .fail) (.ite (decide (1<=1)&&decide (0<1)&&decide ((2*1+1000)*8<=281474976710656)) (L2 v0 v1 1 0 (zc .i64 (v7+1)) ([zc .i64 (zc .i64 (getD v0 (toNat v7) 0-HF v1 v7)-v6)])) .fail)) .fail) .fail) (.ite true (.leaf (.dat (zf i64) (Au [])) []) .fail):=by kernel_rfl
theorem AZ(v0 v1:List Int)(v5n:Nat)(v6 v7:Int)(o0:List Int):stepT US (L2 v0 v1 v5n v6 v7 o0)=.ite (decide (v7<(length v0:Int))) (.ite (decide (0<=v7)&&decide (v7<(length v0:Int))) (.ite (decide (0<=v7)) (.ite (decide (zc .i64 (zc .i64 (getD v0 (toNat v7) 0-HF v1 v7)-v6)<0)) (.ite (decide (1<=1)&&true&&decide (v5n=length o0)&&decide ((2*(v5n+1)+1000)*8<=281474976710656)) (L2 v0 v1 (zl v5n 1) 1 (zc .i64 (v7+1)) (o0++[zc .i64 (zc .i64 (zc .i64 (getD v0 (toNat v7) 0-HF v1 v7)-v6)+1000000000)])) .fail) (.ite (decide (1<=1)&&true&&decide (v5n=length o0)&&decide ((2*(v5n+1)+1000)*8<=281474976710656)) (L2 v0 v1 (zl v5n 1) 0 (zc .i64 (v7+1)) (o0++[zc .i64 (zc .i64 (getD v0 (toNat v7) 0-HF v1 v7)-v6)])) .fail)) .fail) .fail) (.ite (decide (0+v5n<=length o0)&&true&&decide (length (take v5n o0)<=20000)) (.leaf (.dat (zf i64) (Au (take v5n o0))) ([(0,.arr true 3 i64 o0)])) .fail):=by kernel_rfl
end T171
namespace T97
def T(a b:Bool×List Int):Tr:=tree yK false 9 97 (Af ([zo zk (zf i64),zo zk (zf i64)]) (a,b))
theorem Al(a b:Bool×List Int):T a b=.ite (fst a==fst b) (.ite (iX (snd a) (snd b)) (.ite (decide (length (Lm (snd a) (snd b))<=20000)) (.leaf (PV.agg [.dat zk (B6 (fst a) (Lm (snd a) (snd b))),.dat (zf i64) (Au (Lm (snd a) (snd b)))]) ([(zl (zl 0 1) 1,.box [.dat zk (B6 (fst a) (Lm (snd a) (snd b))),.dat (zf i64) (Au (Lm (snd a) (snd b)))]),(zl 0 1,.box [.dat zk (fst b),.dat (zf i64) (snd b)]),(0,.box [.dat zk (fst a),.dat (zf i64) (snd a)])])) .fail) .fail) (.ite (A5 (snd a)&&A5 (snd b)) (.ite (decide (BO (Ar (snd a)) (Ar (snd b))>=0)) (.ite (iX (snd a) (snd b)&&decide (Ar (snd b)<=Ar (snd a))) (.ite (decide (length (Gx (snd a) (snd b))<=20000)) (.leaf (PV.agg [.dat zk (B6 (fst a) (Gx (snd a) (snd b))),.dat (zf i64) (Au (Gx (snd a) (snd b)))]) ([(zl (zl 0 1) 1,.box [.dat zk (B6 (fst a) (Gx (snd a) (snd b))),.dat (zf i64) (Au (Gx (snd a) (snd b)))]),(zl 0 1,.box [.dat zk (fst b),.dat (zf i64) (snd b)]),(0,.box [.dat zk (fst a),.dat (zf i64) (snd a)])])) .fail) .fail) (.ite (iX (snd b) (snd a)&&decide (Ar (snd a)<=Ar (snd b))) (.ite (decide (length (Gx (snd b) (snd a))<=20000)) (.leaf (PV.agg [.dat zk (B6 (fst b) (Gx (snd b) (snd a))),.dat (zf i64) (Au (Gx (snd b) (snd a)))]) ([(zl (zl 0 1) 1,.box [.dat zk (B6 (fst b) (Gx (snd b) (snd a))),.dat (zf i64) (Au (Gx (snd b) (snd a)))]),(zl 0 1,.box [.dat zk (fst b),.dat (zf i64) (snd b)]),(0,.box [.dat zk (fst a),.dat (zf i64) (snd a)])])) .fail) .fail)) .fail):=by kernel_rfl
end T97
namespace T98
def T(a b:Bool×List Int):Tr:=tree yK false 9 98 (Af ([zo zk (zf i64),zo zk (zf i64)]) (a,b))
theorem Al(a b:Bool×List Int):T a b=.ite (Sp.hR (snd a)&&Sp.hR (snd b)) (.ite (decide (length (BM (Ar (snd a)*Ar (snd b)))<=20000)) (.leaf (PV.agg [.dat zk (B6 (!fst a==fst b) (BM (Ar (snd a)*Ar (snd b)))),.dat (zf i64) (Au (BM (Ar (snd a)*Ar (snd b))))]) ([(zl (zl 0 1) 1,.box [.dat zk (B6 (!fst a==fst b) (BM (Ar (snd a)*Ar (snd b)))),.dat (zf i64) (Au (BM (Ar (snd a)*Ar (snd b))))]),(zl 0 1,.box [.dat zk (fst b),.dat (zf i64) (snd b)]),(0,.box [.dat zk (fst a),.dat (zf i64) (snd a)])])) .fail) .fail:=by kernel_rfl
end T98
namespace T166
def T(a:Bool×List Int):Tr:=tree yK false 9 166 (Af ([zo zk (zf i64)]) a)
theorem Al(a:Bool×List Int):T a=.ite (decide (length (snd a)<=20000)) (.leaf (PV.agg [.dat zk (B6 (!fst a) (snd a)),.dat (zf i64) (Au (snd a))]) ([(zl 0 1,.box [.dat zk (B6 (!fst a) (snd a)),.dat (zf i64) (Au (snd a))]),(0,.box [.dat zk (fst a),.dat (zf i64) (snd a)])])) .fail:=by kernel_rfl
end T166
namespace T167
def T(a:Bool×List Int):Tr:=tree yG false 9 167 (Af ([zo zk (zf i64)]) a)
def L1(v3:List UInt8)(v4:Int)(o0:Bool)(o0_1:List Int):Tr:=re ((T (false,[])).R.L.L) (AA 39 [(1,.ptr 0 0),(3,.dat zh v3),(4,.dat i64 v4)] [(0,.box [.dat zk o0,.dat (zf i64) o0_1])] 1)
theorem Al(a:Bool×List Int):T a=.ite ((↑(length (snd a)):Int)==0) (.leaf (.dat zh [(48:UInt8)]) ([(0,.box [.dat zk (fst a),.dat (zf i64) (snd a)])])) (.ite (decide (0<=zc .i64 ((↑(length (snd a)):Int)-1))&&decide (zc .i64 ((↑(length (snd a)):Int)-1)<(↑(length (snd a)):Int))) (.ite (decide (0<=getD (snd a) (toNat (zc .i64 ((↑(length (snd a)):Int)-1))) 0)&&decide (getD (snd a) (toNat (zc .i64 ((↑(length (snd a)):Int)-1))) 0<9223372036854775808)&&decide (0<=1)&&decide (1<=20)) (L1 (HO (getD (snd a) (toNat (zc .i64 ((↑(length (snd a)):Int)-1))) 0) 1) (zc .i64 ((↑(length (snd a)):Int)-2)) (fst a) (snd a)) .fail) .fail):=by kernel_rfl
theorem An(v3:List UInt8)(v4:Int)(o0:Bool)(o0_1:List Int):stepT yG (L1 v3 v4 o0 o0_1)=.ite (decide (v4>=0)) (.ite (decide (0<=v4)&&decide (v4<(length o0_1:Int))) (.ite (decide (0<=getD o0_1 (toNat v4) 0)&&decide (getD o0_1 (toNat v4) 0<9223372036854775808)&&decide (0<=9)&&decide (9<=20)) (.ite (decide (length v3+length (HO (getD o0_1 (toNat v4) 0) 9)<=4611686018427387904)) (L1 (v3++HO (getD o0_1 (toNat v4) 0) 9) (zc .i64 (v4-1)) o0 o0_1) .fail) .fail) .fail) (.ite o0 (.ite (decide (1+length v3<=4611686018427387904)) (.leaf (.dat zh ([(45:UInt8)]++v3)) ([(0,.box [.dat zk o0,.dat (zf i64) o0_1])])) .fail) (.leaf (.dat zh v3) ([(0,.box [.dat zk o0,.dat (zf i64) o0_1])]))):=by kernel_rfl
end T167
namespace T96
def T(a b:Bool×List Int):Tr:=tree iY false 9 96 (Af ([zo zk (zf i64),zo zk (zf i64)]) (a,b))
def L1(o1:Bool)(o1_1:List Int)(o0:Bool)(o0_1:List Int):Tr:=re ((T (false,[]) (false,[])).L.L.L) (AA 57 [(2,.ptr 0 0),(3,.ptr 1 0)] [(1,.box [.dat zk o1,.dat (zf i64) o1_1]),(0,.box [.dat zk o0,.dat (zf i64) o0_1])] 2)
theorem Al(a b:Bool×List Int):T a b=.ite (fst b) (.ite (CG (fst a,snd a)) (.ite (CG (fst b,snd b)) (L1 (RV (fst b,snd b)) (Sx (fst b,snd b)) (RV (fst a,snd a)) (Sx (fst a,snd a))) .fail) .fail) (L1 (fst b) (snd b) (fst a) (snd a)):=by kernel_rfl
def L2(v8:List Int)(v10:List UInt8):Tr:=re ((stepT iY (L1 false [] false [])).L.L.L.L.L) (AA 57 [(8,.dat (zf i64) v8),(10,.dat zh v10)] [] 0)
theorem An(o1:Bool)(o1_1:List Int)(o0:Bool)(o0_1:List Int):stepT iY (L1 o1 o1_1 o0 o0_1)=.ite (A5 o0_1&&A5 o1_1&&decide (length o0_1<=9000)&&decide (length o1_1<=9000)) (.ite (A5 o0_1&&A5 (Ci o0_1 o1_1)&&decide (length o0_1<=9000)&&decide (length (Ci o0_1 o1_1)<=9000)&&decide (0<Ar (Ci o0_1 o1_1))) (.ite (A5 o1_1&&A5 (Ci o0_1 o1_1)&&decide (length o1_1<=9000)&&decide (length (Ci o0_1 o1_1)<=9000)&&decide (0<Ar (Ci o0_1 o1_1))) (.ite (decide (length (BM (Ar o0_1/Ar (Ci o0_1 o1_1)))<=20000)) (.ite (CG (B6 o0 (BM (Ar o0_1/Ar (Ci o0_1 o1_1))),Au (BM (Ar o0_1/Ar (Ci o0_1 o1_1))))) (L2 (BM (Ar o1_1/Ar (Ci o0_1 o1_1))) (GH (B6 o0 (BM (Ar o0_1/Ar (Ci o0_1 o1_1))),Au (BM (Ar o0_1/Ar (Ci o0_1 o1_1)))))) .fail) .fail) .fail) .fail) .fail:=by kernel_rfl
def L3(v8:List Int)(v10:List UInt8):Tr:=re ((stepT iY (L2 [] [])).L.L.R) (AA 57 [(8,.dat (zf i64) v8),(10,.dat zh v10)] [] 0)
theorem AZ(v8:List Int)(v10:List UInt8):stepT iY (L2 v8 v10)=.ite ((length v8:Int)==1) (.ite (decide (0<(length v8:Int))) (.ite (getD v8 0 0==1) (.leaf (.dat zh v10) []) (L3 v8 v10)) .fail) (L3 v8 v10):=by kernel_rfl
theorem CU(v8:List Int)(v10:List UInt8):stepT iY (L3 v8 v10)=.ite (decide (length v10+1<=4611686018427387904)) (.ite (decide (length v8<=20000)) (.ite (CG (B6 false v8,Au v8)) (.ite (decide (length (v10++[(47:UInt8)])+length (GH (B6 false v8,Au v8))<=4611686018427387904)) (.leaf (.dat zh (v10++[(47:UInt8)]++GH (B6 false v8,Au v8))) []) .fail) .fail) .fail) .fail:=by kernel_rfl
end T96
namespace T36
def T(n d:Int):Tr:=tree ZS false 9 36 (Af ([zr yh,zr yh]) (n,d))
def L1(v0 v1:Int):Tr:=re ((T 0 0).R.R.R.R) (AA 61 [(0,.dat i64 v0),(1,.dat i64 v1)] [] 0)
theorem Al(n d:Int):T n d=.ite (decide (n<(-4000000000000000000))) (.ite (CH n) (.ite (CH d) (.ite (CG (qf n,qg n)&&CG (qf d,qg d)&&decide (Sp.vR (qf d,qg d)≠0)) (.leaf (.dat zh (HK (qf n,qg n) (qf d,qg d))) []) .fail) .fail) .fail) (.ite (decide (n>4000000000000000000)) (.ite (CH n) (.ite (CH d) (.ite (CG (qf n,qg n)&&CG (qf d,qg d)&&decide (Sp.vR (qf d,qg d)≠0)) (.leaf (.dat zh (HK (qf n,qg n) (qf d,qg d))) []) .fail) .fail) .fail) (.ite (decide (d<(-4000000000000000000))) (.ite (CH n) (.ite (CH d) (.ite (CG (qf n,qg n)&&CG (qf d,qg d)&&decide (Sp.vR (qf d,qg d)≠0)) (.leaf (.dat zh (HK (qf n,qg n) (qf d,qg d))) []) .fail) .fail) .fail) (.ite (decide (d>4000000000000000000)) (.ite (CH n) (.ite (CH d) (.ite (CG (qf n,qg n)&&CG (qf d,qg d)&&decide (Sp.vR (qf d,qg d)≠0)) (.leaf (.dat zh (HK (qf n,qg n) (qf d,qg d))) []) .fail) .fail) .fail) (L1 n d)))):=by kernel_rfl
def L2(v0 v1:Int):Tr:=re ((stepT ZS (L1 0 0)).L) (AA 61 [(0,.dat i64 v0),(1,.dat i64 v1)] [] 0)
theorem An(v0 v1:Int):stepT ZS (L1 v0 v1)=.ite (decide (v1<0)) (L2 (zc .i64 (0-v0)) (zc .i64 (0-v1))) (L2 v0 v1):=by kernel_rfl
def L3(v0 v1:Int):Tr:=re ((stepT ZS (L2 0 0)).L.L.L) (AA 61 [(0,.dat i64 v0),(1,.dat i64 v1)] [] 0)
theorem AZ(v0 v1:Int):stepT ZS (L2 v0 v1)=.ite (wA (imax v0 (zc .i64 (0-v0))) v1) (.ite (decide (Sp.gI (imax v0 (zc .i64 (0-v0))) v1≠0)) (.ite (decide (Sp.gI (imax v0 (zc .i64 (0-v0))) v1≠0)) (L3 (zc .i64 (qo v0 (Sp.gI (imax v0 (zc .i64 (0-v0))) v1))) (zc .i64 (qo v1 (Sp.gI (imax v0 (zc .i64 (0-v0))) v1)))) .fail) .fail) .fail:=by kernel_rfl
def L4(v1:Int)(v6:List UInt8):Tr:=re ((stepT ZS (L3 0 0)).L.L.L) (AA 61 [(1,.dat i64 v1),(6,.dat zh v6)] [] 0)
theorem CU(v0 v1:Int):stepT ZS (L3 v0 v1)=.ite (decide (v0<0)) (.ite (decide (0<=imax v0 (zc .i64 (0-v0)))&&decide (imax v0 (zc .i64 (0-v0))<9223372036854775808)&&decide (0<=1)&&decide (1<=20)) (.ite (decide (1+length (HO (imax v0 (zc .i64 (0-v0))) 1)<=4611686018427387904)) (L4 v1 ([(45:UInt8)]++HO (imax v0 (zc .i64 (0-v0))) 1)) .fail) .fail) (.ite (decide (0<=imax v0 (zc .i64 (0-v0)))&&decide (imax v0 (zc .i64 (0-v0))<9223372036854775808)&&decide (0<=1)&&decide (1<=20)) (.ite (decide (0+length (HO (imax v0 (zc .i64 (0-v0))) 1)<=4611686018427387904)) (L4 v1 ([]++HO (imax v0 (zc .i64 (0-v0))) 1)) .fail) .fail):=by kernel_rfl
theorem Ct(v1:Int)(v6:List UInt8):stepT ZS (L4 v1 v6)=.ite (decide (v1>1)) (.ite (decide (length v6+1<=4611686018427387904)) (.ite (decide (0<=v1)&&decide (v1<9223372036854775808)&&decide (0<=1)&&decide (1<=20)) (.ite (decide (length (v6++[(47:UInt8)])+length (HO v1 1)<=4611686018427387904)) (.leaf (.dat zh (v6++[(47:UInt8)]++HO v1 1)) []) .fail) .fail) .fail) (.leaf (.dat zh v6) []):=by kernel_rfl
end T36
end
end Go.Pe
