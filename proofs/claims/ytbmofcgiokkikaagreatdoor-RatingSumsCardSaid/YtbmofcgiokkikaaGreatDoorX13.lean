import Derived.Test.YtbmofcgiokkikaaGreatDoorX12
/- A part of a proof; no law is stated here. -/
noncomputable section
open Go.Pe.Ends renaming tt -> zc, leaf -> zf, ite -> zh, Ai -> zl, eq -> z6, ff -> yg
open Bool renaming and_eq_true -> zd, true_and -> zy, or_eq_true -> qy
open Go.Lib renaming decDigits -> ze, itoa -> zr, decDigits_length -> z7, decDigits_one -> ym
open Go.Sp renaming vI -> zg, AV -> zm, B9 -> qc, gI -> qx, Cq -> jg, first -> jh, preB -> ji, Dy -> jl, val -> jz
open List renaming length_append -> zi, length_cons -> zp, length_eq_zero_iff -> zw, length -> zz, map -> yb, all_cons -> yj, length_map -> yr, mem_singleton -> yt, take_of_length_le -> yu, take_succ_eq_append_getElem -> yv, append_assoc -> yw, findIdx?_cons -> qe, take_length -> qo, length_drop -> qp, reverse_singleton -> qw, take -> jf
open Int renaming natAbs_natCast -> zj, toNat_natCast -> zn, ne_of_gt -> zx, eq_ofNat_of_zero_le -> z8, mul_le_mul_of_nonneg_right -> ya, mul_le_mul_of_nonneg_left -> yd, lt_of_lt_of_le -> yf, natAbs_mul -> yn, le_of_lt -> yo, toNat -> yp, natAbs_ediv_le_natAbs -> yq, gcd -> yz, tdiv_eq_ediv_of_nonneg -> qf, tmod_eq_emod_of_nonneg -> qg, lt_of_le_of_lt -> qh, mul_pos -> qm, mul_one -> qn, pow_succ -> qq, ediv_eq_iff_of_pos -> qu, sign_eq_one_of_pos -> qv, le_trans -> jj, mul_comm -> jk, gcd_comm -> jm, ediv_one -> jo
open Go.IntKind renaming wrap -> zk, u64 -> jc
open Rat renaming num_divInt_den -> zo, divInt -> zt, divInt_add_divInt -> yx, num_eq_zero -> y9, num_divInt -> qi, den_divInt -> qj, neg_num -> qz, neg_den -> q9
open UInt8 renaming ofNat -> zq, toNat -> zu, toNat_inj -> yi
open Nat renaming le_refl -> yc, eq_zero_or_pos -> ye, lt_of_le_of_lt -> yh, ble_eq_true_of_le -> yy, zero_le -> y7, pow_le_pow_right -> y8, pow_succ -> qd, lt_of_lt_of_le -> qk, le_trans -> qt, ble -> jt
open Go.Pe.Ac renaming of -> yk
open Classical renaming byContradiction -> ql
open Go.Pe.Obj renaming tbox -> je
variable {Q:Go.Pe.PV->Go.Pe.Ob->Prop}
namespace Go.Pe
open Sp
open Go.Det
namespace T202
theorem loop{Q:PV->Ob->Prop}(l:List Int)(g:l.length<=1000000):∀(r:List Int) (i:Nat),l.drop i=r->i<=l.length->Q (.dat i64<|jh r) []->Ends O7 (L1 l ((l.length:Int)) i) Q
 |[],i,h,j,a=>by
  refine zl (Ak ..) ?_;conv=>zeta
  have:¬i<l.length:=by
   intro b;have:=List.drop_eq_getElem_cons b;rw[h]at this;cases this
  have f:i=l.length:=ae
  subst f;simpa [jh]using a
 |x::r,i,h,j,a=>by
  obtain⟨b,k,e⟩:=drop_cons (d:=0) h;refine zl (Ak ..) ?_;conv=>zeta
  rw[FA,wd (by simp;omega),FA,wd (by simp;omega),FA];simp only[zn,k];by_cases c:x=0
  ·subst c;rw[wc (by simp),wr _ ae ae];exact loop l g r (i+1) e b (by simpa [jh]using a)
  ·rw[wd<|by simpa using c];simpa [jh,c]using a
theorem ok:Af A4 202 Gq:=by
 refine BD Ft<|fun l a=>?_;refine z6 (Aj l) ?_;conv=>zeta
 exact loop l (by simpa [Gq]using a) l 0 rfl (y7 _) (yk rfl rfl rfl)
end T202
theorem T203.ok:Af A4 203 G7:=by
 refine BD Ft<|fun⟨c,e⟩ _=>?_;refine z6 (T203.Aj c e) ?_;conv=>zeta
 have key:∀x:Int,x=Cv c e->Ac G7 (c,e) (.dat i64 x) []:=fun x a=>yk rfl rfl a
 simp only[FA,HC];cases c
 ·exact key _ rfl
 ·exact key _ rfl
theorem yU:CE Nr:=
 Aa T202.ok (Aa T203.ok<|Aa T200.ok<|Aa T159.ok<|Aa T201.ok<|Aa T171.ok<|Aa T160.ok<|Aa T67.ok<|Aa T68n.ok Ay)
theorem HZ{s:Z}(h:AX s=true):s≠[]/\Aq s=true:=by
 unfold AX at h;rw[zd,zd,w5]at h;exact h.1
theorem Md{s:Z}(h:Aq s=true)(b:s.length<=5999):D4 s=true/\BS s=AI 0 s:=by
 have h0:s.getD 0 0≠45:=by
  cases s with
  |nil=>decide
  |cons c r=>
   unfold Aq at h;rw[yj,zd]at h;have:=Dm h.1;rintro a;have a:c=45:=a;subst a;exact wh this af
 unfold D4 BS;rw[wc h0,wc h0,h,Bool.and_true];exact⟨w4 b,rfl⟩
theorem Abr{a b L:Int}(c:0<=a)(d:0<=b)(g:a<L)(f:b<L):0<=qx a b/\qx a b<L:=by
 rw[GC];obtain⟨x,rfl⟩:=z8 c;obtain⟨y,rfl⟩:=z8 d;have e:yz (x:Int) (y:Int)=Nat.gcd x y:=rfl;rw[e];refine⟨Int.natCast_nonneg _,?_⟩;rcases ye x with h|h
 ·subst h;rw[Nat.gcd_zero_left];exact f
 ·have:=Nat.gcd_le_left y h;omega
namespace T163
def E(A B:Z)(b a:Bool):Int:=if a=false then 1 else if 600<A.length\/600<B.length then 4 else if b=true/\qx (AI 0 A) (AI 0 B)≠1 then 1 else 0
theorem F9(A B:Z)(a:Bool)(k:Aq A=true)(b:a=true->Aq B=true)(y:A.length<=600)(z:B.length<=600)(e:∀ob,Q (.dat i64<|if a=true/\qx (AI 0 A) (AI 0 B)≠1 then 1 else 0) ob):Ends Nr (L8 A B a) Q:=by
 refine zl (HH ..)<|zh (fun c=>?_)<|fun c=>?_
 ·have b:=b c;obtain⟨m,i⟩:=Md k ae;obtain⟨r3,r4⟩:=Md b ae;have d:=Bk k;have f:=Bk b;have l:AI 0 A<(10:Int)^(6000:Nat):=yf d.2 (AP af ae);have j:AI 0 B<(10:Int)^(6000:Nat):=yf f.2 (AP af ae);have n:DF A=C9 (AI 0 A):=by unfold DF;rw[i]
  have s:DH A=C8 (AI 0 A):=by unfold DH;rw[i]
  have v:DF B=C9 (AI 0 B):=by unfold DF;rw[r4]
  have x:DH B=C8 (AI 0 B):=by unfold DH;rw[r4]
  have w:N8 (C9<|AI 0 A,C8<|AI 0 A) (C9<|AI 0 B,C8<|AI 0 B)=C9 (qx (AI 0 A)<|AI 0 B):=by
   unfold N8;rw[Mg,Mg]
  have t:Oe (C9<|AI 0 A,C8<|AI 0 A) (C9<|AI 0 B,C8<|AI 0 B)=C8 (qx (AI 0 A)<|AI 0 B):=by
   unfold Oe;rw[Mg,Mg]
  obtain⟨l1,u⟩:=Abr d.1 f.1 l j;have p:fI (C9<|qx (AI 0 A)<|AI 0 B,C8<|qx (AI 0 A)<|AI 0 B) ((1:Int),BL (1:Int))=Cp (qx (AI 0 A)<|AI 0 B) 1:=by
   unfold fI;rw[Mg,D7,Fc]
  rw[n,s,v,x,w,t,p];have r:Bd ((1:Int),BL (1:Int))=true:=by rw[D7];decide
  refine zc m<|zc r3<|zc (Ab (Gw<|Hc d.1 l)<|Gw<|Hc f.1 j)<|zc rfl (zc (Ab (Gw<|Hc l1 u) r) ?_);refine zl (kR ..)<|zc rfl (zf ?_);generalize qx (AI 0 A) (AI 0 B)=g at*;have:Cv (Cp g 1 !=0) 1=if a=true/\g≠1 then 1 else 0:=by
   unfold Cp Cv;by_cases h:g=1
   ·subst h;rw[c];rfl
   ·have o:(if a=true/\g≠1 then(1:Int)else 0)=1:=wd ⟨c,h⟩;rw[o];rcases Int.lt_or_gt_of_ne h with q|q
    ·rw[wd q];rfl
    ·rw[wc ae,wd q];rfl
  rw[this];exact e _
 ·refine zl Uf<|zc rfl (zf ?_);rw[wc<|by rw[c];simp]at e;exact e _
theorem CJ(A B:Z)(e a c d:Bool)(k:c= !a)(f:d=true↔600<A.length\/600<B.length)(g:a=true->Aq A=true/\(e=true->Aq B=true))(b:∀ob,Q (.dat i64<|E A B e a) ob):Ends Nr (L7 A B e<|jh [Cv c 1,Cv d 4]) Q:=by
 subst k;unfold E at b;cases a with
 |false=>
  refine zl (DW ..)<|zc ?_<|zf<|b _;cases d<;>rfl
 |true=>
  rw[wc af]at b;cases d with
  |true=>
   rw[wd<|f.1 rfl]at b;exact zl (DW ..)<|zc rfl (zf<|b _)
  |false=>
   have i:¬(600<A.length\/600<B.length):=fun h=>by have:=f.2 h;cases this
   rw[wc i]at b;obtain⟨j,l⟩:=g rfl;exact zl (DW ..) (yg rfl (F9 A B e j l ae ae b))
theorem Cb(A B:Z)(b a:Bool)(d:a=true->Aq A=true/\(b=true->Aq B=true))(e:∀ob,Q (.dat i64<|E A B b a) ob):Ends Nr (L4 A B b a) Q:=by
 refine zl (Ck ..)<|zc rfl (zh (fun c=>zc rfl (zc rfl ?_))<|fun c=>zc rfl (zc rfl ?_))
 ·have c:=w6 c;exact CJ A B b a _ _ rfl ⟨fun _=>.inl ae,fun _=>rfl⟩ d e
 ·have c:=w7 c;exact CJ A B b a _ _ rfl ⟨fun h=>.inr (by have:=w6 h;omega),fun h=>w4 ae⟩ d e
theorem CX(A B:Z)(a:Bool)(b:∀ob,Q (.dat i64<|E A B a false) ob):Ends Nr (L5 A B a) Q:=by
 refine zl (EF ..)<|zc rfl (zh (fun c=>zc rfl (zc rfl ?_))<|fun c=>zc rfl (zc rfl ?_))
 ·have c:=w6 c;exact CJ A B a false _ _ rfl ⟨fun _=>.inl ae,fun _=>rfl⟩ (fun h=>by cases h) b
 ·have c:=w7 c;exact CJ A B a false _ _ rfl ⟨fun h=>.inr (by have:=w6 h;omega),fun h=>w4 ae⟩ (fun h=>by cases h) b
theorem Fs(A B:Z)(a:Bool)(b:Aq A=true/\(a=true->Aq B=true))(d:∀ob,Q (.dat i64<|E A B a true) ob):Ends Nr (L6 A B a) Q:=by
 refine zl (E2 ..)<|zc rfl (zh (fun c=>zc rfl (zc rfl ?_))<|fun c=>zc rfl (zc rfl ?_))
 ·have c:=w6 c;exact CJ A B a true _ _ rfl ⟨fun _=>.inl ae,fun _=>rfl⟩ (fun _=>b) d
 ·have c:=w7 c;exact CJ A B a true _ _ rfl ⟨fun h=>.inr (by have:=w6 h;omega),fun h=>w4 ae⟩ (fun _=>b) d
theorem Wf{F:Tr}(A B:Z)(f:Bool)(k:B.length<=1000000)(j:Aq A=true)(a:Bool)(b:a=(!f||(AX B&&decide (B≠[48])&&decide (B≠[49]))))(g:∀ob,Q (.dat i64<|E A B f a) ob)
  (h:(f=true->Ends Nr (.ite (decide (B.length<=1000000)) (.ite (AX B) (.ite (!B==[(48:UInt8)]) (L4 A B f<|!B==[(49:UInt8)])<|L5 A B f)<|L5 A B f) .fail) Q)->(f=false->a=true)->Ends Nr F Q):Ends Nr F Q:=by
 refine h (fun i=>zc (w4 k) ?_) (fun i=>by rw[b,i];rfl);rw[i]at b;refine zh (fun c=>zh (fun d=>?_)<|fun d=>?_)<|fun c=>?_
 ·have d:B≠[48]:=by simpa using d
  have e:a=(!B==[(49:UInt8)]):=by
   rw[b,c,w4 d];by_cases h:B=[49]
   ·rw[h];rfl
   ·rw[w4 h];simp[h]
  rw[<-e];exact Cb A B f a (fun _=>⟨j,fun _=>(HZ c).2⟩) g
 ·have d:B=[48]:=by simpa using d
  have e:a=false:=by rw[b,w8<|fun h=>h d];simp
  rw[e]at g;exact CX A B f g
 ·have e:a=false:=by rw[b,c];simp
  rw[e]at g;exact CX A B f g
theorem Du(s:Z):(AD s).length<=s.length/\(zm s).length<=s.length:=by
 unfold AD zm;cases s.findIdx? (fun x=>x==47)with
 |none=>simp
 |some i=>simp;omega
theorem cL(s:Z):(A6 s).length<=s.length:=by
 unfold A6;split
 ·simp
 ·exact yc _
theorem ok:Af A4 163 EC:=by
 refine BD yU<|fun(a:Z) n=>?_;have n:a.length<=1000000:=w6 n;have l1:=cL a;obtain⟨s,r⟩:=Du<|A6 a;have j:∀b,b=Hd a->∀ob,Ac EC a (.dat i64<|E (AD<|A6 a) (zm<|A6 a) (Bw<|A6 a) b) ob:=by
  rintro b rfl ob;exact yk rfl rfl rfl
 have g:Hd a=(AX (AD<|A6 a)&&(!ji a||decide (AD (A6 a)≠[48]))&&(!Bw (A6 a)||(AX (zm<|A6 a)&&decide (zm (A6 a)≠[48])&&decide (zm (A6 a)≠[49])))):=rfl;refine z6 (Aj a) (zc (Ab (w4 rfl)<|w4 n) (zc (Ab (w4 rfl)<|w4 ae)<|zc (w4 ae) ?_));generalize AD (A6 a)=A at*;generalize zm (A6 a)=B at*;generalize Bw (A6 a)=f at*;refine zh (fun c=>?_)<|fun c=>?_
 ·have l:=(HZ c).2;refine zh (fun d=>?_)<|fun d=>?_
  ·have i:Hd a=(!f||(AX B&&decide (B≠[48])&&decide (B≠[49]))):=by rw[g,c,d];rfl
   refine Wf A B f ae l (Hd a) i (j _ rfl)<|fun m q=>zl (Ak ..)<|zh m<|fun e=>?_;have p:=q e;exact Fs A B f ⟨l,fun h=>by rw[e]at h;cases h⟩<|j true p.symm
  ·by_cases k:A=[48]
   ·have i:Hd a=false:=by rw[g,d,w8<|fun h=>h k];simp
    have o:(!A==[(48:UInt8)])=false:=by rw[k];rfl
    rw[o];refine zl (Az ..) (zh (fun e=>yg rfl (CX A B f<|j false i.symm)) (fun e=>Cb A B f false (fun h=>by cases h)<|j false i.symm))
   ·have o:(!A==[(48:UInt8)])=true:=by simp[k]
    have i:Hd a=(!f||(AX B&&decide (B≠[48])&&decide (B≠[49]))):=by rw[g,c,d,w4 k];rfl
    rw[o];refine Wf A B f ae l (Hd a) i (j _ rfl)<|fun m q=>zl (Az ..)<|zh (fun e=>zc rfl (m e))<|fun e=>?_;have p:=q e;exact Cb A B f true (fun _=>⟨l,fun h=>by rw[e]at h;cases h⟩)<|j true p.symm
 ·have i:Hd a=false:=by rw[g,c];simp
  exact zl (Bq ..)<|zh (fun e=>CX A B f<|j false i.symm)<|fun e=>CX A B f<|j false i.symm
end T163
theorem Et(c:UInt8)(r:Z):AD (c::r)=if c=47 then[]else c::AD r:=by
 unfold AD;rw[qe];by_cases h:c=47
 ·subst h;rfl
 ·rw[wc (by simpa using h),wc h];cases r.findIdx? (fun x=>x==47)<;>rfl
namespace T139
theorem Ar{Q:PV->Ob->Prop}(s:Z)(k:s.length<=9223372036854775807):∀(r:Z) (i:Nat),s.drop i=r->i<=s.length->(∀ob,Q (.dat i64 (((i+(AD r).length:Nat)):Int)) ob)->Ends O7 (L1 s i) Q
 |[],i,h,e,a=>by
  have j:i=s.length:=drop_nil h e;subst j;exact zl (Ak ..) (yg (by simp)<|zf<|a _)
 |c::r,i,h,e,a=>by
  obtain⟨f,m,g⟩:=drop_cons (d:=0) h;have l:=wn (i:=i) ae;rw[Et]at a;refine zl (Ak ..) (zc (by simp;omega) ?_);rw[zn,m,l];refine zc (by simp;omega)<|zh (fun d=>?_)<|fun d=>?_
  ·have b:c=47:=by
    have:(c.toNat:Int)=47:=by simpa using d
    exact yi.1 (by show _=47;omega)
   rw[wd b]at a;exact zf<|a _
  ·have b:c≠47:=by rintro rfl;exact wh d af
   rw[wc b]at a;refine Ar s k r (i+1) g f<|fun ob=>?_;have:=a ob;rw[zp]at this;rw[show i+1+(AD r).length=i+((AD r).length+1)by omega];exact this
theorem ok:Af A4 139 PW:=by
 refine BD Ft<|fun(s:Z) a=>?_;have a:s.length<=1000000:=w6 a;refine z6 (Aj s) (Ar s ae s 0 rfl (y7 _) (fun ob=>yk rfl rfl ?_));rw[Nat.zero_add];rfl
theorem okU:Af A4 139 Z3:=by
 refine BD Ft<|fun(s:Z) a=>?_;have a:s.length<=9223372036854775807:=w6 a;refine z6 (Aj s)<|Ar s a s 0 rfl (y7 _) (fun ob=>yk rfl rfl ?_);rw[Nat.zero_add];rfl
end T139
namespace T140
theorem WZ{s:Z}{r:Z}{c:UInt8}{i:Nat}(h:s.drop i=c::r):Aq (s.drop i)=(B7 c&&Aq (s.drop<|i+1)):=by
 obtain⟨_,_,a⟩:=drop_cons (d:=0) h;rw[a,h];rfl
theorem Ar(s:Z)(l:s.length<=9223372036854775807):∀(r:Z) (i:Nat),s.drop i=r->i<=s.length->(∀ob,Q (.bl<|Aq<|s.drop i) ob)->Ends O7 (L1 s s i) Q
 |[],i,h,f,a=>by
  have k:i=s.length:=drop_nil h f;rw[h]at a;subst k;exact zl (Ak ..) (yg (by simp)<|zf<|a _)
 |c::r,i,h,f,a=>by
  obtain⟨g,n,j⟩:=drop_cons (d:=0) h;have m:=wn (i:=i) ae;rw[WZ h]at a;refine zl (Ak ..) (zc (by simp;omega) ?_);rw[zn,n,m];refine zc (by simp;omega) (zh (fun d=>?_)<|fun d=>zc (by simp;omega)<|zh (fun e=>?_)<|fun e=>?_)
  ·have d:=w6 d;have b:B7 c=false:=by unfold B7;rw[w8 ae];rfl
   rw[b]at a;exact zf<|a _
  ·have e:=w6 e;have b:B7 c=false:=by unfold B7;rw[w8 (p:=c.toNat<=57) ae,Bool.and_false]
   rw[b]at a;exact zf<|a _
  ·have d:=w7 d;have e:=w7 e;have b:B7 c=true:=by unfold B7;exact ad ae ae
   rw[b,zy]at a;exact Ar s l r (i+1) j g a
theorem A5(s:Z)(l:s.length<=9223372036854775807):∀(r:Z) (i:Nat),s.drop i=r->i<=s.length->(∀ob,Q (.bl<|Aq<|s.drop i) ob)->Ends O7 (L2 s s i) Q
 |[],i,h,f,a=>by
  have k:i=s.length:=drop_nil h f;rw[h]at a;subst k;exact zl (Az ..) (yg (by simp)<|zf<|a _)
 |c::r,i,h,f,a=>by
  obtain⟨g,n,j⟩:=drop_cons (d:=0) h;have m:=wn (i:=i) ae;rw[WZ h]at a;refine zl (Az ..) (zc (by simp;omega) ?_);rw[zn,n,m];refine zc (by simp;omega) (zh (fun d=>?_)<|fun d=>zc (by simp;omega)<|zh (fun e=>?_)<|fun e=>?_)
  ·have d:=w6 d;have b:B7 c=false:=by unfold B7;rw[w8 ae];rfl
   rw[b]at a;exact zf<|a _
  ·have e:=w6 e;have b:B7 c=false:=by unfold B7;rw[w8 (p:=c.toNat<=57) ae,Bool.and_false]
   rw[b]at a;exact zf<|a _
  ·have d:=w7 d;have e:=w7 e;have b:B7 c=true:=by unfold B7;exact ad ae ae
   rw[b,zy]at a;exact A5 s l r (i+1) j g a
theorem okU:Af A4 140 UK:=by
 refine BD Ft<|fun(s:Z) f=>?_;have f:s.length<=9223372036854775807:=w6 f;have g:∀b ob,b=AX s->Ac UK s (.bl b) ob:=fun b ob j=>yk rfl rfl j
 refine z6 (Aj s) ?_;conv=>zeta
 cases s with
 |nil=>exact zc rfl (zf<|g _ _ rfl)
 |cons c r=>
  have i:(c::r).getD 0 0=c:=rfl;rw[i];refine yg (by simp;omega) (zh (fun d=>zc (by simp)<|zh (fun e=>zf<|g _ _ ?_)<|fun e=>?_)<|fun d=>?_)
  ·have d:=w6 d;have a:c=48:=by
    have:(c.toNat:Int)=48:=by simpa using e
    exact yi.1 (by show _=48;omega)
   have hr:r≠[]:=by rintro rfl;simp at d
   unfold AX;rw[i,w8 (p:=c≠48)<|fun h=>h a,w8 (p:=c::r=[48])<|by intro h;simp at h;exact hr h.2];simp
  ·have a:c≠48:=by rintro rfl;exact wh e af
   refine Ar (c::r) f (c::r) 0 rfl (y7 _) (fun ob=>g _ _ ?_);unfold AX;rw[i,w4 a];simp
  ·have d:=w7 d;have hr:r=[]:=by
    have:r.length=0:=by simp at d;omega
    exact zw.1 this
   subst hr;refine A5 [c] f [c] 0 rfl (y7 _) (fun ob=>g _ _ ?_);unfold AX;rw[i];by_cases a:c=48
   ·subst a;rfl
   ·rw[w4 a];simp
end T140
theorem Aac:CE XK2:=Aa T149.ok Ay
namespace T143
theorem Rk{v:Int}(a: -9223372036854775808<=v/\v<9223372036854775808):∃q d:Nat,Ah v=d+1000000000*q/\d<1000000000/\zk .i64 (Int.tdiv v 1000000000)=(if v<0 then -(q:Int)else q)/\Int.tmod v 1000000000=(if v<0 then -(d:Int)else d):=by
 refine⟨v.natAbs/1000000000,v.natAbs % 1000000000,by rw[Al];omega,by omega,?_,?_⟩
 ·by_cases h:v<0
  ·have:=Int.neg_tdiv (-v) 1000000000;rw[Int.neg_neg]at this;rw[this,qf ae,wd h,wr _ ae ae];omega
  ·rw[qf ae,wc h,wr _ ae ae];omega
 ·by_cases h:v<0
  ·have:=Int.neg_tmod (-v) 1000000000;rw[Int.neg_neg]at this;rw[this,qg ae,wd h];omega
  ·rw[qg ae,wc h];omega
theorem A5(neg:Bool)(D:Int)(k:∀(w:List Int) ob,AB qc w->jz qc w=D->Q (.agg [.dat .bool<|CQ neg w,.dat li<|AA w]) ob):∀(f:Nat) (v:Int) (o1:List Int),Ah v<f->(-9223372036854775808<=v/\v<9223372036854775808)->o1.length<=100->(Ah v≠0->Ah v*1000000000^o1.length<=9223372036854775808)->AB qc o1->jz qc o1+(qc:Int)^o1.length*Ah v=D->Ends XK2 (L2 v o1.length neg o1) Q
 |0,v,o1,n,j,s,l,i,a=>by
  have:=AO v;omega
 |f+1,v,o1,n,j,s,l,i,a=>by
  obtain⟨q,d,s1,s2,s3,s4⟩:=Rk j;by_cases h0:v=0
  ·subst h0;have p:Ah 0=0:=rfl;rw[p,Int.mul_zero,Int.add_zero]at a;refine zl (Az ..)<|yg rfl ?_;rw[qo];exact zc (by simp;omega)<|zf<|k _ _ i a
  ·have h:Ah v≠0:=by rw[Al];omega
   have o:=l h;have m:o1.length<=10:=by
    rcases Nat.lt_or_ge 10 o1.length with g|g
    ·exfalso;have r:(1000000000:Int)^11<=1000000000^o1.length:=AP af g;have u:(9223372036854775808:Int)<1000000000^11:=af
     have t:=ya (show 1<=Ah v by have:=AO v;omega) (show(0:Int)<=1000000000^o1.length by omega);omega
    ·exact g
   have eq:Ah (if v<0 then -(q:Int)else q)=q:=by rw[Al];split<;>omega
   have go:Ends XK2 (L2 (if v<0 then -(q:Int)else q) (Nat.add o1.length 1) neg<|o1++[(d:Int)]) Q:=by
    have:=A5 neg D k f (if v<0 then -(q:Int)else q) (o1++[(d:Int)]) (by rw[eq];omega) (by have:=Al v;split<;>omega) (by simp;omega) (fun _=>by
     rw[eq,zi];show(q:Int)*1000000000^(o1.length+1)<=_;rw[qq, <-Int.mul_assoc,Int.mul_right_comm];have r:=ya (show(q:Int)*1000000000<=Ah v by omega) (show(0:Int)<=1000000000^o1.length from yo<|AU af _);omega) (F5 i ae) (by
     rw[eq,CC,zi];show jz qc o1+(qc:Int)^o1.length*(d:Int)+(qc:Int)^(o1.length+1)*(q:Int)=D;rw[KW,Int.add_assoc, <-Int.mul_add, <-a,s1])
    rw[zi]at this;exact this
   refine zl (Az ..) (zc (by simpa using h0)<|zc rfl ?_);rw[s3,s4];refine zh (fun c=>zc (by simp;omega)<|zc rfl ?_) (fun c=>zc (by simp;omega)<|zc rfl ?_)
   ·have c:=w6 c;have b:v<0:=by split at c<;>omega
    rw[wd b]at c;rw[wd b,wd b];rw[wd b]at go;have e:zk .i64 (0 - -(d:Int))=(d:Int):=by rw[wr _ ae ae];omega
    rw[e];exact go
   ·have c:=w7 c;have e:(if v<0 then -(d:Int)else(d:Int))=(d:Int):=by split at c<;>split<;>omega
    rw[e];exact go
theorem ok:Af A4 143 Io:=by
 refine BD Aac<|fun(v:Int) f=>?_;have f:=EN (n:=v) f;have fin:∀(w:List Int) ob,AB qc w->jz qc w=Ah v->Ac Io v (.agg [.dat .bool<|CQ (decide (v<0)) w,.dat li<|AA w]) ob:=by
  intro w ob j i;refine yk rfl rfl ?_;have:=MY (neg:=decide (v<0)) j i;have e:(if decide (v<0)=true then -Ah v else Ah v)=v:=by
   rw[Al];by_cases h:v<0
   ·rw[wd<|w4 h];omega
   ·rw[wc<|by simpa using h];omega
  rw[e]at this;exact this
 obtain⟨q,d,s1,s2,s3,s4⟩:=Rk f;have a:=AO v;refine z6 (Aj v) ?_;conv=>zeta
 by_cases h0:v=0
 ·subst h0;exact zl (Ak ..) (yg rfl (zc rfl (zf<|fin [] _ (fun x b=>by cases b) rfl)))
 ·have eq:Ah (if v<0 then -(q:Int)else q)=q:=by rw[Al];split<;>omega
  have go:Ends XK2 (L2 (if v<0 then -(q:Int)else q) 1 (decide (v<0)) [(d:Int)]) (Ac Io v):=by
   refine A5 (decide (v<0)) (Ah v) fin (q+1) _ [(d:Int)] (by rw[eq];omega) (by have:=Al v;split<;>omega) (by simp) (fun _=>?_) (fun x b=>by rw[yt]at b;subst b;show 0<=_/\_<(1000000000:Int);omega) ?_
   ·rw[eq];show(q:Int)*1000000000^1<=_;have:=Al v;omega
   ·rw[eq,ED,s1];show(d:Int)+(1000000000:Int)^1*(q:Int)=_;omega
  refine zl (Ak ..) (zc (by simpa using h0)<|zc rfl ?_);rw[s3,s4];refine zh (fun c=>zc rfl (zc rfl ?_))<|fun c=>zc rfl (zc rfl ?_)
  ·have c:=w6 c;have a:v<0:=by split at c<;>omega
   rw[wd a]at c;rw[wd a,wd a];rw[wd a]at go;have g:zk .i64 (0 - -(d:Int))=(d:Int):=by rw[wr _ ae ae];omega
   rw[g];exact go
  ·have c:=w7 c;have g:(if v<0 then -(d:Int)else(d:Int))=(d:Int):=by split at c<;>split<;>omega
   rw[g];exact go
end T143
theorem uQ:CE XK3:=Aa T139.ok<|Aa T138.ok<|Aa T143.ok Ay
theorem BY:∀(s:Z),AD s=s.take (AD s).length/\(Bw s=true->(AD s).length<s.length/\zm s=s.drop ((AD s).length+1))/\(Bw s=false->AD s=s/\zm s=[])
 |[]=>⟨rfl,(fun h=>(by cases h)),fun _=>⟨rfl,rfl⟩⟩
 |c::r=>by
  obtain⟨d,j,e⟩:=BY r;have f:zm (c::r)=if c=47 then r else zm r:=by
   unfold zm;rw[qe];by_cases h:c=47
   ·subst h;rfl
   ·rw[wc (by simpa using h),wc h];cases r.findIdx? (fun x=>x==47)<;>rfl
  have i:Bw (c::r)=(decide (c=47)||Bw r):=by
   unfold Bw;rw[List.any_cons];congr 1
  rw[Et,f,i];by_cases h:c=47
  ·rw[wd h,wd h,w4 h];exact⟨rfl,(fun _=>⟨by simp,rfl⟩),fun h=>by cases h⟩
  ·rw[wc h,wc h,w8 h];refine⟨?_,fun g=>?_,fun g=>?_⟩
   ·rw[zp,List.take_succ_cons, <-d]
   ·obtain⟨b,a⟩:=j g;refine⟨by simp;omega,?_⟩;rw[zp,List.drop_succ_cons];exact a
   ·obtain⟨b,a⟩:=e g;exact⟨by rw[b],a⟩
theorem T82.ok:Af A4 82 OL:=by
 refine BD uQ<|fun(a:Z) d=>?_;have d:(D4 (AD a)&&D4 (zm a)&&decide (a.length<=5999))=true:=d;rw[zd,zd,w5]at d;obtain⟨⟨f,l⟩,n⟩:=d;obtain⟨c1,c2,c3⟩:=BY a;have es:A1 a=((AD a).length:Int):=rfl;have m:(AD a).length<=a.length:=(T163.Du a).1;refine z6 (T82.Aj a) (zc (w4 ae)<|zh (fun c=>?_)<|fun c=>?_)
 ·have c:(AD a).length=a.length:=by
   have:((AD a).length:Int)=(a.length:Int):=by simpa [es]using c
   omega
  have b:Bw a=false:=by
   cases h:Bw a with
   |false=>rfl
   |true=>have:=(c2 h).1;omega
  obtain⟨g,i⟩:=c3 b;rw[g]at f;refine zc f<|zc rfl (zf<|yk rfl rfl ?_);show((Gr a,Ej a),(false,Sp.rW 1))=((BZ a,BT a),(Bz a,Bp a));unfold BZ BT Bz Bp Be AR Gr Ej;rw[g,b];rfl
 ·have e:(AD a).length<a.length:=by
   have:((AD a).length:Int)≠(a.length:Int):=by simpa [es]using c
   omega
  have b:Bw a=true:=by
   cases h:Bw a with
   |true=>rfl
   |false=>have:=(c3 h).1;rw[this]at e;omega
  obtain⟨g,i⟩:=c2 b;have k:zk .i64 (((AD a).length:Int)+1)=(((AD a).length+1:Nat):Int):=by rw[wr _ ae ae];omega
  have j:(a.drop<|(AD a).length+1).take (Nat.sub a.length<|(AD a).length+1)=a.drop ((AD a).length+1):=yu (by rw[qp];exact yc _);rw[es,k,zn,zn,j, <-c1, <-i];refine zc (by simp;omega) (zc (by simp;omega)<|zc f<|zc l<|zf<|yk rfl rfl ?_);show((Gr<|AD a,Ej<|AD a),(Gr<|zm a,Ej<|zm a))=((BZ a,BT a),(Bz a,Bp a));unfold BZ BT Bz Bp Be AR Gr Ej;rw[b];rfl
theorem yP:CE Xb:=Aa T139.okU<|Aa T140.okU<|Aa T82.ok<|Aa T141.ok Ay
namespace T78
theorem wL{g:Int}(h0:0<=g):BW g=[1]↔g=1:=by
 constructor
 ·intro h;have:=Dj (b:=qc) af h0;have h:Sp.dg qc g=[1]:=h;rw[h]at this;rw[<-this];rfl
 ·rintro rfl;rfl
theorem Cb(s:Z)(q:Aq (AD s)=true)(l:Bw s=true->Aq (zm s)=true)(u:(AD s).length<=600)(G:(zm s).length<=600)(F:s.length<=5999)
  (a:∀ob,Q (.dat i64<|if Bw s=true/\qx (AI 0<|AD s) (AI 0<|zm s)≠1 then 1 else 0) ob):Ends Xb (L4 s<|A1 s) Q:=by
 obtain⟨J,D,z⟩:=BY s;have es:A1 s=((AD s).length:Int):=rfl;refine zl (Ck ..) ?_;conv=>zeta
 rw[es];refine zh (fun c=>?_)<|fun c=>?_
 ·have c:=w6 c;have f:Bw s=true:=by
   cases h:Bw s with
   |true=>rfl
   |false=>have:=(z h).1;rw[this]at c;omega
  have l:=l f;obtain⟨E,y⟩:=Md q ae;obtain⟨r3,r4⟩:=Md l ae;have m:=Bk q;have n:=Bk l;have t:∀k:Nat,(10:Int)^k<=(qc:Int)^k:=by
   intro k;induction k with
   |zero=>exact Int.le_refl _
   |succ k A=>
    rw[qq,qq];have j:=ya A (show(0:Int)<=10 by decide);have C:=yd (show(10:Int)<=(qc:Int)by decide) (yo<|AU (b:=qc) af k);exact jj j C
  have r:AI 0 (AD s)<(qc:Int)^600:=yf m.2 (jj (t _)<|AP af u);have p:AI 0 (zm s)<(qc:Int)^600:=yf n.2 (jj (t _) (AP af G));have v:BT s=BW (AI 0<|AD s):=by
   unfold BT Be Sp.rW;rw[y,show Ah (AI 0<|AD s)=AI 0 (AD s)by rw[Al];omega]
  have I:Bp s=BW (AI 0<|zm s):=by
   unfold Bp AR Sp.rW;rw[wd f,r4,show Ah (AI 0<|zm s)=AI 0 (zm s)by rw[Al];omega]
  obtain⟨n1,_,v1,l1⟩:=Gk (k:=600) m.1 r af;obtain⟨n2,_,v2,l2⟩:=Gk (k:=600) n.1 p af;have rat:DT s=true:=by
   unfold DT;rw[E,r3];exact w4 F
  rw[v,I];refine zc rat (zl (EF ..)<|zc (Ab (Ab (Ab n1 n2)<|w4 ae)<|w4 ae) ?_);have H:CI (BW<|AI 0<|AD s) (BW<|AI 0<|zm s)=BW (qx (AI 0<|AD s)<|AI 0<|zm s):=by
   unfold CI;rw[v1,v2]
  rw[H];obtain⟨B,_⟩:=Abr m.1 n.1 r p;generalize qx (AI 0<|AD s) (AI 0<|zm s)=g at*;have j:=wL B;by_cases h:g=1
  ·rw[wc<|fun x=>x.2 h]at a;rw[j.2 h];exact zl (E2 ..)<|yg rfl (zc rfl (yg rfl (zf<|a _)))
  ·rw[wd ⟨f,h⟩]at a;have i:BW g≠[1]:=fun x=>h<|j.1 x
   refine zl (E2 ..)<|zh (fun d=>zf<|a _)<|fun d=>?_;have d:(BW g).length=1:=by
    have:((BW g).length:Int)=1:=by simpa using d
    omega
   obtain⟨x,w⟩:=List.length_eq_one_iff.1 d;rw[w]at i ⊢;have o:x≠1:=fun e=>i (by rw[e])
   exact zc rfl (zc (by simpa using o)<|zf<|a _)
 ·have c:=w7 c;have f:Bw s=false:=by
   cases h:Bw s with
   |false=>rfl
   |true=>have:=(D h).1;omega
  rw[wc<|fun x=>by rw[f]at x;cases x.1]at a;exact zf<|a _
theorem A5(s:Z)(n:Aq (AD s)=true)(x:s.length<=9223372036854775807)(a:∀ob,Q (.dat i64<|T163.E (AD s) (zm s) (Bw s)<|!Bw s||(AX (zm s)&&decide (zm s≠[48])&&decide (zm s≠[49]))) ob):Ends Xb (L2 s<|A1 s) Q:=by
 obtain⟨w,m,j⟩:=BY s;have es:A1 s=((AD s).length:Int):=rfl;have u:=T163.Du s;have big:(Bw s=true->Aq (zm s)=true)->(∀ob,Q (.dat i64<|T163.E (AD s) (zm s) (Bw s) true) ob)->Ends Xb (L3 s<|A1 s) Q:=by
  intro v a;unfold T163.E at a;rw[wc af]at a;have b:s.length=(AD s).length+(if Bw s=true then 1+(zm s).length else 0):=by
   cases h:Bw s with
   |true=>obtain⟨l,i⟩:=m h;rw[wd rfl,i,qp];omega
   |false=>obtain⟨l,i⟩:=j h;rw[wc af,l];rfl
  have k:Bw s=false->(zm s).length=0:=fun h=>by rw[(j h).2];rfl
  refine zl (Bq ..) ?_;conv=>zeta
  rw[es,wr ((s.length:Int)-((AD s).length:Int)) ae ae,wr _ ae ae];refine zh (fun c=>?_)<|fun c=>zh (fun d=>?_)<|fun d=>?_
  ·have c:=w6 c;rw[wd<|.inl ae]at a;exact zf<|a _
  ·have c:=w7 c;have d:=w6 d;have:600<(zm s).length:=by split at b<;>omega
   rw[wd<|.inr this]at a;exact zf<|a _
  ·have c:=w7 c;have d:=w7 d;have r:(zm s).length<=600:=by
    cases h:Bw s with
    |true=>rw[h,wd rfl]at b;omega
    |false=>have:=k h;omega
   rw[wc ae]at a;exact Cb s n v ae r (by split at b<;>omega) a
 refine zl (Az ..) ?_;conv=>zeta
 cases g:Bw s with
 |false=>
  rw[g]at a;have t:¬(A1 s<(s.length:Int)):=by rw[es,(j g).1];omega
  exact yg (w8 t) (big (fun h=>by rw[g]at h;cases h)<|by rw[g];exact a)
 |true=>
  rw[g]at a;obtain⟨l,i⟩:=m g;have q:zk .i64 (((AD s).length:Int)+1)=(((AD s).length+1:Nat):Int):=by rw[wr _ ae ae];omega
  have o:(s.drop<|(AD s).length+1).take (Nat.sub s.length<|(AD s).length+1)=s.drop ((AD s).length+1):=yu (by rw[qp];exact yc _);rw[es,q,zn,o, <-i];rw[es]at big;have bad:(!true||(AX (zm s)&&decide (zm s≠[48])&&decide (zm s≠[49])))=false->∀ob,Q (.dat i64 1) ob:=by
   intro h ob;have:=a ob;rw[h]at this;exact this
  refine zc (by simp;omega) (zc (by simp;omega)<|zc (w4 ae)<|zh (fun d=>zf<|bad ?_ _)<|fun d=>zc (by simp;omega) (zh (fun e=>zf<|bad ?_ _)<|fun e=>zc (by simp;omega)<|zh (fun f=>zf<|bad ?_ _)<|fun f=>?_))
  ·have d:AX (zm s)=false:=by simpa using d
   rw[d];rfl
  ·have e:zm s=[48]:=by simpa using e
   rw[w8 (p:=zm s≠[48])<|fun h=>h e];simp
  ·have f:zm s=[49]:=by simpa using f
   rw[w8 (p:=zm s≠[49])<|fun h=>h f];simp
  ·have d:AX (zm s)=true:=by simpa using d
   have e:zm s≠[48]:=by simpa using e
   have f:zm s≠[49]:=by simpa using f
   rw[d,w4 e,w4 f]at a;exact big (fun _=>(HZ d).2) (by rw[g];exact a)
theorem Ar(a s:Z)(c:s=A6 a)(o:a.length<=9223372036854775807)(b:∀ob,Q (.dat i64<|An a) ob):Ends Xb (L1 a s) Q:=by
 obtain⟨j,n,q⟩:=BY s;have es:A1 s=((AD s).length:Int):=rfl;have l:s.length<=a.length:=by rw[c];exact T163.cL a
 have m:=T163.Du s;have k:An a=T163.E (AD s) (zm s) (Bw s) (AX (AD s)&&(!ji a||decide (AD s≠[48]))&&(!Bw s||(AX (zm s)&&decide (zm s≠[48])&&decide (zm s≠[49])))):=by rw[c];rfl
 rw[k]at b;have tk:s.take (AD s).length=AD s:=j.symm;refine zl (Ak ..) ?_;conv=>zeta
 rw[show A1 s=((AD s).length:Int)from rfl,zn,tk];refine zc (w4 ae) (zc (by simp;omega) (zc (w4 ae)<|zh (fun d=>?_)<|fun d=>?_))
 ·have d:AX (AD s)=false:=by simpa using d
  rw[d]at b;exact zf<|b _
 ·have d:AX (AD s)=true:=by simpa using d
  have g:=(HZ d).2;have i:a.length≠0:=by
   intro h;have h:=zw.1 h;have:s=[]:=by rw[c,h];rfl
   rw[this]at d;exact wh d af
  rw[d,zy]at b;refine zc (w4 ae) (zh (fun e=>zc (by simp;omega)<|zh (fun f=>?_)<|fun f=>?_)<|fun e=>?_)
  ·have hp:ji a=true:=by
    unfold ji;refine w4<|yi.1 ?_;have:((a.getD 0 0).toNat:Int)=45:=by simpa using e
    show _=45;omega
   have f:AD s=[48]:=by simpa using f
   rw[hp,w8 (p:=AD s≠[48])<|fun h=>h f]at b;exact zf<|b _
  ·have f:AD s≠[48]:=by simpa using f
   rw[w4 f,Bool.or_true,zy]at b;exact A5 s g ae b
  ·have hp:ji a=false:=by
    unfold ji;refine w8<|fun h=>?_;rw[h]at e;exact wh e af
   rw[hp,Bool.not_false,Bool.true_or,zy]at b;exact A5 s g ae b
theorem ok:Af A4 78 EC:=by
 refine BD yP<|fun(a:Z) b=>?_;have b:a.length<=1000000:=w6 b;have f:∀ob,Ac EC a (.dat i64<|An a) ob:=fun ob=>yk rfl rfl rfl
 refine z6 (Aj a) ?_;conv=>zeta
 cases a with
 |nil=>exact yg rfl (Ar [] [] rfl (qt b af) f)
 |cons c r=>
  have h:(c::r).getD 0 0=c:=rfl;rw[h];refine zc (by simp) (zc (by simp) (zh (fun d=>zc (by simp) ?_)<|fun d=>?_))
  ·have g:c=45:=by
    have:(c.toNat:Int)=45:=by simpa using d
    exact yi.1 (by show _=45;omega)
   have e:(List.drop 1 (c::r)).take (Nat.sub (c::r).length 1)=r:=by show r.take ((r.length+1)-1)=r;rw[Nat.add_sub_cancel];exact qo
   rw[e];exact Ar (c::r) r (by unfold A6;rw[h,wd g];rfl) (qt b af) f
  ·have g:c≠45:=by rintro rfl;exact wh d af
   exact Ar (c::r) (c::r) (by unfold A6;rw[h,wc g]) (qt b af) f
end T78
theorem GY:CE uC:=
 Aa T134.ok (Aa T162.ok<|Aa T184.ok<|Aa T171.ok<|Aa T68n.ok<|Aa T124.ok<|Aa T125.ok<|Aa T67.ok<|Aa T159.ok<|Aa T160.ok Ay)
theorem Fm{a:AM}(h:Ou a=true):Bd a=true/\Ah (zg a)<(Ap:Int)^4000:=by
 unfold Ou at h;rw[zd,w5]at h;refine⟨?_,JN h.1 h.2 af⟩;unfold Bd;exact Ab h.1 (w4 ae)
theorem LF{x y:Int}(a:Ah x<(Ap:Int)^4000)(c:Ah y<(Ap:Int)^4000):Ah (x*y)<(Ap:Int)^8000:=by
 rw[JZ];have h0:=AO x;have hp:=AU (b:=Ap) af 4000;have a1:=yd (yo c) h0;have a2:=Int.mul_lt_mul_of_pos_right a hp;have a3:(Ap:Int)^4000*(Ap:Int)^4000=(Ap:Int)^8000:=(Int.pow_add _ 4000 4000).symm;rw[a3]at a2;exact qh a1 a2
theorem Ahp{x:Int}(h:x<(Ap:Int)^8000):x<(Ap:Int)^9000:=yf h (AP af af)
theorem Um{x y:Int}(a:Ah x<(Ap:Int)^4000)(b:Ah y<(Ap:Int)^4000):Bd (Dh<|x*y)=true:=Eb<|Ahp<|LF a b
theorem Afy{a b:AM}(e:Bd a=true)(f:Bd b=true)(h:Ah (zg a+zg b)<(Ap:Int)^9000):Bd (EW a b)=true:=by
 have d:=U1 e f;unfold EW at d ⊢;split
 ·rename_i c;rw[wd c]at d;unfold Bd;exact Ab d rfl
 ·exact Eb h
theorem wQ(n:Nat):(2:Int)*(Ap:Int)^n<=(Ap:Int)^(n+1):=by
 rw[qq,jk];exact yd af (yo (AU (b:=Ap) af n))
theorem iU{x y:Int}(c:Ah x<(Ap:Int)^8000)(d:Ah y<(Ap:Int)^8000):Ah (x+y)<(Ap:Int)^9000:=by
 have a:=wQ 8000;have b:(Ap:Int)^8001<=(Ap:Int)^9000:=AP af af;have a:(2:Int)*(Ap:Int)^8000<=(Ap:Int)^8001:=a;generalize (Ap:Int)^8000=p at*;generalize (Ap:Int)^8001=q at*;generalize (Ap:Int)^9000=r at*;rw[Al]at*;omega
theorem Xk(a:AM):decide (IK a<0)=decide (zg a<0):=by
 unfold IK Sp.Og;rw[Bool.eq_iff_iff,w5,w5];split
 ·omega
 ·split<;>omega
theorem cQ{n d:AM}(h:Jv n d=true):Bd n=true/\Bd d=true/\zg d≠0:=by
 unfold Jv at h;rw[zd,zd,w5]at h;exact⟨h.1.1,h.1.2,h.2⟩
theorem T96.ok:Af A4 96 LU:=by
 refine BD GY<|fun(a:Z) b=>?_;have b:(D4 (AD a)&&D4 (zm a)&&decide (a.length<=5999))=true:=b;rw[zd,zd,w5]at b;obtain⟨⟨d,e⟩,f⟩:=b;refine z6 (T96.Aj a) (zc (Ab (w4 rfl)<|w4 ae)<|zh (fun c=>zc d<|zc rfl (zf<|yk rfl rfl ?_))<|fun c=>zc d<|zc e<|zf<|yk rfl rfl ?_)
 ·have c:Bw a=false:=by simpa using c
  show((DF<|AD a,DH<|AD a),((1:Int),BL 1))=((RW a,RR a),(P0 a,Rp a));unfold P0 Rp AR;rw[c,OG];rfl
 ·have c:Bw a=true:=by simpa using c
  show((DF<|AD a,DH<|AD a),(DF<|zm a,DH<|zm a))=((RW a,RR a),(P0 a,Rp a));unfold P0 Rp AR;rw[c];rfl
theorem T172.ok:Af A4 172 cIQ:=by
 refine BD GY<|fun(i:(Int×List Int)×(Int×List Int)) hi=>?_;obtain⟨a,b⟩:=i;obtain⟨ha,hb,h0⟩:=cQ (n:=a) (d:=b) hi;refine z6 (T172.Aj a b)<|zc (Cf hb).1 ?_;rw[Xk];refine zh (fun c=>zc (Cf ha).1<|zc (Cf hb).1<|zl (T172.Ak ..)<|zc ?_<|zf<|yk rfl rfl ?_)<|fun c=>zl (T172.Ak ..)<|zc ?_<|zf<|yk rfl rfl ?_
 ·have c:zg b<0:=w6 c;have:=IY b;exact Ab (Ab (WK ha)<|WK hb) (w4<|by show 0<zg (DA b);omega)
 ·have c:zg b<0:=w6 c;show Gv (DA a) (DA b)=Sp.iQ a b;unfold Sp.iQ;rw[wd c]
 ·have c:¬zg b<0:=w7 c;exact Ab (Ab ha hb) (w4 (by show 0<zg b;omega))
 ·have c:¬zg b<0:=w7 c;show Gv a b=Sp.iQ a b;unfold Sp.iQ;rw[wc c]
theorem Aam:CE XA1:=Aa T134.ok<|Aa T162.ok<|Aa T171.ok<|Aa T172.ok Ay
theorem Abj{n d:AM}(b:Bd d=true)(h0:zg d≠0):Bd (Sp.gR n d)=true/\zg (Sp.gR n d)=(yz (zg n) (zg d):Int)/\0<zg (Sp.gR n d):=by
 have e:zg (Sp.gR n d)=(yz (zg n) (zg d):Int):=by
  show zg (C9 _,C8 _)=_;rw[Mg,GC]
 have hp:0<yz (zg n) (zg d):=Int.gcd_pos_of_ne_zero_right _ h0;refine⟨Gw<|Eb ?_,e,by rw[e];omega⟩;rw[GC,Al,zj];have a:=bounds b;rw[Al]at a;have c:yz (zg n) (zg d)<=(zg d).natAbs:=Nat.gcd_le_right _ ae;omega
namespace T120
theorem Ar(f z2:Int)(n d:AM)(g:Bd n=true)(b:Bd d=true)(h0:zg d≠0)(a:∀ob,Q (.agg [.dat i64 (Oy n d).1.1,.dat (.nlist u64) (Oy n d).1.2,.dat i64 (Oy n d).2.1,.dat (.nlist u64) (Oy n d).2.2]) ob):
  Ends XA1 (L1 f z2 d.1 d.2 n.1 n.2) Q:=by
 obtain⟨i,_,l⟩:=Abj (n:=n) b h0;have next:Db d=false->Ends XA1 (.ite (Bd (n.1,n.2)&&Bd (d.1,d.2)) (L2 (N8 (n.1,n.2) (d.1,d.2)) (Oe (n.1,n.2) (d.1,d.2)) f z2 d.1 d.2 n.1 n.2) .fail) Q:=by
  intro j;unfold Oy at a;rw[wc<|by rw[j];decide]at a;have k:∀x:AM,Bd x=true->Jv x (Sp.gR n d)=true:=fun x h=>by unfold Jv;exact Ab (Ab h i) (w4 ae)
  exact zc (Ab g b)<|zl (Az ..)<|zc (k n g)<|zc (k d b)<|zf<|a _
 refine zl (Ak ..)<|zh (fun c=>zh (fun e=>zf ?_)<|fun e=>next ?_)<|fun c=>next ?_
 ·have c:d.2=[]:=by simpa using c
  have e:d.1=1:=by simpa using e
  unfold Oy at a;rw[wd<|by unfold Db;simp[c,e]]at a;exact a _
 ·unfold Db;rw[Bool.and_eq_false_iff];right;simpa using e
 ·unfold Db;rw[Bool.and_eq_false_iff];left;have:d.2≠[]:=by rintro k;rw[k]at c;simp at c
  simpa using this
theorem ok:Af A4 120 bT:=by
 refine BD Aam<|fun(i:(Int×List Int)×(Int×List Int)) hi=>?_;obtain⟨n,d⟩:=i;obtain⟨hn,hd,h0⟩:=cQ (n:=n) (d:=d) hi;have vn:=IY d;refine z6 (Aj n d)<|zc (Cf hd).1 ?_;rw[Xk];refine zh (fun c=>zc (Cf hn).1<|zc (Cf hd).1<|Ar 0 0 (DA n) (DA d) (WK hn) (WK hd) ae<|fun ob=>yk rfl rfl ?_)<|fun c=>Ar 0 0 n d hn hd h0<|fun ob=>yk rfl rfl ?_
 ·have c:zg d<0:=w6 c;show Oy (DA n) (DA d)=SJ n d;unfold SJ;rw[wd c]
 ·have c:¬zg d<0:=w7 c;show Oy n d=SJ n d;unfold SJ;rw[wc c]
end T120
theorem T123.ok:Af A4 123 Q5:=by
 refine BD GY<|fun(a:(Int×List Int)×(Int×List Int)) _=>?_;refine z6 (T123.Aj a)<|zh (fun c=>zf<|yk rfl rfl ?_)<|fun c=>zf<|yk rfl rfl ?_
 ·have c:a.2.2=[]:=by simpa using c
  show(a.2.1==(1:Int))=Db a.2;unfold Db;rw[w4 c,zy];rfl
 ·have c:a.2.2≠[]:=by rintro k;rw[k]at c;simp at c
  show false=Db a.2;unfold Db;rw[w8 c,Bool.false_and]
theorem T121.ok:Af A4 121 jM:=by
 refine BD GY<|fun(a:Int×List Int) _=>?_;exact z6 (T121.Aj a)<|zc rfl (zf<|yk rfl rfl rfl)
theorem T131.ok:Af A4 131 Aby:=by
 refine BD GY<|fun(a:(Int×List Int)×(Int×List Int)) h=>?_;exact z6 (T131.Aj a)<|zc h<|zf<|yk rfl rfl rfl
theorem T73.ok:Af A4 73 QW:=by
 refine BD GY<|fun(i:((Int×List Int)×(Int×List Int))×((Int×List Int)×(Int×List Int))) c=>?_;obtain⟨a,b⟩:=i;have c:((Ou a.1&&Ou a.2)&&(Ou b.1&&Ou b.2))=true:=c;rw[zd,zd,zd]at c;obtain⟨⟨a1,a2⟩,b1,b2⟩:=c;obtain⟨a1,la1⟩:=Fm a1;obtain⟨a2,la2⟩:=Fm a2;obtain⟨b1,lb1⟩:=Fm b1;obtain⟨b2,lb2⟩:=Fm b2;refine z6 (T73.Aj a b)<|zc (Ab a1 b2)<|zc (Ab b1 a2)<|zc (Ab (Um la1 lb2)<|Um lb1 la2)<|zf<|yk rfl rfl ?_;show Cp (zg<|FU a.1 b.2) (zg<|FU b.1 a.2)=Cp _ _;rw[DS,DS]
theorem GO{a:Ae}(h:jg a=true):Bd a.1=true/\Bd a.2=true/\Ah (zg a.1)<(Ap:Int)^4000/\Ah (zg a.2)<(Ap:Int)^4000/\0<zg a.2:=by
 unfold jg Sp.Ch at h;rw[zd,zd,w5]at h;obtain⟨a1,b⟩:=Fm h.1.1;obtain⟨a2,b2⟩:=Fm h.1.2;exact⟨a1,a2,b,b2,h.2⟩
theorem UL:CE XA2:=Aa T123.ok<|Aa T121.ok<|Aa T124.ok<|Aa T125.ok<|Aa T120.ok Ay
theorem Us{n d:AM}(b:Bd n=true)(a:Bd d=true)(h0:zg d≠0):Jv n d=true:=by
 unfold Jv;exact Ab (Ab b a)<|w4 h0
theorem Oq{a b:AM}(c:Ah (zg a)<(Ap:Int)^4000)(d:Ah (zg b)<(Ap:Int)^4000):Bd (FU a b)=true:=Um c d
theorem T65.ok:Af A4 65 SO:=by
 refine BD UL<|fun(i:((Int×List Int)×(Int×List Int))×((Int×List Int)×(Int×List Int))) c=>?_;obtain⟨a,b⟩:=i;have c:(jg a&&jg b)=true:=c;rw[zd]at c;obtain⟨a1,a2,la1,la2,a0⟩:=GO c.1;obtain⟨b1,b2,lb1,lb2,b0⟩:=GO c.2;have d:zg (FU a.2 b.2)≠0:=by rw[DS];exact zx<|qm a0 b0
 exact z6 (T65.Aj a b)<|zc (Ab a1 b1)<|zc (Ab a2 b2)<|zc (Us (Oq la1 lb1) (Oq la2 lb2) d)<|zf<|yk rfl rfl rfl
namespace T59
theorem Ar(e z2:Int)(a b:Ae)(g:jg a=true)(i:jg b=true)(j:∀ob f,f=SJ (EW (FU a.1 b.2)<|FU b.1 a.2) (FU a.2 b.2)->Q (.agg [.dat i64 f.1.1,.dat (.nlist u64) f.1.2,.dat i64 f.2.1,.dat (.nlist u64) f.2.2]) ob):
  Ends XA2 (L1 e z2 b.1.1 b.1.2 b.2.1 b.2.2 a.1.1 a.1.2 a.2.1 a.2.2) Q:=by
 obtain⟨a1,a2,d,c,a0⟩:=GO g;obtain⟨b1,b2,lb1,lb2,b0⟩:=GO i;have k:zg (FU a.2 b.2)≠0:=by rw[DS];exact zx<|qm a0 b0
 have h:Bd (EW (FU a.1 b.2)<|FU b.1 a.2)=true:=Afy (Oq d lb2) (Oq lb1 c) (by rw[DS,DS];exact iU (LF d lb2)<|LF lb1 c);exact zl (Ak ..)<|zc (Ab a1 b2)<|zc (Ab b1 a2)<|zc (Ab (Oq d lb2)<|Oq lb1 c)<|zc (Ab a2 b2)<|zc (Us h (Oq c lb2) k)<|zf<|j _ _ rfl
theorem ok:Af A4 59 I4:=by
 refine BD UL<|fun(i:((Int×List Int)×(Int×List Int))×((Int×List Int)×(Int×List Int))) e=>?_;obtain⟨a,b⟩:=i;have e:(jg a&&jg b)=true:=e;rw[zd]at e;obtain⟨a1,a2,la1,la2,a0⟩:=GO e.1;obtain⟨b1,b2,lb1,lb2,b0⟩:=GO e.2;have g:¬(Db a.2=true/\Db b.2=true)->Ends XA2 (L1 0 0 b.1.1 b.1.2 b.2.1 b.2.2 a.1.1 a.1.2 a.2.1 a.2.2) (Ac I4 (a,b)):=fun j=>
  Ar 0 0 a b e.1 e.2 (fun ob f h=>yk rfl rfl (by
   show f=B0 a b;unfold B0;rw[wc j];exact h))
 refine z6 (Aj a b) (zc rfl (zh (fun c=>zc rfl (zh (fun d=>zc (Ab a1 b1)<|zc rfl (zf<|yk rfl rfl ?_))<|fun d=>g (fun k=>by have:=k.2;rw[show Db b.2=false from d]at this;cases this)))<|fun c=>g (fun k=>by have:=k.1;rw[show Db a.2=false from c]at this;cases this)));show Sp.fWh (EW a.1 b.1)=B0 a b;unfold B0;rw[wd ⟨c,d⟩]
end T59
theorem T161.ok:Af A4 161 AaW:=by
 refine BD UL<|fun(a:(Int×List Int)×(Int×List Int)) b=>?_;have b:(jg a&&decide (zg a.1≠0))=true:=b;rw[zd,w5]at b;obtain⟨a1,a2,c,d,a0⟩:=GO b.1;exact z6 (T161.Aj a)<|zc (Us a2 a1 b.2)<|zf<|yk rfl rfl rfl
theorem TH{a:AM}(h:jl a=true){k:Nat}(c:Ah (zg a)<(Ap:Int)^k):a.2.length<=k:=by
 rcases QR h with⟨b,_⟩|b
 ·rw[b];exact y7 _
 ·rw[<-b];exact Lr (AO _) c
theorem G9{a:AM}(h:jl a=true)(b:Ah (zg a)<(Ap:Int)^4000):Ou a=true:=by
 unfold Ou;exact Ab h<|w4<|TH h b
theorem cC{a:AM}(h:jl a=true)(b:Ah (zg a)<(Ap:Int)^9000):Bd a=true:=by
 unfold Bd;exact Ab h<|w4<|TH h b
structure Fk(f:Ae)(q:Rat):Prop where
 n:jl f.1=true
 d:jl f.2=true
 vn:zg f.1=q.num
 vd:zg f.2=(q.den:Int)
def Mm(k:Nat)(q:Rat):Prop:=Ah q.num<(Ap:Int)^k/\(q.den:Int)<(Ap:Int)^k
theorem Fk.den_pos{f:Ae}{q:Rat}(h:Fk f q):0<zg f.2:=by
 rw[h.vd];have:=q.den_pos;omega
theorem Fk.Cq{f:Ae}{q:Rat}(h:Fk f q)(a:Mm 4000 q):jg f=true:=by
 unfold jg Sp.Ch;have b:Ah (zg f.2)=(q.den:Int):=by rw[h.vd,Al,zj]
 exact Ab (Ab (G9 h.n<|by rw[h.vn];exact a.1)<|G9 h.d<|by rw[b];exact a.2)<|w4 h.den_pos
theorem X2{x y:Int}:Ah (x/y)<=Ah x:=by
 rw[Al,Al];have a:=yq x y;omega
theorem qZ{a b:AM}(d:0<zg b):zg (Gv a b)=zg a/zg b:=by
 unfold Gv;generalize l:zg a=x;generalize zg b=y at d;have f:=Int.mul_ediv_add_emod (Ah x) y;have j:=Int.emod_nonneg (Ah x)<|zx d;have i:=Int.emod_lt_of_pos (Ah x) d;split
 ·next c=>
  rw[oR,CP,Fc];obtain⟨k,g⟩:=c;symm;rw[qu d];have e:Ah x= -x:=by rw[Al];omega
  rw[e]at f j i g ⊢;generalize -x/y=q at*;generalize -x % y=r at*;rw[Int.sub_mul,Int.neg_mul,jk q y];generalize y*q=t at*;omega
 ·next c=>
  rw[CP];unfold Sp.sg;split
  ·next n=>
   have n:x<0:=w6 n;have g:Ah x % y=0:=ql fun h=>c ⟨n,h⟩
   symm;rw[qu d];have e:Ah x= -x:=by rw[Al];omega
   rw[g]at f;rw[e]at f ⊢;generalize -x/y=q at*;rw[Int.neg_mul,jk q y];generalize y*q=t at*;omega
  ·next n=>
   have n:¬x<0:=fun h=>n<|w4 h
   have e:Ah x=x:=by rw[Al];omega
   rw[e]
theorem Zm{a b:AM}(f:Bd a=true)(g:0<zg b):jl (Gv a b)=true:=by
 have d:=bounds f;have h:Ah (zg a)/zg b<=Ah (zg a):=Int.ediv_le_self _<|AO _;have e:0<=Ah (zg a)/zg b:=Int.ediv_nonneg (AO _)<|yo g;unfold Gv;generalize Ah (zg a)/zg b=q at*;have c:Ah q<(Ap:Int)^9000:=by
  refine qh ?_ d;rw[Al];omega
 split
 ·exact U1 (Eb<|by rw[Jb];exact c) af
 ·refine(OY (k:=9000) ?_ ae).1;unfold Sp.sg;split
  ·rw[Jb];exact c
  ·exact c
theorem AaY{a b:AM}(c:0<zg b):zg (Sp.iQ a b)=zg a/zg b:=by
 unfold Sp.iQ;rw[wc ae];exact qZ c
theorem nI{a b:AM}(c:Bd a=true)(d:0<zg b):jl (Sp.iQ a b)=true:=by
 unfold Sp.iQ;rw[wc ae];exact Zm c d
theorem We{n d:AM}(h:Bd n=true)(b:Bd d=true)(h0:0<zg d):Fk (Oy n d) (zt (zg n)<|zg d):=by
 have j:(zg d).sign=1:=qv h0;have g:(zt (zg n)<|zg d).num=zg n/(yz (zg n) (zg d):Int):=by
  rw[qi,j,Int.one_mul,jm]
 have i:((zt (zg n)<|zg d).den:Int)=zg d/(yz (zg n) (zg d):Int):=by
  rw[qj,wc<|zx h0,jm,Int.natCast_ediv];rw[Int.natAbs_of_nonneg<|yo h0]
 obtain⟨k,f,a⟩:=Abj (n:=n) b<|zx h0;unfold Oy;split
 ·next c=>
  unfold Db at c;rw[zd,w5,w5]at c;have e:zg d=1:=by rw[Bv c.1];exact c.2
  refine⟨(Cf h).1,(Cf b).1,?_,?_⟩
  ·rw[g,e,Int.gcd_one];exact(jo _).symm
  ·rw[i,e,Int.gcd_one];exact(jo _).symm
 ·refine⟨nI h a,nI b a,?_,?_⟩
  ·rw[AaY a,g,f]
  ·rw[AaY a,i,f]
theorem Ka{n d:AM}(f:Bd n=true)(b:Bd d=true)(h0:zg d≠0):Fk (SJ n d) (zt (zg n)<|zg d):=by
 unfold SJ;split
 ·next c=>
  have h:=We (WK f) (WK b) (by rw[IY];omega);rw[IY,IY]at h;have e:=Rat.divInt_mul_right (n:=zg n) (d:=zg d) (a:= -1) af;rw[Int.mul_neg,qn,Int.mul_neg,qn]at e;rw[e]at h;exact h
 ·exact We f b ae
theorem Mm.eW{k:Nat}{f:Ae}{q:Rat}(h:Fk f q)(a:Mm k q):Ah (zg f.1)<(Ap:Int)^k/\Ah (zg f.2)<(Ap:Int)^k:=by
 rw[h.vn,h.vd];refine⟨a.1,?_⟩;rw[Al,zj];exact a.2
theorem Fk.eqd{f:Ae}{q:Rat}(h:Fk f q):zt (zg f.1) (zg f.2)=q:=by
 rw[h.vn,h.vd];exact zo q
theorem Fk.neg{f:Ae}{q:Rat}(h:Fk f q)(c:Mm 4000 q):Fk (AcA f) (-q):=by
 have b:=Mm.eW h c;have a:=XZ (k:=4000) h.n ae ae<|TH h.n b.1;exact⟨a.1,h.d,by show zg (DA f.1)=_;rw[IY,h.vn,qz],by show zg f.2=_;rw[h.vd,q9]⟩
theorem Mm.neg{k:Nat}{q:Rat}(h:Mm k q):Mm k (-q):=by
 unfold Mm;rw[qz,q9,Jb];exact h
theorem Fk.mul{f g:Ae}{p q:Rat}(e:Fk f p)(c:Fk g q)(sp:Mm 4000 p)(i:Mm 4000 q):Fk (FO f g) (p*q):=by
 have a:=Mm.eW e sp;have b:=Mm.eW c i;have h:=Ka (n:=FU f.1 g.1) (d:=FU f.2 g.2) (Oq a.1 b.1) (Oq a.2 b.2) (by rw[DS];exact zx<|qm e.den_pos c.den_pos);rw[DS,DS, <-Rat.divInt_mul_divInt,e.eqd,c.eqd]at h;exact h
theorem Fk.add{f g:Ae}{p q:Rat}(i:Fk f p)(e:Fk g q)(sp:Mm 4000 p)(s:Mm 4000 q):Fk (B0 f g) (p+q):=by
 have a:=Mm.eW i sp;have b:=Mm.eW e s;have r:=Fm<|G9 i.n a.1;have m:=Fm<|G9 e.n b.1;unfold B0;split
 ·next c=>
  obtain⟨k,j⟩:=c;unfold Db at k j;rw[zd,w5,w5]at k j;have l:(p.den:Int)=1:=by rw[<-i.vd,Bv k.1];exact k.2
  have o:(q.den:Int)=1:=by rw[<-e.vd,Bv j.1];exact j.2
  have t:zt p.num 1=p:=by have:=zo p;rw[l]at this;exact this
  have eq:zt q.num 1=q:=by have:=zo q;rw[o]at this;exact this
  have es:p+q=zt (p.num+q.num) 1:=by
   have h:=yx p.num q.num (d₁:=1) (d₂:=1) af af;rw[t,eq,qn,qn,qn]at h;exact h
  refine⟨U1 r.1 m.1,by show jl (1,BL 1)=true;rw[OG];rfl,?_,?_⟩
  ·show zg (EW f.1 g.1)=_;rw[Yl,i.vn,e.vn,es,qi];simp
  ·show zg (1,BL 1)=_;rw[OG,CP,es,qj];simp
 ·have h:=Ka (n:=EW (FU f.1 g.2)<|FU g.1 f.2) (d:=FU f.2 g.2) (Afy (Oq a.1 b.2) (Oq b.1 a.2)<|by rw[DS,DS];exact iU (LF a.1 b.2)<|LF b.1 a.2) (Oq a.2 b.2) (by rw[DS];exact zx<|qm i.den_pos e.den_pos);rw[Yl,DS,DS,DS, <-yx _ _ (zx i.den_pos) (zx e.den_pos),i.eqd,e.eqd]at h;exact h
theorem Fk.sub{f g:Ae}{p q:Rat}(b:Fk f p)(c:Fk g q)(sp:Mm 4000 p)(a:Mm 4000 q):Fk (Gs f g) (p-q):=by
 rw[Rat.sub_eq_add_neg];exact b.add (c.neg a) sp a.neg
theorem Fk.inv{f:Ae}{p:Rat}(b:Fk f p)(sp:Mm 4000 p)(h0:p≠0):Fk (Wc f) p⁻¹:=by
 have a:=Mm.eW b sp;have c:=Fm<|G9 b.n a.1;have e:=Fm<|G9 b.d a.2;have h:=Ka e.1 c.1 (by rw[b.vn];exact fun h=>h0<|y9.mp h);rw[<-Rat.inv_divInt,b.eqd]at h;exact h
end Go.Pe
namespace Go.Sp
open Go.Lib
theorem Pa{P:Nat->Z->Prop}(b:∀d,d<10->P d [zq<|48+d])(f:∀a d,0<a->d<10->P a (decDigits a)->P (10*a+d) (decDigits a++[zq<|48+d]))(n:Nat):P n (decDigits n):=by
 induction n using Nat.strongRecOn with
 |_ n c=>
  by_cases h:n<10
  ·rw[decDigits_one h];exact b n h
  ·have e:n=10*(n/10)+n % 10:=ae
   have:=f (n/10) (n % 10) ae (Nat.mod_lt _ af) (c (n/10) ae);rw[<-GN _ _ ae (Nat.mod_lt _ af), <-e]at this;exact this
theorem La:∀d:Fin 10,(zq<|48+d.1).toNat=48+d.1:=af
theorem MM{d:Nat}(h:d<10):B7 (zq<|48+d)=true/\Ir (zq<|48+d)=d:=by
 have e:(zq<|48+d).toNat=48+d:=La ⟨d,h⟩;unfold B7 Ir;rw[e];refine⟨?_,by omega⟩;rw[w4 ae,w4 ae];rfl
theorem qM{c:UInt8}(h:B7 c=true):c=zq (48+(Ir c).toNat)/\(Ir c).toNat<10:=by
 obtain⟨b,d⟩:=Dm h;have a:(Ir c).toNat<10:=ae
 refine⟨yi.1 ?_,a⟩;rw[La ⟨(Ir c).toNat,a⟩];show c.toNat=48+(Ir c).toNat;unfold Ir at*;omega
theorem TB(n:Nat):decDigits n≠[]:=Pa (P:=fun _ l=>l≠[]) (fun _ _=>by simp) (fun _ _ _ _ _=>by simp) n
theorem D9(n:Nat):Aq (decDigits n)=true:=by
 refine Pa (P:=fun _ l=>Aq l=true) (fun d h=>?_) (fun a d _ h b=>?_) n
 ·unfold Aq;rw[yj,(MM h).1];rfl
 ·unfold Aq at*;rw[List.all_append,b,yj,(MM h).1];rfl
theorem Ic(n:Nat):AI 0 (decDigits n)=n:=by
 refine Pa (P:=fun n l=>AI 0 l=n) (fun d h=>?_) (fun a d _ h b=>?_) n
 ·show 10*0+Ir (zq<|48+d)=d;rw[(MM h).2];omega
 ·rw[Dd,b];show 10*(a:Int)+Ir (zq<|48+d)=_;rw[(MM h).2];omega
theorem qH(n:Nat)(h0:0<n):(decDigits n).getD 0 0≠48:=by
 refine Pa (P:=fun n l=>0<n->l.getD 0 0≠48) (fun d h h0=>?_) (fun a d g _ i _=>?_) n h0
 ·show zq (48+d)≠48;intro e;have:=La ⟨d,h⟩;have j:=wi zu e;rw[show(zq<|48+d).toNat=48+d from this]at j;have:(48:UInt8).toNat=48:=rfl;omega
 ·have b:=i g;cases f:decDigits a with
  |nil=>exact wh f<|TB a
  |cons c r=>rw[f]at b;exact b
theorem WI(n:Nat):AX (decDigits n)=true:=by
 unfold AX;rw[D9,w4<|TB n];rcases ye n with rfl|h
 ·rw[decDigits_one af];rfl
 ·rw[w4<|qH n h];rfl
theorem GF{s:Z}(h:AX s=true):s≠[]/\Aq s=true/\(s.getD 0 0≠48\/s=[48]):=by
 unfold AX at h;rw[zd,zd,w5,qy,w5,w5]at h;exact⟨h.1.1,h.1.2,h.2⟩
theorem Jk{s:Z}(h:AX s=true)(h0:s≠[48]):0<AI 0 s:=by
 obtain⟨d,a,b⟩:=GF h;cases s with
 |nil=>exact wh rfl d
 |cons c r=>
  have f:(c::r).getD 0 0=c:=rfl;rw[f]at b;have g:c≠48:=by
   rcases b with x|x
   ·exact x
   ·exact wh x h0
  unfold Aq at a;rw[yj,zd]at a;have i:=Dm a.1;have hr:Aq r=true:=a.2;have k:=Bk hr;show 0<AI (10*0+Ir c) r;rw[E9];have hp:(0:Int)<10^r.length:=Int.pow_pos af;have l:c.toNat≠48:=fun x=>g<|yi.1 x
  have e:0<10*0+Ir c:=by show 0<10*0+((c.toNat:Int)-48);have j:0<=((c.toNat:Int)-48):=i.1;omega
  have:=qm e hp;omega
theorem Ry{s:Z}(h:AX s=true):s=decDigits (AI 0 s).toNat:=by
 generalize b:s.length=n;induction n generalizing s with
 |zero=>exact wh (zw.1 b) (GF h).1
 |succ n p=>
  obtain⟨l,d,o⟩:=GF h;obtain⟨t,c,rfl⟩:∃t c,s=t++[c]:=⟨_,_,(List.dropLast_concat_getLast l).symm⟩;unfold Aq at d;rw[List.all_append,zd,yj,zd]at d;obtain⟨h4,h5,_⟩:=d;obtain⟨b1,b2⟩:=qM h5;obtain⟨d1,_⟩:=Dm h5;rw[Dd];show t++[c]=decDigits (10*AI 0 t+Ir c).toNat;by_cases a:t=[]
  ·subst a;show[c]=decDigits (10*0+Ir c).toNat;rw[show(10*0+Ir c).toNat=(Ir c).toNat by omega,decDigits_one b2, <-b1]
  ·have g:(t++[c]).getD 0 0=t.getD 0 0:=by
    cases t with
    |nil=>exact wh rfl a
    |cons x r=>rfl
   have j:t.getD 0 0≠48:=by
    rcases o with x|x
    ·rw[g]at x;exact x
    ·have f:=wi zz x;rw[zi]at f;have q:t.length+1=1:=f;exact wh (zw.1 ae) a
   have i:AX t=true:=by
    unfold AX Aq;rw[w4 a,h4,w4 j];rfl
   have hp:=Jk i (fun k=>j (by rw[k];rfl));have m:=p i (by rw[zi]at b;simpa using b);have e:(10*AI 0 t+Ir c).toNat=10*(AI 0 t).toNat+(Ir c).toNat:=ae
   rw[e,GN _ _ ae b2, <-m, <-b1]
theorem Aco:∀ {a:Z},(∀c∈a,c≠47)->AD a=a/\AV a=[]/\Bw a=false:=by
 intro a h;have b:Bw a=false:=by
  unfold Bw;rw[List.any_eq_false];intro x d;simpa using h x d
 exact⟨((Go.Pe.BY a).2.2 b).1,((Go.Pe.BY a).2.2 b).2,b⟩
theorem xA:∀ {a:Z} (b:Z),(∀c∈a,c≠47)->AD (a++47::b)=a/\AV (a++47::b)=b/\Bw (a++47::b)=true:=by
 intro a b h;have d:Bw (a++47::b)=true:=by
  unfold Bw;rw[List.any_eq_true];exact⟨47,by simp,rfl⟩
 have f:∀ {a:Z},(∀c∈a,c≠47)->AD (a++47::b)=a:=by
  intro a;induction a with
  |nil=>intro _;show AD (47::b)=[];rw[Go.Pe.Et,wd rfl]
  |cons x r g=>
   intro h;show AD (x::(r++47::b))=_;rw[Go.Pe.Et,wc (h x (by simp)),g<|fun c d=>h c<|List.mem_cons_of_mem _ d]
 have e:=f h;refine⟨e,?_,d⟩;rw[((Go.Pe.BY _).2.1 d).2,e];simp
theorem SP{s:Z}(h:Aq s=true):∀c∈s,c≠47:=by
 intro c a e;unfold Aq at h;rw[List.all_eq_true]at h;have:=h c a;rw[e]at this;exact wh this af
theorem Gi{s:Z}(h:Aq s=true):s.getD 0 0≠45:=by
 cases s with
 |nil=>decide
 |cons c r=>
  unfold Aq at h;rw[yj,zd]at h;show c≠45;intro e;rw[e]at h;exact wh h.1 af
def AH(q:Rat):Z:=if q.den=1 then itoa q.num else itoa q.num++47::decDigits q.den
def As(s:Z):Rat:=zt (Be s)<|AR s
theorem DB(n:Int):(∀c∈itoa n,c≠47)/\A6 (itoa n)=decDigits n.natAbs/\preB (itoa n)=decide (n<0)/\BS (itoa n)=n:=by
 unfold itoa;by_cases h:n<0
 ·rw[wd h];refine⟨fun c a=>?_,rfl,(w4 h).symm,?_⟩
  ·rcases List.mem_cons.1 a with rfl|a
   ·decide
   ·exact SP (D9 _) c a
  ·show -AI 0 (decDigits n.natAbs)=n;rw[Ic];omega
 ·rw[wc h];have b:=Gi<|D9 n.toNat;have e:n.toNat=n.natAbs:=ae
  refine⟨SP<|D9 _,?_,?_,?_⟩
  ·unfold A6;rw[wc b,e]
  ·unfold preB;rw[w8 b,w8 h]
  ·unfold BS;rw[wc b,Ic];omega
theorem FL(q:Rat):AD (AH q)=itoa q.num/\AV (AH q)=(if q.den=1 then[]else decDigits q.den)/\Bw (AH q)=decide (q.den≠1):=by
 unfold AH;have h:=(DB q.num).1;by_cases a:q.den=1
 ·rw[wd a,wd a,w8<|not_not_intro a];exact Aco h
 ·rw[wc a,wc a,w4 a];exact xA _ h
theorem Lw(q:Rat):Be (AH q)=q.num/\AR (AH q)=q.den:=by
 obtain⟨b,d,c⟩:=FL q;unfold Be AR;rw[b,d,c];refine⟨(DB q.num).2.2.2,?_⟩;by_cases a:q.den=1
 ·rw[wc (by simpa using a),a];rfl
 ·rw[wd<|w4 a,wc a];unfold BS;rw[wc<|Gi<|D9 _,Ic]
theorem DL(q:Rat):As (AH q)=q:=by
 unfold As;rw[(Lw q).1,(Lw q).2];exact zo q
theorem dL{p q:Rat}(h:AH p=AH q):p=q:=by
 rw[<-DL p,h,DL]
theorem Ty(a:Z):AD (A6 a)=A6 (AD a)/\AV (A6 a)=AV a/\Bw (A6 a)=Bw a/\preB (AD a)=preB a:=by
 unfold A6 preB;cases a with
 |nil=>exact⟨rfl,rfl,rfl,rfl⟩
 |cons c r=>
  have g:(c::r).getD 0 0=c:=rfl;rw[g,Go.Pe.Et];by_cases b:c=45
  ·subst b;have e:AV (45::r)=AV r:=by
    unfold AV;rw[qe];cases r.findIdx? (fun x=>x==47)<;>rfl
   exact⟨rfl,e.symm,rfl,rfl⟩
  ·rw[wc b];by_cases d:c=47
   ·subst d;exact⟨(Go.Pe.Et _ _),rfl,rfl,rfl⟩
   ·rw[wc d];have f:(c::AD r).getD 0 0=c:=rfl;rw[f,wc b];exact⟨by rw[Go.Pe.Et,wc d],rfl,rfl,rfl⟩
theorem YT{a:Z}(h:An a=0):Hd a=true/\(AD<|A6 a).length<=600/\(AV<|A6 a).length<=600/\(Bw (A6 a)=true->gI (wT a) (yR a)=1):=by
 unfold An at h;cases b:Hd a with
 |false=>rw[wd b]at h;exact wh h af
 |true=>
  rw[wc<|by rw[b];decide]at h;split at h
  ·exact wh h af
  ·next c=>
   split at h
   ·exact wh h af
   ·next d=>exact⟨rfl,by omega,by omega,fun k=>ql fun g=>d ⟨k,g⟩⟩
def CZ(k:Nat)(q:Rat):Prop:=q.num.natAbs<10^k/\q.den<10^k
theorem QP{n d:Int}(a:0<d)(h:yz n d=1):(zt n d).num=n/\((zt n d).den:Int)=d:=by
 have b:d.sign=1:=qv a;rw[qi,qj,wc<|zx a,b,Int.one_mul,jm,h];refine⟨jo _,?_⟩;rw[Nat.div_one,Int.natAbs_of_nonneg<|yo a]
theorem Pn{s:Z}(h:Aq s=true){k:Nat}(a:s.length<=k):(AI 0 s).toNat<10^k:=by
 have b:=Bk h;have d:(10:Int)^s.length<=10^k:=AP af a;have c:((10^k:Nat):Int)=(10:Int)^k:=by simp
 omega
theorem Lj(k:Nat)(h:k≠0):(1:Int).toNat<10^k:=Nat.one_lt_pow h af
theorem xP:decDigits (yp 1)=[49]:=by rw[show yp 1=1 from rfl,decDigits_one af];rfl
theorem Nk{s:Z}(h:An s=0):AH (As s)=s/\(As s).num=Be s/\((As s).den:Int)=AR s/\CZ 600 (As s):=by
 obtain⟨q,l1,x,i⟩:=YT h;obtain⟨p1,p2,p3,p4⟩:=Ty s;unfold Hd at q;rw[zd,zd]at q;obtain⟨⟨fa,fm⟩,b⟩:=q;unfold wT yR at i;obtain⟨A,hA⟩:∃A,A=AD (A6 s):=⟨_,rfl⟩;obtain⟨B,hB⟩:∃B,B=AV (A6 s):=⟨_,rfl⟩;rw[<-hA]at fa fm l1 i;rw[<-hB]at b x i;rw[p3]at b i;have v:=(GF fa).2.1;have y:=Ry fa;have v0:=Bk v;have j:Be s=(if preB s=true then -AI 0 A else AI 0 A)/\AD s=(if preB s=true then 45::A else A):=by
  have E:A=A6 (AD s):=by rw[hA,p1]
  unfold Be BS;rw[<-p4];unfold preB;rw[E];unfold A6;by_cases a:(AD s).getD 0 0=45
  ·rw[wd a,wd<|w4 a,wd a,wd<|w4 a];refine⟨rfl,?_⟩;cases D:AD s with
   |nil=>rw[D]at a;exact wh a af
   |cons c r=>
    rw[D]at a;have a:c=45:=a;rw[a];rfl
  ·rw[wc a,wc (by rw[w8 a];decide),wc a,wc<|by rw[w8 a];decide];exact⟨rfl,rfl⟩
 have u:(Be s).natAbs=(AI 0 A).toNat:=by rw[j.1];split<;>omega
 have S:0<AR s/\(AR s).toNat<10^600/\yz (Be s) (AR s)=1/\(Bw s=true->B=decDigits (AR s).toNat/\AR s≠1)/\(Bw s=false->AR s=1):=by
  unfold AR;rw[<-p2, <-hB];cases a:Bw s with
  |false=>
   rw[wc af];exact⟨by decide,Lj 600 af,Int.gcd_one,(fun k=>by cases k),fun _=>rfl⟩
  |true=>
   rw[a]at b;have b:(AX B&&decide (B≠[48])&&decide (B≠[49]))=true:=b;rw[zd,zd,w5,w5]at b;obtain⟨⟨l,G⟩,J⟩:=b;have C:=(GF l).2.1;have hp:=Jk l G;have T:BS B=AI 0 B:=by unfold BS;rw[wc<|Gi C]
   rw[wd rfl,T];refine⟨hp,Pn (k:=600) C x,?_,fun _=>⟨Ry l,?_⟩,(fun k=>by cases k)⟩
   ·have g:=i a;rw[GC]at g;have g:yz (AI 0 A) (AI 0 B)=1:=ae
    rw[j.1];split
    ·rw[Int.neg_gcd];exact g
    ·exact g
   ·intro e;have:=Ry l;rw[e]at this;exact J<|this.trans xP
 obtain⟨N,R,P,K,H⟩:=S;obtain⟨f,o⟩:=QP (n:=Be s) N P;have f:(As s).num=Be s:=f;have o:((As s).den:Int)=AR s:=o;have z:(As s).den=(AR s).toNat:=ae
 refine⟨?_,f,o,?_,?_⟩
 ·have U:itoa (Be s)=AD s:=by
   rw[j.2];unfold itoa;by_cases d:preB s=true
   ·have p:A≠[48]:=by
     have m:preB s=true:=d;rw[m]at fm;simpa using fm
    have:=Jk fa p;rw[j.1,wd d,wd d,wd ae,Int.natAbs_neg];rw[show(AI 0 A).natAbs=(AI 0 A).toNat by omega, <-y]
   ·rw[j.1,wc d,wc d,wc ae, <-y]
  unfold AH;rw[f,z,U];obtain⟨w,O,I⟩:=Go.Pe.BY s;cases a:Bw s with
  |false=>
   rw[H a,wd<|show yp 1=1 from rfl];exact(I a).1
  |true=>
   obtain⟨V,W⟩:=K a;obtain⟨m1,m2⟩:=O a;rw[wc ae, <-V,hB,p2,m2];have F:s.drop (AD s).length=47::s.drop ((AD s).length+1):=by
    have h0:∀t:Z,Bw t=true->t.drop (AD t).length=47::t.drop ((AD t).length+1):=by
     intro t;induction t with
     |nil=>intro h;cases h
     |cons c r L=>
      intro h;rw[Go.Pe.Et];by_cases e:c=47
      ·rw[wd e,e];rfl
      ·rw[wc e];have M:Bw r=true:=by
        unfold Bw at h ⊢;rw[List.any_cons]at h;simpa [e]using h
       exact L M
    exact h0 s a
   rw[<-F];conv=>lhs;rw[w]
   have:=List.take_append_drop (AD s).length s;rw[<-w]at this ⊢;exact this
 ·rw[f,u];exact Pn (k:=600) v l1
 ·rw[z];exact R
def AZ(n:Int):Z:=zr n
def Qy(s:Z)(n:Int):Z:=Lib.repeatL s n.toNat
end Go.Sp
namespace Go.Pe
open Go.Det
def qO:Am:=⟨[i64],fun n=>Sp.Ct n,[.str],fun n=>Sp.AZ n,false⟩
def VN:Am:=⟨[u64,i64],fun i=>decide (0<=i.1)&&decide (i.1<1000000000000000000)&&decide (i.2=10),[.str],fun i=>Sp.AZ i.1,false⟩
def U2:Am:=⟨[.str,i64],fun i=>decide (0<=i.2)&&decide (i.2<=1000)&&decide (i.1.length<=1000),[.str],fun i=>Sp.Qy i.1 i.2,false⟩
def Ab5:Am:=⟨[A3],fun a=>Sp.Bd a,[.str],fun a=>Sp.AZ<|zg a,false⟩
def RT:AL:=X7 [(209,qO),(173,Qq),(210,GZ),(211,VN),(212,U2)]
open Sp
section
open List Int Prod
namespace T170
def T(a:AM):Tr:=tree RT false 9 170<|Ag ([A3]) a
def L1(v3:Bool)(v4:List Int)(a:Nat)(b:List Int):Tr:=re ((T (0,[])).R.L)<|Aw 69 [(3,.dat Sh.bool v3),(4,.dat (Sh.list<|Sh.int jc) v4),(5,.sl 0 1 0 a none),(6,.nil)] [(0,.arr false 217 (Sh.int jc) b)] 1
theorem Aj(a:AM):T a=.ite (!decide (0<length (snd a))) (.ck (Ct<|fst a)<|.leaf (.dat Sh.str<|AZ<|fst a) []) (.ck (jl a)<|L1 (decide (zg a<0)) (BF<|Ah<|zg a) 1<|[1000000000000000000]):=by kernel_rfl
def L2(v3:Bool)(v4:List Int)(a b:Nat)(o1:List Z)(c:List Int):Tr:=re ((stepT RT<|L1 false [] 0 []).L.L.L.L.L.L.L.L.L)<|Aw 69 [(3,.dat Sh.bool v3),(4,.dat (Sh.list<|Sh.int jc) v4),(5,.sl 0 1 0 a none),(6,.sl 1 1 0 b none)] [(1,.arr false 9 Sh.str o1),(0,.arr true 217 (Sh.int jc) c)] 2
def L3(a:Int)(o1:List Int)(b:Nat):Tr:=re ((stepT RT<|L1 false [] 0 []).R.L.L.L)<|Aw 69 [(6,.nil),(10,.ptr 0 0),(11,.dat i64 a)] [(1,.arr false 5 (Sh.int IntKind.u8) o1),(0,je 253 [.ptr 0 0,.sl 1 1 0 b none])] 2
def L4(a:Int):Tr:=re ((stepT RT<|L1 false [] 0 []).R.L.R)<|Aw 69 [(6,.nil),(10,.ptr 0 0),(11,.dat i64 a)] [(0,je 253 [.ptr 0 0,.nil])] 1
def L5(a:Int):Tr:=re ((stepT RT<|L1 false [] 0 []).R.R)<|Aw 69 [(6,.nil),(10,.ptr 0 0),(11,.dat i64 a)] [(0,je 253 [PV.nilp,.nil])] 1
theorem Ak(v3:Bool)(v4:List Int)(a:Nat)(c:List Int):stepT RT (L1 v3 v4 a c)=let d:=BF<|Av v4 % Av (take a c);let b':=BF<|Av v4/Av (take a c);let g:=aa 16;let f:=zk .i64<|0-1;let h:=AZ<|getD d 0 0;let e:=18-(↑(length h):Int);.di ((length v4:Int)>0) (.ck (decide (0+a<=length c)&&true&&TY v4 (take a c))<|.di ((↑(length d):Int)>0) (.cd (0<(↑(length d):Int))<|.ck (decide ((0:Sh.T u64)<=getD d 0 0)&&decide (getD d 0 0<(1000000000000000000:Sh.T u64))&&decide (10=10))<|.di ((↑(length b'):Int)>0) (.ck (decide (0<=zk .i64 e)&&decide (zk .i64 e<=1000)&&decide (1<=1000))<|.cd (length (Qy [(48:UInt8)]<|zk .i64 e)+length h<=4611686018427387904)<|.ck g<|L2 v3 b' a 1 ([Qy [(48:UInt8)] (zk .i64 e)++AZ (getD d 0 0)]) c)<|.ck g<|L2 v3 b' a 1 ([AZ<|getD d 0 0]) c)<|.di ((↑(length b'):Int)>0) (.ck true<|.ck true<|.ck true<|L2 v3 b' a 1 ([Qy [(48:UInt8)] (zk .i64<|18-1)++[(48:UInt8)]]) c)<|.ck true<|L2 v3 b' a 1 ([[(48:UInt8)]]) c) (.ite v3 (.ite true (.ck true<|L3 f (yb (fun b=>(↑(zu b):Int)) [(45:UInt8)]) 1)<|L4 f)<|L5 f):=by kernel_rfl
def L6(c:Nat)(b:Int)(e:List Int)(a:Nat)(d:List Z):Tr:=re ((stepT RT<|L2 false [] 0 0 [] []).R.L.L.L)<|Aw 69 [(6,.sl 0 1 0 c none),(10,.ptr 1 0),(11,.dat i64 b)] [(2,.arr false 5 (Sh.int IntKind.u8) e),(1,je 253 [.ptr 1 0,.sl 2 1 0 a none]),(0,.arr false 9 Sh.str d)] 3
def L7(b:Nat)(a:Int)(c:List Z):Tr:=re ((stepT RT<|L2 false [] 0 0 [] []).R.L.R)<|Aw 69 [(6,.sl 0 1 0 b none),(10,.ptr 1 0),(11,.dat i64 a)] [(1,je 253 [.ptr 1 0,.nil]),(0,.arr false 9 Sh.str c)] 2
def L8(b:Nat)(a:Int)(c:List Z):Tr:=re ((stepT RT<|L2 false [] 0 0 [] []).R.R)<|Aw 69 [(6,.sl 0 1 0 b none),(10,.ptr 1 0),(11,.dat i64 a)] [(1,je 253 [PV.nilp,.nil]),(0,.arr false 9 Sh.str c)] 2
theorem Az(v3:Bool)(v4:List Int)(a c:Nat)(o1:List Z)(d:List Int):stepT RT (L2 v3 v4 a c o1 d)=let e:=BF<|Av v4 % Av (take a d);let b':=BF<|Av v4/Av (take a d);let h:=decide ((3*(c+1)+2000)*16<=562949953421312);let i:=zk .i64<|(↑c:Int)-1;let j:=decide (c=length o1);let g:=Nat.add c 1;let h':=decide (1<=1)&&true&&j&&h;let k:=AZ<|getD e 0 0;let f:=18-(↑(length k):Int);.di ((length v4:Int)>0) (.ck (decide (0+a<=length d)&&true&&TY v4 (take a d))<|.di ((↑(length e):Int)>0) (.cd (0<(↑(length e):Int))<|.ck (decide ((0:Sh.T u64)<=getD e 0 0)&&decide (getD e 0 0<(1000000000000000000:Sh.T u64))&&decide (10=10))<|.di ((↑(length b'):Int)>0) (.ck (decide (0<=zk .i64 f)&&decide (zk .i64 f<=1000)&&decide (1<=1000))<|.cd (length (Qy [(48:UInt8)]<|zk .i64 f)+length k<=4611686018427387904)<|.ck h'<|L2 v3 b' a g (o1++[Qy [(48:UInt8)] (zk .i64 f)++AZ (getD e 0 0)]) d)<|.ck h'<|L2 v3 b' a g (o1++[AZ<|getD e 0 0]) d)<|.di ((↑(length b'):Int)>0) (.ck true<|.ck true<|.ck (j&&h)<|L2 v3 b' a g (o1++[Qy [(48:UInt8)] (zk .i64<|18-1)++[(48:UInt8)]]) d)<|.ck (j&&h)<|L2 v3 b' a g (o1++[[(48:UInt8)]]) d) (.ite v3 (.ite true (.ck true<|L6 c i (yb (fun b=>(↑(zu b):Int)) [(45:UInt8)]) 1 o1)<|L7 c i o1)<|L8 c i o1):=by kernel_rfl
theorem E2(d:Nat)(c:Int)(e:List Int)(a:Nat)(f:List Z):stepT RT (L6 d c e a f)=let g:=getD f (toNat c) [];.di (c>=0) (.ck (decide (0<=c)&&decide (c<(↑d:Int)))<|.cd (toNat c<length f)<|.ck (decide (a=length e)&&decide ((3*(a+length (yb (fun b=>(↑(zu b):Int)) g))+2000)*1<=562949953421312))<|L6 d (zk .i64<|c-1) (e++yb (fun b=>(↑(zu b):Int)) g) (Nat.add a<|length<|yb (fun b=>(↑(zu b):Int)) g) f) (.cd (0<a)<|.ck (decide (0<(↑a:Int))&&decide (toNat (↑a:Int)<=length e)&&decide (toNat (↑a:Int)<=9223372036854775807)&&List.all e fun x=>decide (0<=x)&&decide (x<256))<|.leaf (.dat Sh.str<|yb (fun x=>zq<|toNat x)<|take (toNat (↑a:Int)) e) []):=by kernel_rfl
theorem HH(c:Nat)(a:Int)(d:List Z):stepT RT (L8 c a d)=let e:=getD d (toNat a) [];let b':=zk .i64<|a-1;.cd (a>=0) (.ck (decide (0<=a)&&decide (a<(↑c:Int)))<|.cd (toNat a<length d)<|.di (0<length (yb (fun b=>(↑(zu b):Int)) e)) (.cd ((3*length (yb (fun b=>(↑(zu b):Int)) e)+2000)*1<=562949953421312)<|L6 c b' (yb (fun b=>(↑(zu b):Int)) e) (length<|yb (fun b=>(↑(zu b):Int)) e) d)<|L7 c b' d):=by kernel_rfl
end T170
end
theorem MW{f:FuncId}{sp:Am}{q:List V->H->Option (V×H)}(hp:A4.prim f=none)(g:∃i,A4.fn f=some i)(n:A4.spec f=some q)
  (b:∀(F:Fz) (h:H) (args:List V) (i:(BE sp.ins).T),Gh h->Na F (Ag sp.ins i) args->sp.pre i=true->∃v,q args h=some (v,h)/\PC F (one<|Ag sp.outs<|sp.f i) v):Af A4 f sp:=by
 refine .of0 ⟨hp,g,fun F h args i j d e a c=>?_⟩;obtain⟨v,l,p⟩:=b F h args i e a c;refine⟨[(v,h)],1,fun m r=>?_,fun _=>⟨_,rfl⟩,fun x o=>?_⟩
 ·obtain⟨k,rfl⟩:∃k,m=k+1:=⟨m-1,by omega⟩;rw[Bi];simp only[n,l]
 ·cases yt.1 o;exact⟨yc _,fun _ _=>rfl,d,F,fun _ _ h=>h,fun _ _ h=>.inl h,j,p⟩
theorem AeH:∃cs t fz,(5,O.cells cs t fz)∈GP/\eqU cs Lib.pow10Tab=true:=⟨_,_,_,List.mem_cons_self ..,by kernel_rfl⟩
theorem aG{h:H}(c:Gh h):T0 h=true:=by
 obtain⟨cs,t,fz,a,d⟩:=AeH;have b:=c _ a;unfold T0;rw[b];exact d
theorem zZ:Af A4 209 qO:=by
 refine MW (q:=aA) ag (Bg ag) rfl fun F h args (n:Int) hg a hp=>?_
 have hp:Sp.Ct n=true:=hp;have a:args=[.int .i64 n]:=by
  have:=a (fun _=>none) 0;simp only[Ag,qO,BJ]at this;obtain⟨v,vs,rfl,b,rfl⟩:=this;obtain rfl:=C5 b;rfl
 subst a;refine⟨.str<|zr n,?_,fun ρ N=>Nh _⟩;have:=EN hp;have d:decide (-9223372036854775808<=n)=true:=w4 ae;have c:decide (n<=9223372036854775807)=true:=w4 ae;simp only[aA,aG hg,d,c,Bool.and_self,we]
theorem fG:Af A4 212 U2:=by
 refine MW (q:=UB) ag (Bg ag) rfl fun F h args (i:Z×Int) hg a hp=>?_
 obtain⟨s,n⟩:=i;have hp:(decide (0<=n)&&decide (n<=1000)&&decide (s.length<=1000))=true:=hp;rw[zd,zd,w5,w5,w5]at hp;obtain⟨⟨h0,h1⟩,h2⟩:=hp;obtain⟨c,rfl⟩:=z8 h0;have a:args=[.str s,.int .i64 (c:Int)]:=by
  have:=a (fun _=>none) 0;simp only[Ag,U2,BJ]at this;obtain⟨v,vs,rfl,d,w,ws,rfl,f,rfl⟩:=this;obtain rfl:=FX d;obtain rfl:=C5 f;rfl
 subst a;refine⟨.str<|Sp.Qy s (c:Int),?_,fun ρ N=>Nh _⟩;have e:jt c 9223372036854775807=true:=yy ae;have b:jt (EY s*c) 140737488355328=true:=yy (by
  rw[Dw];have:s.length*c<=1000*1000:=Nat.mul_le_mul h2 ae;omega)
 show(bif jt c 9223372036854775807&&jt (EY s*c) 140737488355328 then some (V.str<|Lib.repeatL s c,h)else none)=_;rw[e,b];rfl
theorem kB:Af A4 211 VN:=by
 refine MW (q:=fmtQ) ag (Bg ag) rfl fun F h args (i:Int×Int) hg a hp=>?_
 obtain⟨u,b⟩:=i;have hp:(decide (0<=u)&&decide (u<1000000000000000000)&&decide (b=10))=true:=hp;rw[zd,zd,w5,w5,w5]at hp;obtain⟨⟨h0,h1⟩,rfl⟩:=hp;obtain⟨c,rfl⟩:=z8 h0;have a:args=[.int .u64 (c:Int),.int .i64 10]:=by
  have:=a (fun _=>none) 0;simp only[Ag,VN,BJ]at this;obtain⟨v,vs,rfl,d,w,ws,rfl,g,rfl⟩:=this;obtain rfl:=C5 d;obtain rfl:=C5 g;rfl
 subst a;refine⟨.str<|Sp.AZ (c:Int),?_,fun ρ N=>Nh _⟩;have f:jt c 18446744073709551615=true:=yy ae;have e:Sp.AZ (c:Int)=ze c:=Lib.itoa_nonneg _;rw[e];show(bif T0 h&&(jt c 18446744073709551615&&Nat.beq 10 10)then some (V.str<|ze c,h)else none)=_;rw[aG hg,f];rfl
namespace T170
abbrev uF(s:Z):List Int:=yb (fun b=>(↑(zu b):Int)) s
theorem Vs:∀s:Z,yb (fun x:Int=>zq<|yp x) (uF s)=s
 |[]=>rfl
 |b::s=>by
  have:=Vs s;simp only[uF,List.map_cons]at this ⊢;rw[this];simp
theorem aX:∀s:Z,(List.all (uF s) fun x=>decide ((0:Int)<=x)&&decide (x<(256:Int)))=true
 |[]=>rfl
 |b::s=>by
  have a:=aX s;have c:=b.toNat_lt;simp only[uF,List.map_cons,yj]at a ⊢;rw[a,Bool.and_true,zd,w5,w5];omega
theorem zD(a b:Z):uF a++uF b=uF (a++b):=by simp[uF]
theorem Fs(c:List Z)(T:Z)(q:T.length<=1000000)(o:c.length<=1000000)(j:∀ob,Q (.dat .str T) ob):∀(i:Nat) (a:Z) (b:Int) (n:Nat),i<=c.length->b=(i:Int)-1->n=a.length->0<a.length->a++(c.take i).reverse.flatten=T->
  Ends RT (L6 c.length b (uF a) n c) Q
 |0,a,b,n,_,l,g,h0,d=>by
  have d:a=T:=by simpa using d
  subst d g;refine zl (E2 ..) (yg (w8 ae)<|zc (w4 h0)<|zc (Ab (Ab (Ab (w4 ae)<|w4<|by simp)<|w4<|by simp;omega)<|aX a)<|zf ?_);have e:yb (fun x:Int=>zq<|yp x) (jf (yp (a.length:Int))<|uF a)=a:=by
   rw[zn,yu (by simp),Vs]
  rw[e];exact j _
 |i+1,a,b,n,k,l,g,h0,d=>by
  have m:List.getD c (yp b) []=c[i]:=by
   rw[show yp b=i from by omega];simp[show i<c.length from k]
  have h:a++c[i]++(c.take i).reverse.flatten=T:=by
   have p:c.take (i+1)=c.take i++[c[i]]:=yv k;rw[<-d,p,List.reverse_append,qw,List.singleton_append,List.flatten_cons,yw]
  have f:=wi zz h;simp only[zi]at f;refine zl (E2 ..) (zc (w4 ae)<|zc (ad ae ae)<|zc (w4 ae) ?_);rw[m];refine zc (Ab (w4<|by simp[g])<|w4<|by rw[yr];omega) ?_;rw[zD,wr (b-1) ae ae];exact Fs c T q o j i (a++c[i]) (b-1) _ ae ae (by rw[zi,yr,g];rfl) (by rw[zi];omega) h
theorem F9(a:List Z)(T:Z)(n:T.length<=1000000)(l:a.length<=1000000)(m:∀ob,Q (.dat .str T) ob)(i:Nat)(h:i+1=a.length)(b:Int)(o:b=(i:Int))(c:0<(a[i]'ae).length)(j:a.reverse.flatten=T):
  Ends RT (L8 a.length b a) Q:=by
 have d:i<a.length:=ae
 have k:List.getD a (yp b) []=a[i]:=by
  rw[show yp b=i from by omega];simp[d]
 have f:a[i]++(a.take i).reverse.flatten=T:=by
  have g:a.take (i+1)=a.take i++[a[i]]:=yv d;rw[h,qo]at g;rw[<-j];conv=>rhs;rw[g]
  rw[List.reverse_append,qw,List.singleton_append,List.flatten_cons]
 have e:=wi zz f;simp only[zi]at e;refine zl (HH ..) (zc (w4 ae)<|zc (ad ae ae)<|zc (w4 ae) ?_);rw[k];refine zc (w4<|by rw[yr];exact c) (zc (w4<|by rw[yr];omega) ?_);rw[wr (b-1) ae ae];exact Fs a T n l m i a[i] (b-1) _ ae ae (by rw[yr]) c f
end T170
theorem WA{r:Int}(h0:0<r)(c:r<18446744073709551616):BF r=[r]:=by
 have d:AB Ap [r]:=by
  intro x a;rw[yt]at a;subst a;exact⟨by omega,c⟩
 have f:Sp.nz [r]:=by
  unfold Sp.nz;simp;omega
 have:=Jf (b:=Ap) af d f;have e:jz Ap [r]=r:=by simp[jz]
 rw[e]at this;exact this.symm
theorem LD:BF 0=[]:=by
 unfold BF;rfl
theorem Rn:Av [1000000000000000000]=1000000000000000000:=by simp[Av,jz]
theorem gJ(n:Nat):Qy [48] (n:Int)=List.replicate n 48:=by
 unfold Qy;rw[zn];induction n with
 |zero=>rfl
 |succ n a=>rw[Lib.repeatL,a];rfl
theorem Vc(V:Nat):Av (BF (V:Int))=(V:Int):=Dj (b:=Ap) af ae
theorem kN{V:Nat}(a:(V:Int)<(Ap:Int)^9000):TY (BF (V:Int)) [1000000000000000000]=true:=by
 obtain⟨n1,c,d⟩:=Dn (n:=(V:Int)) ae a ae;have b:=Lr (n:=(V:Int)) ae a;unfold TY;refine Ab (Ab (Ab (Ab n1 ?_)<|w4 b)<|w4 af) (w4<|by rw[Rn];decide);decide
theorem VF(V:Nat):BF (Av (BF (V:Int))/Av (jf 1 [1000000000000000000]))=BF ((V/10^18:Nat):Int):=by
 rw[Vc,show jf 1 [(1000000000000000000:Int)]=[1000000000000000000]from rfl,Rn];congr 1
theorem VE(V:Nat):BF (Av (BF (V:Int)) % Av (jf 1 [1000000000000000000]))=BF ((V % 10^18:Nat):Int):=by
 rw[Vc,show jf 1 [(1000000000000000000:Int)]=[1000000000000000000]from rfl,Rn];congr 1
theorem JY{V:Nat}(h:0<V):0<(BF (V:Int)).length:=by
 rcases ye (BF (V:Int)).length with e|e
 ·have a:=Vc V;rw[zw.1 e]at a;have b:Av []=0:=rfl;rw[b]at a;omega
 ·exact e
theorem ON:∀(k u:Nat),u<10^(k+1)->Lib.nDigits u<=k+1
 |0,u,h=>by rw[Lib.nDigits_small ae];omega
 |k+1,u,h=>by
  by_cases c:u<10
  ·rw[Lib.nDigits_small c];omega
  ·rw[Lib.nDigits_big c];have:u/10<10^(k+1):=by rw[qd]at h;omega
   have:=ON k (u/10) this;omega
theorem UT{r:Nat}(h:r<10^18):(ze r).length<=18:=by
 rw[z7];exact ON 17 r h
theorem Ny(r:Nat):AZ (r:Int)=ze r:=Lib.itoa_nonneg r
theorem Ts(r:Nat)(h:r<10^18):Qy [48] ((18:Int)-((ze r).length:Int))++ze r=GS 18 r:=by
 have:=UT h;rw[show(18:Int)-((ze r).length:Int)=((18-(ze r).length:Nat):Int)from by omega,gJ,z7];rfl
structure Small(V:Nat):Prop where
 h:(V:Int)<(Ap:Int)^9000
theorem Small.le{a b:Nat}(h:Small b)(c:a<=b):Small a:=⟨qh (Int.ofNat_le.mpr c) h.h⟩
theorem Small.div{V:Nat}(h:Small V):TY (BF (V:Int)) [1000000000000000000]=true:=kN h.h
namespace T170
def Exit(neg:Bool)(G:List Z)(Q:PV->Ob->Prop):Prop:=Ends RT (.ite neg (.ite true (.ite true (L6 G.length (zk IntKind.i64<|(G.length:Int)-1) (yb (fun b=>(↑(zu b):Int)) [(45:UInt8)]) 1 G) .fail)<|L7 G.length (zk IntKind.i64<|(G.length:Int)-1) G)<|L8 G.length (zk IntKind.i64<|(G.length:Int)-1) G) Q
theorem A5(neg:Bool)(G:List Z)(hG:G.length<=1000000)(a:Exit neg G Q):∀(f V:Nat) (o1:List Z),V<f->Small V->o1++(if V=0 then[]else CF f V)=G->Ends RT (L2 neg (BF (V:Int)) 1 o1.length o1 [1000000000000000000]) Q
 |0,V,o1,h,_,_=>by omega
 |f+1,V,o1,h,l,e=>by
  rcases ye V with h0|h0
  ·subst h0;have e:o1=G:=by simpa using e
   subst e;refine zl (Az ..) (yg (by rw[show((0:Nat):Int)=0 from rfl,LD];rfl) ?_);exact a
  have d:V % 10^18<10^18:=Nat.mod_lt _ af;rw[wc ae]at e;have k:∀s,s=(if V/10^18=0 then ze (V % 10^18)else GS 18<|V % 10^18)->(o1++[s])++(if V/10^18=0 then[]else CF f<|V/10^18)=G:=by
   rintro s rfl;rw[<-e,yw];congr 1;have n:CF (f+1) V=if V<10^18 then[ze V]else GS 18 (V % 10^18)::CF f (V/10^18):=rfl
   rw[n];by_cases c:V<10^18
   ·rw[wd c,wd ae,wd ae,Nat.mod_eq_of_lt c];rfl
   ·rw[wc c,wc ae,wc ae];rfl
  have o:o1.length+1<=1000000:=by
   have:=wi zz<|k _ rfl;simp only[zi,List.length_singleton]at this;omega
  have next:∀s,s=(if V/10^18=0 then ze (V % 10^18)else GS 18<|V % 10^18)->Ends RT (L2 neg (BF ((V/10^18:Nat):Int)) 1 (Nat.add o1.length 1) (o1++[s]) [1000000000000000000]) Q:=by
   intro s p;have:=A5 neg G hG a f (V/10^18) (o1++[s]) ae (l.le<|Nat.div_le_self _ _)<|k s p;rw[zi]at this;exact this
  refine zl (Az ..) (zc (w4 (by have:=JY h0;omega))<|zc (Ab rfl l.div) ?_);rw[VF,VE];rcases ye (V % 10^18)with j|j
  ·have q0:V/10^18≠0:=ae
   rw[j,show((0:Nat):Int)=0 from rfl,LD];refine yg rfl (zc (w4 (by have:=JY (V:=V/10^18) ae;omega))<|zc rfl (zc rfl (zc (Ab (w4 rfl)<|w4 ae)<|next _ ?_)));have hp:=Ts 0 af;rw[ym ae]at hp;rw[wc q0,j, <-hp];rfl
  ·rw[WA (r:=((V % 10^18:Nat):Int)) ae ae];have i:List.getD [((V % 10^18:Nat):Int)] 0 0=((V % 10^18:Nat):Int):=rfl;rw[i,Ny];have q:=UT d;have g:((V % 10^18:Nat):Int)<1000000000000000000:=ae
   have m:0<(ze<|V % 10^18).length:=by
    rw[z7,Lib.nDigits];split<;>omega
   refine zc rfl (zc rfl (zc (Ab (Ab (w4<|Int.natCast_nonneg _)<|w4 g) rfl) ?_));rw[wr _ ae ae];by_cases q0:V/10^18=0
   ·rw[q0];refine yg (by rw[show((0:Nat):Int)=0 from rfl,LD];rfl) (zc (Ab (Ab rfl (w4 rfl))<|w4 ae) ?_);have:=next _ rfl;rw[wd q0,q0]at this;exact this
   ·have b:=Ts _ d;refine zc (w4 (by have:=JY (V:=V/10^18) ae;omega)) (zc (Ab (ad ae ae) rfl)<|zc (w4 ?_) (zc (Ab (Ab rfl (w4 rfl))<|w4 ae)<|next _ ?_))
    ·rw[<-zi,b];unfold GS;rw[zi,List.length_replicate];omega
    ·rw[wc q0];exact b
end T170
end Go.Pe
namespace Go.Sp
theorem Gn{n d:Int}(a:d≠0):(zt n d).num.natAbs<=n.natAbs/\(zt n d).den<=d.natAbs:=by
 rw[qi,qj,wc a];refine⟨?_,Nat.div_le_self _ _⟩;refine qt (yq _ _) ?_;rw[yn,Int.natAbs_sign_of_ne_zero a,Nat.one_mul];exact yc _
theorem Ii{n d:Int}{k:Nat}(a:d≠0)(b:n.natAbs<10^k)(c:d.natAbs<10^k):CZ k (zt n d):=
 ⟨yh (Gn a).1 b,yh (Gn a).2 c⟩
theorem CZ.mono{j k:Nat}{q:Rat}(h:CZ j q)(a:j<=k):CZ k q:=
 ⟨qk h.1 (y8 af a),qk h.2<|y8 af a⟩
theorem D5{a b i j:Nat}(c:a<10^i)(d:b<10^j):a*b<10^(i+j):=by
 rw[Nat.pow_add];exact yh (Nat.mul_le_mul_left _<|Nat.le_of_lt d) ((Nat.mul_lt_mul_right<|Nat.pow_pos af).2 c)
theorem Jl(q:Rat):(q.den:Int)≠0:=by have:=q.den_pos;omega
theorem CZ.mul{p q:Rat}{i j:Nat}(hp:CZ i p)(a:CZ j q):CZ (i+j) (p*q):=by
 have h:=Rat.divInt_mul_divInt p.num q.num (d₁:=p.den) (d₂:=q.den);rw[zo,zo]at h;rw[h];refine Ii ?_ ?_ ?_
 ·exact Int.mul_ne_zero (Jl p)<|Jl q
 ·rw[yn];exact D5 hp.1 a.1
 ·rw[yn,zj,zj];exact D5 hp.2 a.2
theorem CZ.add{p q:Rat}{i j:Nat}(hp:CZ i p)(a:CZ j q):CZ (i+j+1) (p+q):=by
 have h:=yx p.num q.num (Jl p)<|Jl q;rw[zo,zo]at h;rw[h];have a1:=D5 hp.1 a.2;have a2:=D5 a.1 hp.2;have a3:=D5 hp.2 a.2;rw[Nat.add_comm]at a2;refine Ii (Int.mul_ne_zero (Jl p)<|Jl q) ?_ ?_
 ·refine yh (Int.natAbs_add_le _ _) ?_;rw[yn,yn,zj,zj,qd];omega
 ·rw[yn,zj,zj,qd];omega
theorem CZ.neg{q:Rat}{k:Nat}(h:CZ k q):CZ k (-q):=by
 unfold CZ at*;rw[qz,q9,Int.natAbs_neg];exact h
theorem CZ.sub{p q:Rat}{i j:Nat}(hp:CZ i p)(a:CZ j q):CZ (i+j+1) (p-q):=by
 rw[Rat.sub_eq_add_neg];exact hp.add a.neg
theorem CZ.inv{q:Rat}{k:Nat}(h:CZ k q)(h0:q≠0):CZ k q⁻¹:=by
 have e:=Rat.inv_divInt q.num q.den;rw[zo]at e;rw[e];exact Ii (fun x=>h0<|y9.mp x) (by rw[zj];exact h.2) h.1
theorem CZ.div{p q:Rat}{i j:Nat}(hp:CZ i p)(a:CZ j q)(h0:q≠0):CZ (i+j) (p/q):=by
 rw[Rat.div_def];exact hp.mul<|a.inv h0
def NU(n:Int):Bool:=decide (600<(ze n.natAbs).length)
def Kx(q:Rat):Bool:=NU q.num||NU q.den
theorem Eo{u k:Nat}(h:u<10^k)(a:1<=k):(ze u).length<=k:=by
 rw[z7];obtain⟨j,rfl⟩:∃j,k=j+1:=⟨k-1,by omega⟩;exact Go.Pe.ON j u h
theorem Cs(u:Nat){k:Nat}(h:(ze u).length<=k):u<10^k:=by
 rw[z7]at h;exact qk (Lib.lt_pow_nDigits u) (y8 af h)
theorem YN{q:Rat}:Kx q=false↔CZ 600 q:=by
 unfold Kx NU CZ;rw[Bool.or_eq_false_iff,w9,w9];refine⟨fun h=>⟨Cs (k:=600) _ ae,?_⟩,fun h=>⟨?_,?_⟩⟩
 ·have:=Cs (q.den:Int).natAbs (k:=600) ae;rw[zj]at this;exact this
 ·have:=Eo h.1 af;omega
 ·have:=Eo h.2 af;rw[zj];omega
theorem PD{q:Rat}{k:Nat}(h:CZ k q)(a:1<=k):(AH q).length<=2*k+2:=by
 have b:=Eo h.1 a;have d:=Eo h.2 a;have c:(zr q.num).length<=k+1:=by
  unfold zr;split
  ·rw[zp];omega
  ·rw[show q.num.toNat=q.num.natAbs by omega];omega
 unfold AH;split
 ·omega
 ·rw[zi,zp];omega
def A2(s:Z):Bool:=decide (AH (As s)=s)&&decide (s.length<=4000)
theorem Gc{s:Z}(h:A2 s=true):AH (As s)=s/\s.length<=4000:=by
 unfold A2 at h;rwa [zd,w5,w5]at h
theorem Ss{q:Rat}{k:Nat}(h:CZ k q)(a:k<=1999):A2 (AH q)=true:=by
 have b:=PD (h.mono a) af;unfold A2;rw[DL,w4 rfl,w4 ae];rfl
theorem C0{s:Z}(h:An s=0):A2 s=true/\CZ 600 (As s):=by
 obtain⟨b,_,_,a⟩:=Nk h;exact⟨by rw[<-b];exact Ss a af,a⟩
theorem TD{s:Z}(h:A2 s=true):CZ 4000 (As s):=by
 obtain⟨d,f⟩:=Gc h;have e:(AH<|As s).length<=4000:=by rw[d];exact f
 generalize As s=q at*;have a:=Cs q.num.natAbs<|yc _;have b:=Cs q.den<|yc _;have g:(ze q.num.natAbs).length<=(zr q.num).length:=by
  unfold zr;split
  ·rw[zp];omega
  ·rw[show q.num.toNat=q.num.natAbs by omega];exact yc _
 unfold AH at e;split at e
 ·next c=>exact⟨Cs (k:=4000) _ ae,by rw[c];exact Lj 4000 af⟩
 ·rw[zi,zp]at e;exact⟨Cs (k:=4000) _ ae,Cs (k:=4000) _ ae⟩
theorem Yx{q:Rat}:An (AH q)=if Kx q=true then 4 else 0:=by
 obtain⟨g,j,p⟩:=FL q;obtain⟨p1,p2,p3,p4⟩:=Ty<|AH q;obtain⟨i1,i2,i3,i4⟩:=DB q.num;have c:AD (A6<|AH q)=ze q.num.natAbs:=by rw[p1,g,i2]
 have e:AV (A6<|AH q)=if q.den=1 then[]else ze q.den:=by rw[p2,j]
 have i:Bw (A6<|AH q)=decide (q.den≠1):=by rw[p3,p]
 have l:preB (AH q)=decide (q.num<0):=by rw[<-p4,g,i3]
 have a:∀n:Nat,ze n=[48]->n=0:=fun n h=>by
  have:=Ic n;rw[h]at this;have:(0:Int)=n:=this;omega
 have b:∀n:Nat,ze n=[49]->n=1:=fun n h=>by
  have:=Ic n;rw[h]at this;have:(1:Int)=n:=this;omega
 have r:=q.den_pos;have o:Hd (AH q)=true:=by
  unfold Hd;rw[c,e,i,l,WI,zy,zd];refine⟨?_,?_⟩
  ·by_cases h:q.num<0
   ·have z:ze q.num.natAbs≠[48]:=fun k=>by have:=a _ k;omega
    rw[w4 h,w4 z];rfl
   ·rw[w8 h];rfl
  ·by_cases h:q.den=1
   ·rw[w8<|not_not_intro h];rfl
   ·have z:ze q.den≠[48]:=fun k=>by have:=a _ k;omega
    have y:ze q.den≠[49]:=fun k=>h<|b _ k
    rw[w4 h,wc h,WI,w4 z,w4 y];rfl
 unfold An;rw[wc (by rw[o];decide),c,e,i];have f:Kx q=true↔600<(ze q.num.natAbs).length\/600<(if q.den=1 then([]:Z)else ze q.den).length:=by
  unfold Kx NU;rw[qy,w5,w5,zj];by_cases h:q.den=1
  ·rw[wd h,h,ym<|show 1<10 by decide];simp
  ·rw[wc h]
 by_cases h:Kx q=true
 ·rw[wd<|f.1 h,wd h]
 ·rw[wc<|fun k=>h<|f.2 k,wc h];refine wc fun k=>?_
  obtain⟨d,m⟩:=k;have d:q.den≠1:=w6 d;apply m;unfold wT yR;rw[c,e,wc d,Ic,Ic,GC];have hr:=q.reduced;have:yz ((q.num.natAbs:Nat):Int) (q.den:Int)=1:=hr;rw[this];rfl
theorem Np(q:Rat):F4 (AH q)=Og q.num:=by
 have h0:AH q=[48]↔q=0:=by
  have:AH (0:Rat)=[48]:=by
   unfold AH;rw[wd<|show Rat.den 0=1 from rfl];show zr 0=[48];unfold zr;rw[wc af,show(0:Int).toNat=0 from rfl,ym af];rfl
  rw[<-this];exact⟨dL,fun h=>by rw[h]⟩
 unfold F4 Og;by_cases a:q=0
 ·rw[wd<|h0.2 a,a];rfl
 ·rw[wc<|fun h=>a<|h0.1 h];have e:q.num≠0:=fun h=>a<|y9.mp h
  have d:(AH q).getD 0 0=(zr q.num).getD 0 0:=by
   unfold AH;split
   ·rfl
   ·have:zr q.num≠[]:=by unfold zr;split;exact List.cons_ne_nil _ _;exact TB _
    cases b:zr q.num with
    |nil=>exact wh b this
    |cons c r=>rfl
  rw[d];unfold zr;by_cases h:q.num<0
  ·rw[wd h,wd h];rfl
  ·rw[wc h,wc h,wc<|Gi<|D9 _,wd ae]
theorem V2(n:Int)(h:n≠0):zr (-n)=if n<0 then(zr n).drop 1 else 45::zr n:=by
 unfold zr;by_cases c:n<0
 ·rw[wc ae,wd c,wd c,show(-n).toNat=n.natAbs by omega];rfl
 ·rw[wd ae,wc c,wc c,show(-n).natAbs=n.toNat by omega]
theorem tC(q:Rat):MS (AH q)=AH (-q):=by
 have a:=Np q;unfold F4 at a;unfold MS;by_cases h0:AH q=[48]
 ·rw[wd h0]at a ⊢;have:q.num=0:=by
   unfold Og at a;split at a
   ·exact wh a af
   ·split at a
    ·exact wh a af
    ·omega
  have:q=0:=y9.mp this;rw[this];rfl
 ·rw[wc h0]at a ⊢;have b:q.num≠0:=by
   intro h;rw[h]at a;split at a<;>exact wh a af
  have e:AH (-q)=if q.num<0 then(AH q).drop 1 else 45::AH q:=by
   unfold AH;rw[qz,q9,V2 _ b];by_cases c:q.num<0
   ·rw[wd c,wd c];have:zr q.num=45::ze q.num.natAbs:=by unfold zr;rw[wd c]
    rw[this];split<;>rfl
   ·rw[wc c,wc c];split<;>rfl
  rw[e];unfold Og at a;by_cases c:q.num<0
  ·rw[wd c]at a ⊢;split at a
   ·next k=>rw[wd k]
   ·exact wh a af
  ·rw[wc c,wd<|show q.num>0 by omega]at a;rw[wc c];split at a
   ·exact wh a af
   ·next k=>rw[wc k]
open Go.Lib
theorem MV:∀(f n l:Nat) (a:Z),l<=a.length->n<10^f->Ik f n l a=if n=0 then a else decDigits n++a
 |0,n,l,a,_,b=>by rw[Nat.pow_zero]at b;rw[wd ae];rfl
 |f+1,n,l,a,d,b=>by
  rw[qd]at b;unfold Ik;by_cases h:n=0
  ·rw[wd ⟨h,d⟩,wd h]
  ·rw[wc<|fun k=>h k.1,wc h,MV f (n/10) l _ (by rw[zp];omega) ae];by_cases c:n/10=0
   ·rw[wd c,decDigits_one ae,show n % 10=n by omega];rfl
   ·have e:=GN (n/10) (n % 10) ae ae;rw[show 10*(n/10)+n % 10=n by omega]at e;rw[wc c,e,yw];rfl
theorem mT{d:Nat}(h:d<10):GS 1 d=[zq<|48+d]:=by
 unfold GS;rw[nDigits_small h,decDigits_one h];rfl
theorem WN:∀(k f n l:Nat) (a:Z),a.length+(k+1)=l->n<10^(k+1)->k+1<=f->Ik f n l a=GS (k+1) n++a
 |k,0,n,l,a,_,_,h=>by omega
 |0,f+1,n,l,a,c,b,_=>by
  unfold Ik;rw[wc ae,mT ae,MV f (n/10) l _ (by rw[zp];omega) (by rw[show n/10=0 by omega];exact Nat.pow_pos af),wd ae,show n % 10=n by omega];rfl
 |k+1,f+1,n,l,a,c,b,d=>by
  rw[qd]at b;have e:=SG (k+1) (n/10) (n % 10) ae ae;rw[show 10*(n/10)+n % 10=n by omega]at e;unfold Ik;rw[wc ae,WN k f (n/10) l _ (by rw[zp];omega) ae ae,e,yw];rfl
theorem Rj{n:Int}(h0:0<=n)(a:n<9223372036854775808):IP n 1=decDigits n.toNat:=by
 show Ik 64 n.toNat 1 []=_;unfold Ik;rw[wc<|by simp];rw[MV 63 (n.toNat/10) 1 _ (by simp) ae];by_cases h:n.toNat<10
 ·rw[wd ae,decDigits_one h,show n.toNat % 10=n.toNat by omega]
 ·have e:=GN (n.toNat/10) (n.toNat % 10) ae ae;rw[show 10*(n.toNat/10)+n.toNat % 10=n.toNat by omega]at e;rw[wc ae,e]
theorem eI{n:Int}(h0:0<=n)(a:n<1000000000):IP n 9=GS 9 n.toNat:=by
 show Ik 64 n.toNat 9 []=_;rw[WN 8 64 n.toNat 9 [] rfl ae af,List.append_nil]
def CT(n d:Int):Z:=AH<|zt n d
theorem fH(n:Int):itoa n=(if n<0 then[45]else[])++decDigits n.natAbs:=by
 unfold itoa;split
 ·rfl
 ·rw[show n.toNat=n.natAbs by omega];rfl
def vR(a:Bool×List Int):Int:=if a.1=true then -Ao a.2 else Ao a.2
def CD(a:Bool×List Int):Bool:=Ba a.2&&decide (a.2.length<=3000)&&(!a.1||decide (a.2≠[]))
def II(l:List Int)(i:Int):Int:=l.getD i.toNat 0
def mZ(a b:List Int):Bool:=Ba a&&Ba b&&decide (a.length<=9000)&&decide (b.length<=9000)
def Ip(a b:List Int):List Int:=BW<|Ao a+Ao b
def I2(a b:List Int):List Int:=BW<|Ao a-Ao b
def NT(a b:Bool×List Int):Bool:=rN<|vR a+vR b
def Om(a b:Bool×List Int):List Int:=rW<|vR a+vR b
def Iu(a b:Bool×List Int):Bool:=rN<|vR a*vR b
def It(a b:Bool×List Int):List Int:=rW<|vR a*vR b
def TS(a:Bool×List Int):Bool:=rN<| -vR a
def Vd(a:Bool×List Int):List Int:=rW<| -vR a
def JQ(a b:Bool×List Int):Bool:=rN<|vR a/vR b
def JC(a b:Bool×List Int):List Int:=rW<|vR a/vR b
def F7(a:Bool×List Int):Z:=AZ<|vR a
def IJ(n d:Bool×List Int):Z:=CT (vR n)<|vR d
def qV(a:Z):Int:=if Ei a=true then Jj a else 0
def VS(a:Z):Int:=if Ei a=true then Tf a else 0
def B5(a b:Z):Z:=AH<|As a+As b
def Hl(a b:Z):Z:=AH<|As a-As b
def EH(a b:Z):Z:=AH<|As a*As b
def RL(a:Z):Z:=AH (As a)⁻¹
def FD(a b:Z):Z:=AH<|As a/As b
def EI(a b:Z):Int:=if As a<As b then -1 else if As b<As a then 1 else 0
def GA(a:Z):Z:=AZ (As a).floor
def K2(a:Z):Bool:= !Bw a
def FT(a:Z):Int:=if 600<(A6<|AD a).length\/600<(QX a).length then 4 else 0
def Di(a:Z):Bool:=A2 a&&decide (a.length<=3000)
def VZ(a:Z):Bool:=Di a&&decide (As a≠0)
end Go.Sp
namespace Go.Pe
open Sp
open Go.Det
def X9:Am:=⟨[li,i64],fun i=>decide (0<=(i.2:Int)),[i64],fun i=>II i.1 i.2,false⟩
def Yo:Am:=⟨[li,li],fun i=>mZ i.1 i.2,[li],fun i=>Ip i.1 i.2,false⟩
def Zi:Am:=⟨[li,li],fun i=>mZ i.1 i.2&&decide (Ao i.2<=Ao i.1),[li],fun i=>I2 i.1 i.2,false⟩
def jQ:Am:=⟨[Ia,Ia],fun i=>CD i.1&&CD i.2,[Ia],fun i=>(NT i.1 i.2,Om i.1 i.2),false⟩
def cP:Am:=⟨[Ia,Ia],fun i=>CD i.1&&CD i.2,[Ia],fun i=>(Iu i.1 i.2,It i.1 i.2),false⟩
def ZO:Am:=⟨[Ia],fun a=>CD a,[Ia],fun a=>(TS a,Vd a),false⟩
def ZG:Am:=⟨[Ia,Ia],fun i=>CD i.1&&CD i.2&&decide (0<Sp.vR i.2),[Ia],fun i=>(JQ i.1 i.2,JC i.1 i.2),false⟩
def Qn:Am:=⟨[Ia],fun a=>CD a,[.str],fun a=>F7 a,false⟩
def Nx:Am:=⟨[Ia,Ia],fun i=>CD i.1&&CD i.2&&decide (Sp.vR i.2≠0),[.str],fun i=>IJ i.1 i.2,false⟩
def ZC:Am:=⟨[i64,i64],fun i=>Ct i.1&&Ct i.2&&decide ((i.2:Int)≠0),[.str],fun i=>CT i.1 i.2,false⟩
def OE:Am:=⟨[.str],fun s=>A2 s,[i64,i64,.bool],fun s=>(qV s,VS s,Ei s),false⟩
def JD:Am:=⟨[.str,.str],fun i=>A2 i.1&&A2 i.2,[.str],fun i=>B5 i.1 i.2,false⟩
def cI:Am:=⟨[.str,.str],fun i=>A2 i.1&&Di i.2,[.str],fun i=>Hl i.1 i.2,false⟩
def Od:Am:=⟨[.str,.str],fun i=>A2 i.1&&A2 i.2,[.str],fun i=>EH i.1 i.2,false⟩
def Aa2:Am:=⟨[.str],fun s=>VZ s,[.str],fun s=>RL s,false⟩
def ZV:Am:=⟨[.str,.str],fun i=>A2 i.1&&VZ i.2,[.str],fun i=>FD i.1 i.2,false⟩
def PQ:Am:=⟨[.str,.str],fun i=>A2 i.1&&Di i.2,[i64],fun i=>EI i.1 i.2,false⟩
def UG:Am:=⟨[.str],fun s=>A2 s,[.str],fun s=>GA s,false⟩
def U4:Am:=⟨[.str],fun s=>decide (s.length<=1000000),[.bool],fun s=>K2 s,false⟩
def TE:Am:=⟨[.str],fun s=>decide (s.length<=1000000),[i64],fun s=>FT s,false⟩
def XR0:AL:=X7 []
def Xq:AL:=X7 [(192,X9),(190,Va)]
def XR2:AL:=X7 [(149,I5),(150,Yo),(151,Z2),(152,Zi),(153,bZ),(147,SH)]
def XR3:AL:=X7 [(145,RA)]
def uG:AL:=Ur [(83,[3,7,9])] [] [(83,[(3,[2,3]),(7,[8,10]),(9,[8,10])])] [(146,ZO),(141,Mo),(147,SH),(149,I5),(148,Qn)]
def iG:AL:=Ur [(81,[3,5,7,11])] [] [(81,[(3,[0,1]),(5,[0,1]),(7,[0,1]),(11,[1,6])])] [(143,Io),(83,Nx),(144,AbN),(145,RA)]
def XR6:AL:=Ur [(30,[5]),(74,[5])] [] [(30,[(5,[0,1])]),(74,[(5,[0,1])])] [(80,OE),(81,ZC),(82,OL),(84,jQ),(85,cP),(83,Nx)]
def XR7:AL:=X7 [(183,Aa2),(74,Od),(30,JD),(86,cE)]
def XR8:AL:=X7 [(31,cI),(87,M6),(139,PW),(33,ZZ),(113,rX),(114,cM)]
def XR9:AL:=X7 [(82,OL),(182,ZG),(148,Qn),(137,U4)]
def Yu:Am:=⟨[],fun _=>true,[.bool],fun _=>true,false⟩
theorem nV:Af A4 8 Yu:=by
 refine .of0 ⟨by kernel_rfl,Bg ag,fun F h args i d b c a _=>?_⟩;have j:args=[]:=by
  have:=a (fun _=>none) 0;simpa [Ag,Yu]using this
 subst j;refine⟨[(.bool true,h)],1,fun m k=>?_,fun _=>⟨_,rfl⟩,fun x g=>?_⟩
 ·obtain⟨e,rfl⟩:∃e,m=e+1:=⟨m-1,by omega⟩;have f:A4.spec 8=some fun args h=>bif ghB h GP then(match Jo A7 8 args with|some v=>some (v,h)|none=>none)else none:=rfl
  rw[Bi];simp only[f,AdS c,we];rfl
 ·cases yt.1 g;exact⟨yc _,fun _ _=>rfl,b,F,fun _ _ h=>h,fun _ _ h=>.inl h,d,fun ρ N=>Ea _⟩
end Go.Pe
namespace Go.Sp
def Qa(a:AM):Int:=if BF (Ah<|vI a)=[]then 0 else 64*((BF<|Ah<|vI a).length-1)+Fu ((BF<|Ah<|vI a).getD ((BF<|Ah<|vI a).length-1) 0)
def EL(a:AM):Bool:=NU<|vI a
def IW(a:Ae):Bool:=EL a.1||EL a.2
def KZ(a:Ae):Z:=if Db a.2=true then AZ (vI a.1)else AZ (vI a.1)++47::AZ (vI a.2)
def Kv(a:Ae):Z:=if IW a=true then[]else KZ a
def IM(a:Ae):Int:=if IW a=true then 4 else 0
def Fe:List Z->Int
 |[]=>0
 |s::l=>if An s≠0 then An s else Fe l
def Rz(a:Ae):Int:=Og<|vI a.1
def On(a b:Z):Int:=Fe [a,b]
def XJ(e:Int)(q:Rat):Z:=if e≠0 then[]else if Kx q=true then[]else AH q
def Yb(e:Int)(q:Rat):Int:=if e≠0 then e else if Kx q=true then 4 else 0
def FZ(a:Z)(e:Int)(w:Z)(bad:Int):Bool:=if (if bad=0 then FT w else bad)≠0 then decide (a=[])&&decide (e=(if bad=0 then FT w else bad))else decide (e=0)&&decide (a=w)
end Go.Sp
namespace Go.Pe
open Sp
open Go.Det
def kZ:Am:=⟨[A3],fun a=>Bd a,[i64],fun a=>Qa a,false⟩
def Zq:Am:=⟨[A3],fun a=>Bd a,[.bool],fun a=>EL a,false⟩
def Ve:Am:=⟨[.str,.str],fun i=>Tn i.1 i.2,[.str],fun i=>A6 i.1,false⟩
def aS:Am:=⟨[Au],fun a=>Sp.Ch (a:Ae),[.bool],fun a=>IW a,false⟩
def tJ:Am:=⟨[Au],fun a=>Sp.Ch (a:Ae),[.str],fun a=>KZ a,false⟩
def TJ:Am:=⟨[Au],fun a=>Sp.Ch (a:Ae),[.str,i64],fun a=>(Kv a,IM a),false⟩
def bO:Am:=⟨[.list .str],fun l=>decide (zz (α:=Z) l<=1000)&&List.all (α:=Z) l (fun s=>decide (s.length<=1000000)),[i64],fun l=>Fe l,false⟩
def lF:Am:=⟨[Au],fun a=>jl (a:Ae).1,[i64],fun a=>Rz a,false⟩
def XX0:AL:=X7 []
def XX1:AL:=X7 [(173,Qq),(229,Y5)]
def Afc:AL:=X7 [(208,kZ),(170,Ab5),(197,Ve)]
def XX2:AL:=X7 [(169,Zq),(123,Q5),(170,Ab5)]
def XX3:AL:=X7 [(163,EC),(134,K0)]
end Go.Pe
namespace Go.Sp
def yI(a u:Z):Bool:=A2 a&&VZ u&&A2 (FD a u)&&A2 (B5 (FD a u) [49,47,50])&&A2 (GA<|B5 (FD a u) [49,47,50])
def Ack(a u:Z):Z:=EH (GA<|B5 (FD a u) [49,47,50]) u
end Go.Sp
namespace Go.Pe
open Go.Det
def bP:Am:=⟨[.str,.str],fun i=>Sp.yI i.1 i.2,[.str],fun i=>Sp.Ack i.1 i.2,false⟩
end Go.Pe
namespace Go.Sp
abbrev AW:=Z×Z
def DK:Option AW->List AW->Int
 |_,[]=>0
 |o,p::l=>if On p.1 p.2≠0 then On p.1 p.2 else match o with
  |some q=>if EI p.1 q.1<=0 then 11 else DK (some p) l
  |none=>DK (some p) l
def BN(t:List AW):Int:=if t=[]then 12 else if 64<t.length then 5 else DK none t
def Cw(s:Z):Ae:=((RW s,RR s),(P0 s,Rp s))
def EK(p:AW):Ae×Ae:=(Cw p.1,Cw p.2)
def Xi(t:List AW):List (Ae×Ae):=if BN t≠0 then[]else t.map EK
def OC:Option (Rat×Rat)->List (Rat×Rat)->Rat->Rat
 |none,[],_=>0
 |some p,[],_=>p.2
 |o,b::l,x=>if b.1<x then OC (some b) l x else match o with
  |none=>b.2
  |some a=>a.2+(b.2-a.2)*(x-a.1)/(b.1-a.1)
def LI(t:List AW)(x:Z):Rat:=OC none (t.map fun p=>(As p.1,As p.2))<|As x
def Yt(t:List AW)(x:Z):Int:=if BN t≠0 then BN t else An x
def lV(t:List AW)(x:Z):Z:=AH<|LI t x
def GQ(k:Nat)(t:List AW):Bool:=t.all fun p=>decide (p.1.length<=k)&&decide (p.2.length<=k)
end Go.Sp
namespace Go.Pe
open Sp
open Go.Det
abbrev Ca:Sh:=.pair .str .str
abbrev bQ:Sh:=.pair Au Au
def aK:Am:=⟨[.list Ca],fun l=>decide (zz (α:=AW) l<=1000)&&GQ 1000000 l,[.list bQ,i64],fun l=>(Xi l,BN l),false⟩
def LH:Am:=⟨[.list Ca],fun l=>decide (zz (α:=AW) l<=1000)&&GQ 1000000 l,[i64],fun l=>BN l,false⟩
def XT1:AL:=X7 [(202,Gq),(203,G7),(270,bO),(96,LU),(73,QW)]
def XT2:AL:=X7 [(237,aK)]
def XT4:AL:=X7 [(78,EC),(32,PQ)]
def XT5:AL:=X7 [(32,PQ),(130,ZV),(31,cI),(74,Od),(30,JD)]
end Go.Pe
namespace Go.Sp
theorem Wy(q:Rat):QX (AH q)=ze q.den:=by
 obtain⟨_,a,b⟩:=FL q;unfold QX;rw[a,b];by_cases h:q.den=1
 ·rw[wc (by simpa using h),h,ym af];rfl
 ·rw[wd<|w4 h,wc h]
theorem XK(q:Rat):FT (AH q)=if Kx q=true then 4 else 0:=by
 obtain⟨b,_,_⟩:=FL q;unfold FT;rw[Wy,b,(DB q.num).2.1];have a:Kx q=true↔600<(ze q.num.natAbs).length\/600<(ze q.den).length:=by
  unfold Kx NU;rw[qy,w5,w5,zj]
 by_cases h:Kx q=true
 ·rw[wd<|a.1 h,wd h]
 ·rw[wc<|fun k=>h<|a.2 k,wc h]
theorem cN(q:Rat):FZ (XJ 0 q) (Yb 0 q) (AH q) 0=true:=by
 unfold FZ XJ Yb;rw[XK];by_cases h:Kx q=true
 ·simp[h]
 ·simp[h]
theorem Wu{e:Int}(h:e≠0)(q:Rat)(w:Z):FZ (XJ e q) (Yb e q) w e=true:=by
 unfold FZ XJ Yb;simp[h]
theorem aB(a b:Z):On a b=if An a≠0 then An a else An b:=by
 show(if An a≠0 then An a else if An b≠0 then An b else 0)=_;by_cases h:An a≠0
 ·rw[wd h,wd h]
 ·rw[wc h,wc h];by_cases k:An b≠0
  ·rw[wd k]
  ·rw[wc k];omega
theorem J3{a b:Z}(h:On a b=0):An a=0/\An b=0:=by
 rw[aB]at h;by_cases k:An a≠0
 ·rw[wd k]at h;exact wh h k
 ·rw[wc k]at h;exact⟨by omega,h⟩
theorem Sj:AH 0=[48]:=by
 unfold AH;rw[wd<|show Rat.den 0=1 from rfl];show zr 0=[48];unfold zr;rw[wc af,show(0:Int).toNat=0 from rfl,ym af];rfl
theorem JF{s:Z}(h:A2 s=true):s=[48]↔As s=0:=by
 obtain⟨a,_⟩:=Gc h;constructor
 ·rintro rfl;rw[<-Sj,DL]
 ·intro e;rw[<-a,e,Sj]
theorem H8{s:Z}(h:Di s=true):A2 s=true/\s.length<=3000:=by
 unfold Di at h;rwa [zd,w5]at h
theorem lM{s:Z}(h:Di s=true)(h0:s≠[48]):VZ s=true:=by
 unfold VZ;rw[h,zy];exact w4 fun e=>h0<|(JF (H8 h).1).2 e
theorem XF{s:Z}(h:VZ s=true):Di s=true/\As s≠0:=by
 unfold VZ at h;rwa [zd,w5]at h
theorem P1{q:Rat}{k:Nat}(h:CZ k q)(a:k<=400000):(AH q).length<=1000000:=by
 have:=PD (h.mono<|show k<=k+1 by omega) ae;omega
structure Nu(k:Nat)(s:Z)(q:Rat):Prop where
 t:s=AH q
 z:CZ k q
theorem Nu.mono{i j:Nat}{s:Z}{q:Rat}(h:Nu i s q)(k:i<=j):Nu j s q:=⟨h.t,h.z.mono k⟩
theorem Nu.rat{k:Nat}{s:Z}{q:Rat}(h:Nu k s q):As s=q:=by rw[h.t,DL]
theorem aV{k:Nat}{q:Rat}(h:CZ k q)(a:k<=600):Kx q=false:=YN.2<|h.mono a
theorem Nu.check{k:Nat}{s:Z}{q:Rat}(h:Nu k s q)(a:k<=600):An s=0:=by
 rw[h.t,Yx,aV h.z a,wc af]
theorem Nu.num{k:Nat}{s:Z}{q:Rat}(h:Nu k s q)(a:k<=1999):A2 s=true:=by rw[h.t];exact Ss h.z a
theorem Nu.Di{k:Nat}{s:Z}{q:Rat}(h:Nu k s q)(a:k<=1400):Sp.Di s=true:=by
 unfold Sp.Di;rw[h.num ae,zy,w5,h.t];have:=PD (h.z.mono<|show k<=k+1 by omega) ae;omega
theorem mM{k:Nat}{q:Rat}(h:CZ k q)(a:k<=600):XJ 0 q=AH q/\Yb 0 q=0:=by
 unfold XJ Yb;rw[aV h a];exact⟨rfl,rfl⟩
theorem Nu.op{k:Nat}{q:Rat}(h:CZ k q)(a:k<=600):Nu k (XJ 0 q) q/\Yb 0 q=0:=by
 rw[(mM h a).1];exact⟨⟨rfl,h⟩,(mM h a).2⟩
theorem Nu.JF{k:Nat}{s:Z}{q:Rat}(h:Nu k s q)(a:k<=1999):s=[48]↔q=0:=by
 rw[Sp.JF<|h.num a,h.rat]
theorem Nu.cmp{i j:Nat}{a b:Z}{p q:Rat}(c:Nu i a p)(d:Nu j b q):EI a b=if p<q then -1 else if q<p then 1 else 0:=by
 unfold EI;rw[c.rat,d.rat]
theorem Mi{a:Z}(h:An a=0):Nu 600 a (As a):=by
 obtain⟨t,_,_,z⟩:=Nk h;exact⟨t.symm,z⟩
theorem SL(n:Int):AZ n=AH (n:Rat):=by
 unfold AH AZ;rw[wd<|Rat.den_intCast ..,Rat.num_intCast]
theorem rT{p q:Rat}(h:p=q):(if p<q then(-1:Int)else if q<p then 1 else 0)=0:=by
 subst h;rw[wc Rat.lt_irrefl,wc Rat.lt_irrefl]
theorem Vt(p q:Rat):(if p<q then(-1:Int)else if q<p then 1 else 0)=0↔p=q:=by
 refine⟨fun h=>?_,rT⟩;split at h
 ·exact wh h af
 ·next c=>
  split at h
  ·exact wh h af
  ·next d=>exact Rat.le_antisymm (Rat.not_lt.1 d)<|Rat.not_lt.1 c
theorem oY(p q:Rat):(if q<p then(-1:Int)else if p<q then 1 else 0)= -(if p<q then(-1:Int)else if q<p then 1 else 0):=by
 by_cases h:p<q
 ·have:¬q<p:=Rat.not_lt.2<|Rat.le_of_lt h;rw[wc this,wd h,wd h];rfl
 ·rw[wc h,wc h];split<;>rfl
theorem Tk:Nu 1 [49,47,50] (1/2):=by
 refine⟨by decide+kernel,?_⟩;unfold CZ;decide+kernel
theorem Nu.B5{i j:Nat}{a b:Z}{p q:Rat}(c:Nu i a p)(d:Nu j b q):Nu (i+j+1) (Sp.B5 a b) (p+q):=⟨by unfold Sp.B5;rw[c.rat,d.rat],c.z.add d.z⟩
theorem Nu.Hl{i j:Nat}{a b:Z}{p q:Rat}(c:Nu i a p)(d:Nu j b q):Nu (i+j+1) (Sp.Hl a b) (p-q):=⟨by unfold Sp.Hl;rw[c.rat,d.rat],c.z.sub d.z⟩
theorem Nu.EH{i j:Nat}{a b:Z}{p q:Rat}(c:Nu i a p)(d:Nu j b q):Nu (i+j) (Sp.EH a b) (p*q):=⟨by unfold Sp.EH;rw[c.rat,d.rat],c.z.mul d.z⟩
theorem Nu.FD{i j:Nat}{a b:Z}{p q:Rat}(c:Nu i a p)(d:Nu j b q)(h0:q≠0):Nu (i+j) (Sp.FD a b) (p/q):=⟨by unfold Sp.FD;rw[c.rat,d.rat],c.z.div d.z h0⟩
theorem Rr{q:Rat}{k:Nat}(h:CZ k q):CZ k (q.floor:Rat):=by
 obtain⟨a,c⟩:=h;have b:=q.den_pos;unfold CZ;rw[Rat.num_intCast,Rat.den_intCast,Rat.floor_def];refine⟨yh (yq _ _) a,by omega⟩
def YH(w:Z):Nat:=max (A6<|AD w).length (QX w).length
def Adh(l:List AW):List (Rat×Rat):=l.map fun p=>(As p.1,As p.2)
def XV(n:Int):Bool:=decide (n.natAbs<9223372036854775808)
def Yh(n:Int):Z:=AH ((n:Int):Rat)
def C2(n m:Int):Int:=if n=0 then 12 else if m<n then 5 else 0
end Go.Sp
namespace Go.Pe
open Go.Det
def mV:Am:=⟨[i64,i64],fun _=>true,[i64],fun i=>Sp.C2 i.1 i.2,false⟩
def Sr:Am:=⟨[.str,i64,i64,.str],fun i=>decide (zz (α:=UInt8) i.2.2.2<=1000000),[.bool],fun i=>Sp.FZ i.1 i.2.1 i.2.2.2 i.2.2.1,false⟩
def pU:Am:=⟨[i64],fun n=>Sp.XV n,[.str],fun n=>Sp.Yh n,false⟩
def Af0:AL:=X7 [(60,Gq),(91,G7)]
def AfM:AL:=X7 [(118,aS),(119,tJ)]
def aN:AL:=X7 [(61,TE)]
def AbH:AL:=X7 [(143,Io),(148,Qn)]
end Go.Pe
namespace Go.Sp
def dV(p h n r:Rat):Rat:=if p<=h+r then p*h/(h+r)else h+(p-(h+r))*n/(n+r)
abbrev Bm:=Bx×Bx×Bx×List AW×List AW
abbrev EB:=Bx×Int
abbrev Bn:=Bx×Bx×Bx×Bx×List EB
abbrev B3:=Bx×List Int
abbrev AF:=List Bn×List B3×List Bm
def BQ(a:Bx)(lo b:Int):Int:=if An a≠0 then An a else if As a<(lo:Rat)\/(b:Rat)<As a then 3 else 0
def Zw(seen:List Bx):List AW->Int
 |[]=>0
 |w::l=>if isName w.1=false then 8 else if has seen w.1=true then 9 else if An w.2≠0 then An w.2 else if As w.2<0 then 3 else Zw (w.1::seen) l
def OA(l:List AW):Int:=if 16<l.length then 5 else Zw [] l
def SM:Option Bx->List AW->Int
 |_,[]=>0
 |none,p::l=>SM (some p.2) l
 |some y,p::l=>if EI p.2 y<0 then 11 else SM (some p.2) l
def Mj(l:Bm):Int:=first [Cv (!isName l.1) 8,BQ l.2.1 1 10000,BQ l.2.2.1 1 10000,BN l.2.2.2.1]
def J8(l:Bm):Int:=if Mj l≠0 then Mj l else if SM none l.2.2.2.1≠0 then SM none l.2.2.2.1 else OA l.2.2.2.2
def hZ:List EB->Int
 |[]=>0
 |o::l=>if isName o.1=false then 8 else if o.2<0\/10<o.2 then 3 else hZ l
def UU(s:Bn):Int:=first [BQ s.1 (-10000) 10000,BQ s.2.1 (-10000) 10000,BQ s.2.2.1 0 10000,BQ s.2.2.2.1 0 10000,Cv (decide (16<s.2.2.2.2.length)) 5]
def Ly(s:Bn):Int:=if UU s≠0 then UU s else hZ s.2.2.2.2
def Jd:List Bn->Int
 |[]=>0
 |s::l=>if Ly s≠0 then Ly s else Jd l
def Ey(l:List Int):Bool:=l.any fun n=>decide (n<1)||decide (10000<n)
def F8(n:Int)(seen:List Bx):List B3->Int
 |[]=>0
 |t::l=>if isName t.1=false then 8 else if has seen t.1=true then 9 else if (t.2.length:Int)≠n then 2 else if Ey t.2=true then 3 else F8 n (t.1::seen) l
def LQ(seen:List Bx):List Bm->Int
 |[]=>0
 |l::r=>if J8 l≠0 then J8 l else if has seen l.1=true then 9 else LQ (l.1::seen) r
def OD(c:AF):Int:=if c.2.2=[]then 12 else if 8<c.2.2.length then 5 else LQ [] c.2.2
def Uc(c:AF):Int:=if c.2.1=[]then 12 else if 8<c.2.1.length then 5 else if F8 (c.1.length:Int) [] c.2.1≠0 then F8 (c.1.length:Int) [] c.2.1 else OD c
def NX(c:AF):Int:=if c.1=[]then 12 else if 36<c.1.length then 5 else if Jd c.1≠0 then Jd c.1 else Uc c
def HO(l:List AW)(n m:Nat):Bool:=l.all fun p=>decide (p.1.length<=n)&&decide (p.2.length<=m)
def Bh(l:Bm):Bool:=decide (l.1.length<=40)&&decide (l.2.1.length<=20)&&decide (l.2.2.1.length<=20)&&decide (l.2.2.2.1.length<=70)&&decide (l.2.2.2.2.length<=20)&&HO l.2.2.2.1 20 20&&HO l.2.2.2.2 40 20
def Bt(s:Bn):Bool:=decide (s.1.length<=20)&&decide (s.2.1.length<=20)&&decide (s.2.2.1.length<=20)&&decide (s.2.2.2.1.length<=20)&&decide (s.2.2.2.2.length<=20)
def CM(t:B3):Bool:=decide (t.1.length<=40)&&decide (t.2.length<=40)
def IS(c:AF):Bool:=decide (c.1.length<=38)&&decide (c.2.1.length<=10)&&decide (c.2.2.length<=10)&&c.1.all Bt&&c.2.1.all CM&&c.2.2.all Bh
def Mr(l:Bm):Bool:=decide (l.2.1.length<=20)&&decide (l.2.2.1.length<=20)&&decide (l.2.2.2.1.length<=70)&&HO l.2.2.2.1 20 20&&l.2.2.2.2.all fun p=>decide (p.2.length<=20)
def Wd(t:B3):Bool:=decide (t.2.length<=4611686018427387904)
def bD(c:AF):Bool:=decide (c.1.length<=38)&&decide (c.2.1.length<=10)&&decide (c.2.2.length<=10)&&c.1.all Bt&&c.2.1.all Wd&&c.2.2.all Mr
def BH(c:AF)(h:Int):Bn:=c.1.getD h.toNat ([],[],[],[],[])
def Hk(c:AF)(t h:Int):Int:=(c.2.1.getD t.toNat ([],[])).2.getD h.toNat 0
def CW(c:AF)(l:Int):Bm:=c.2.2.getD l.toNat ([],[],[],[],[])
def Lo(i n:Int):Bool:=decide (i<0)||decide (n<=i)
def JG(c:AF)(b:Bool):Int:=if NX c≠0 then NX c else if b=true then 10 else 0
def VP(c:AF)(t:Int):Bool:=Lo t (c.2.1.length:Int)
def VK(c:AF)(h:Int):Bool:=Lo h (c.1.length:Int)
def Ox(c:AF)(l:Int):Bool:=Lo l (c.2.2.length:Int)
def AgT(c:AF)(t h:Int):Int:=JG c<|VP c t||VK c h
def AfZ(c:AF)(t h l:Int):Int:=JG c<|VP c t||(VK c h||Ox c l)
def Aer(c:AF)(h l:Int):Int:=JG c<|VK c h||Ox c l
def plV(s:Bn)(n:Int):Rat:=let p:=(n:Rat)+(As s.1+As s.2.1+As s.2.2.1);if p<0 then 0 else p
def MF(c:AF)(t h:Int):Rat:=plV (BH c h)<|Hk c t h
def R3(c:AF)(t h l:Int):Rat:=dV (MF c t h) (As (CW c l).2.1) (As (CW c l).2.2.1)<|As (BH c h).2.2.2.1
def lookW:List AW->Bx->Rat
 |[],_=>0
 |w::l,k=>if w.1=k then As w.2 else lookW l k
def obV(ws:List AW):List EB->Rat
 |[]=>0
 |o::l=>lookW ws o.1*((o.2:Rat)/10)+obV ws l
def tL(c:AF)(h l:Int):Rat:=obV (CW c l).2.2.2.2 (BH c h).2.2.2.2
def Jx(c:AF)(t h l:Int):Rat:=OC none (Adh (CW c l).2.2.2.1) (R3 c t h l)+tL c h l
def XA(c:AF)(t h:Int):Bx:=AH<|MF c t h
def efR(c:AF)(t h l:Int):Bx:=AH<|R3 c t h l
def obR(c:AF)(h l:Int):Bx:=AH<|tL c h l
def hoR(c:AF)(t h l:Int):Bx:=AH<|Jx c t h l
def zF:Ae:=((0,BL 0),(1,BL 1))
def iF(n:Int):Ae:=((n,BL n),(1,BL 1))
def qN(c:AF)(t h:Int):Ae:=B0 (iF<|Hk c t h)<|B0 (B0 (B0 zF<|Cw (BH c h).1)<|Cw (BH c h).2.1)<|Cw (BH c h).2.2.1
def Tj(c:AF)(t h:Int):Ae:=if Rz (qN c t h)<0 then zF else qN c t h
def KV(c:AF)(h:Int):Ae:=Cw (BH c h).2.2.2.1
def ID(c:AF)(l:Int):Ae:=Cw (CW c l).2.1
def Wh(c:AF)(l:Int):Ae:=Cw (CW c l).2.2.1
def bM(c:AF)(t h l:Int):Ae:=if Ds (Tj c t h) (B0 (ID c l)<|KV c h)<=0 then Lp (FO (Tj c t h)<|ID c l) (B0 (ID c l)<|KV c h)else B0 (ID c l)<|Lp (FO (Gs (Tj c t h)<|B0 (ID c l)<|KV c h)<|Wh c l)<|B0 (Wh c l)<|KV c h
def Wp(ws:List AW)(f:Ae):List EB->Ae
 |[]=>f
 |o::l=>match ws.find? fun w=>decide (w.1=o.1)with
  |some w=>Wp ws (B0 f<|FO (Cw w.2)<|SJ (o.2,BL o.2) (10,BL 10)) l
  |none=>Wp ws f l
def obF(c:AF)(h l:Int):Ae:=Wp (CW c l).2.2.2.2 zF (BH c h).2.2.2.2
def uD:Option AW->List AW->Ae->Ae
 |none,[],_=>zF
 |some q,[],_=>Cw q.2
 |o,p::l,x=>if Ds x (Cw p.1)>0 then uD (some p) l x else match o with
  |none=>Cw p.2
  |some q=>if Ds x (Cw p.1)=0 then Cw p.2 else B0 (Cw q.2)<|Lp (FO (Gs (Cw p.2)<|Cw q.2)<|Gs x<|Cw q.1)<|Gs (Cw p.1)<|Cw q.1
def vlF(t:List AW)(x:Ae):Ae:=uD none t x
def dY(c:AF)(t h l:Int):Ae:=B0 (vlF (CW c l).2.2.2.1<|bM c t h l)<|obF c h l
def AgJ(c:AF)(t h:Int):Int:=nS<|Tj c t h
def Ahf(c:AF)(t h:Int):List Int:=nW<|Tj c t h
def AhG(c:AF)(t h:Int):Int:=dS<|Tj c t h
def Ag3(c:AF)(t h:Int):List Int:=dW<|Tj c t h
def AgN(c:AF)(t h l:Int):Int:=nS<|bM c t h l
def Ahc(c:AF)(t h l:Int):List Int:=nW<|bM c t h l
def AgW(c:AF)(t h l:Int):Int:=dS<|bM c t h l
def AgQ(c:AF)(t h l:Int):List Int:=dW<|bM c t h l
def Ahe(c:AF)(h l:Int):Int:=nS<|obF c h l
def AhJ(c:AF)(h l:Int):List Int:=nW<|obF c h l
def Ahq(c:AF)(h l:Int):Int:=dS<|obF c h l
def Ahm(c:AF)(h l:Int):List Int:=dW<|obF c h l
def AhN(t:List AW)(x:Ae):Int:=nS<|vlF t x
def AgH(t:List AW)(x:Ae):List Int:=nW<|vlF t x
def Ag9(t:List AW)(x:Ae):Int:=dS<|vlF t x
def AgV(t:List AW)(x:Ae):List Int:=dW<|vlF t x
def AgP(c:AF)(t h l:Int):Int:=nS<|dY c t h l
def Ahj(c:AF)(t h l:Int):List Int:=nW<|dY c t h l
def Ahi(c:AF)(t h l:Int):Int:=dS<|dY c t h l
def Ag8(c:AF)(t h l:Int):List Int:=dW<|dY c t h l
def Xj(l:List (Int×Int)):Bool:=l.any fun p=>Lo p.1 p.2
def Ns(c:AF)(l:List (Int×Int)):Int:=JG c<|Xj l
def okP(c:AF)(t h:Int):Bool:=IS c&&decide (AgT c t h=0)
def VI(c:AF)(t h l:Int):Bool:=IS c&&decide (AfZ c t h l=0)
def okO(c:AF)(h l:Int):Bool:=IS c&&decide (Aer c h l=0)
def hI(l:Bm):Bool:=decide (l.2.2.2.2.length<=4398046511104)
def smS(s:Bn):Bool:=decide (s.2.2.2.2.length<=5864062014805)
def smC(c:AF):Bool:=decide (c.1.length<=1599289640401)&&decide (c.2.1.length<=3518437208883)&&decide (c.2.2.length<=1466015503701)&&c.1.all smS&&c.2.2.all hI
def He(n:Int):Bool:=decide (-100000<n)&&decide (n<100000)
def KI(s:Bx)(l:List Bx):Int:=if isName s=false then 8 else if has l s=true then 9 else 0
end Go.Sp
namespace Go.Pe
open Sp
open Go.Det
abbrev Bh:Sh:=.pair .str<|.pair .str<|.pair .str<|.pair (.list Ca)<|.list Ca
abbrev Te:Sh:=.pair .str i64
abbrev Bt:Sh:=.pair .str<|.pair .str<|.pair .str<|.pair .str<|.list Te
abbrev CM:Sh:=.pair .str Ae0
abbrev Bc:Sh:=.pair (.list Bt)<|.pair (.list CM)<|.list Bh
def dN:Am:=⟨[.str],fun _=>true,[.bool],fun s=>Sp.isName s,false⟩
def V4:Am:=⟨[.str,i64,i64],fun i=>decide (zz (α:=UInt8) i.1<=1000000)&&He i.2.1&&He i.2.2,[i64],fun i=>BQ i.1 i.2.1 i.2.2,false⟩
def AdV:Am:=⟨[.list Ca],fun l=>HO l 40 20,[i64],fun l=>OA l,false⟩
def cLv:Am:=⟨[Bh],fun l=>Sp.Bh l,[i64],fun l=>J8 l,false⟩
def cU:Am:=⟨[Bt],fun s=>Sp.Bt s,[i64],fun s=>Ly s,false⟩
def cCo:Am:=⟨[Bc],fun c=>IS c,[i64],fun c=>NX c,false⟩
def Ado:Am:=⟨[Bh],fun l=>Mr l,[i64],fun l=>J8 l,false⟩
def Adl:Am:=⟨[Bc],fun c=>bD c,[i64],fun c=>NX c,false⟩
def bC:Am:=⟨[Bh],fun _=>true,[.bool],fun l=>Sp.Bh l,false⟩
def yL:Am:=⟨[Bc],fun _=>true,[.bool],fun c=>IS c,false⟩
def Ky:Am:=⟨[Bc],fun c=>Sp.smC c,[Bc],fun c=>c,false⟩
def oK:Am:=⟨[Bh],fun l=>hI l,[Bh],fun l=>l,false⟩
def O9:Am:=⟨[Bc,.list<|.pair i64 i64],fun i=>IS i.1&&decide (zz (α:=Int×Int) i.2<=1000),[i64],fun i=>Ns i.1 i.2,false⟩
def cPl:Am:=⟨[Bc,i64,i64],fun i=>Sp.okP i.1 i.2.1 i.2.2,[Au],fun i=>((AgJ i.1 i.2.1 i.2.2,Ahf i.1 i.2.1 i.2.2),(AhG i.1 i.2.1 i.2.2,Ag3 i.1 i.2.1 i.2.2)),false⟩
def cEf:Am:=⟨[Bc,i64,i64,i64],fun i=>VI i.1 i.2.1 i.2.2.1 i.2.2.2,[Au],fun i=>((AgN i.1 i.2.1 i.2.2.1 i.2.2.2,Ahc i.1 i.2.1 i.2.2.1 i.2.2.2),(AgW i.1 i.2.1 i.2.2.1 i.2.2.2,AgQ i.1 i.2.1 i.2.2.1 i.2.2.2)),false⟩
def cOb:Am:=⟨[Bc,i64,i64],fun i=>Sp.okO i.1 i.2.1 i.2.2,[Au],fun i=>((Ahe i.1 i.2.1 i.2.2,AhJ i.1 i.2.1 i.2.2),(Ahq i.1 i.2.1 i.2.2,Ahm i.1 i.2.1 i.2.2)),false⟩
def cRt:Am:=⟨[Bc,i64,i64,i64],fun i=>VI i.1 i.2.1 i.2.2.1 i.2.2.2,[Au],fun i=>((AgP i.1 i.2.1 i.2.2.1 i.2.2.2,Ahj i.1 i.2.1 i.2.2.1 i.2.2.2),(Ahi i.1 i.2.1 i.2.2.1 i.2.2.2,Ag8 i.1 i.2.1 i.2.2.1 i.2.2.2)),false⟩
def Afx:Am:=⟨[Bc,i64,i64],fun i=>Sp.okP i.1 i.2.1 i.2.2,[.str],fun i=>XA i.1 i.2.1 i.2.2,false⟩
def AeJ:Am:=⟨[Bc,i64,i64,i64],fun i=>VI i.1 i.2.1 i.2.2.1 i.2.2.2,[.str],fun i=>Sp.efR i.1 i.2.1 i.2.2.1 i.2.2.2,false⟩
def Aeo:Am:=⟨[Bc,i64,i64],fun i=>Sp.okO i.1 i.2.1 i.2.2,[.str],fun i=>Sp.obR i.1 i.2.1 i.2.2,false⟩
def AeI:Am:=⟨[Bc,i64,i64,i64],fun i=>VI i.1 i.2.1 i.2.2.1 i.2.2.2,[.str],fun i=>Sp.hoR i.1 i.2.1 i.2.2.1 i.2.2.2,false⟩
def Tq:Am:=⟨[.str,.list .str],fun i=>decide (zz (α:=Z) i.2<=1000),[i64],fun i=>KI i.1 i.2,false⟩
def Afj:AL:=X7 [(163,EC),(96,LU),(73,QW),(57,cF),(91,G7)]
def uR:AL:=X7 [(166,dN),(60,Gq),(91,G7),(163,EC),(96,LU),(106,lF)]
def uS:AL:=X7 [(166,dN),(60,Gq),(91,G7),(204,V4),(206,LH),(96,LU),(73,QW),(207,AdV)]
def AaC:AL:=X7 [(166,dN),(60,Gq),(91,G7),(204,V4)]
def Me:AL:=X7 [(90,mV),(164,cU),(166,dN),(60,Gq),(91,G7),(167,cLv)]
def Aal:AL:=X7 [(115,cCo),(91,G7)]
def GG:AL:=X7 []
def AfU:AL:=X7 [(78,EC),(32,PQ),(143,Io),(148,Qn)]
def zA:AL:=X7 [(111,dN)]
def RQ:AL:=X7 [(111,dN),(110,V4),(112,LH),(32,PQ),(47,Tq),(78,EC),(87,M6)]
def zE:AL:=X7 [(110,V4),(111,dN)]
def Fb:AL:=X7 [(46,cU),(47,Tq),(48,Ado)]
def RY:AL:=X7 [(45,bC)]
def B1:AL:=Ur [(7,[2])] [(7,[(2,[(1,Bc)])])] [(7,[(18,[1,2,3,8]),(16,[1,2,3,8]),(14,[1,2,3,7]),(12,[1,2,3,7]),(9,[1,2,3,4,5,6]),(7,[1,2,3,4,5,6]),(5,[1,2,3,4]),(3,[1,2,3,4]),(2,[1,2,3])])] [(37,oK)]
end Go.Pe
