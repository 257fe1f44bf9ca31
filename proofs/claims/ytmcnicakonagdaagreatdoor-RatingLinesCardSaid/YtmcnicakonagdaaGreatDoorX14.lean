import Derived.Test.YtmcnicakonagdaaGreatDoorX13
import Derived.Test.YtmcnicakonagdaaGreatDoorX09
import Derived.Test.YtmcnicakonagdaaGreatDoorX12
import Derived.Test.YtmcnicakonagdaaGreatDoorX10
import Derived.Test.YtmcnicakonagdaaGreatDoorX11
/- A part of a proof (no law is stated here). Made by program out of texts by AI agents. -/
noncomputable section
open Go.IntKind renaming wrap -> zc, u64 -> zr, i64 -> z6
open Go.Pe.Ends renaming tt -> zd, leaf -> zg, ff -> z7, ite -> yq, eq -> yr, Ap -> qx
open Go.Pe.Sh renaming list -> ze, str -> zf, bool -> zi, pair -> zy, int -> z8, nlist -> yj
open Bool renaming and_eq_true -> zh, true_and -> qc
open Go.Lib renaming decDigits -> zj, decDigits_length -> qq, decDigits_one -> jc, itoa -> j5
open Int renaming le_of_lt -> zk, mul_le_mul_of_nonneg_right -> zn, toNat_natCast -> zp, mul_le_mul_of_nonneg_left -> zw, natCast_pow -> zx, mul_pos -> yf, pow_pos -> yg, eq_ofNat_of_zero_le -> yh, mul_nonneg -> yp, mul_le_mul -> yu, tmod -> yv, lt_of_lt_of_le -> yy, pow_nonneg -> yz, pow_add -> y7, natAbs_natCast -> qd, natCast_nonneg -> qf, one_mul -> qh, tdiv -> qk, ofNat_lt -> qy, tmod_eq_emod_of_nonneg -> q9, pow_succ -> ji, mul_zero -> jj, add_zero -> jk, mul_one -> jm, mul_add -> jt, add_assoc -> jz, pow_zero -> j6, le_trans -> j7
open Rat renaming intCast_mul -> zl, mul_assoc -> zu, intCast_le_intCast -> yb, mul_le_mul_of_nonneg_right -> yc, le_of_mul_le_mul_right -> yo, intCast_eq_zero_iff -> yt, div_mul_cancel -> qe, neg_le_neg -> qi, neg_mul -> qp, intCast_pos -> qt, mul_comm -> qv, le_trans -> qw, divInt_eq_div -> je, intCast_neg -> jl
open List renaming mem_map -> zm, mem_cons_self -> zt, mem_cons_of_mem -> zz, length_cons -> yd, length_append -> ye, length_map -> yi, drop_eq_nil_of_le -> yk, take_of_length_le -> yn, length_drop -> yw, length_flatten -> y9, length_pos_iff -> qu, take -> jg, length_eq_zero_iff -> jh, length -> jo, drop -> j9
open Nat renaming add -> zo, sub -> yx, add_sub_cancel -> qg, le_refl -> qo, mod_lt -> j0
open Prod renaming fst -> zq, snd -> qj
open Go.Sp renaming vI -> ya, rN -> ql, rW -> qm, AL -> qn, first -> qz, BK -> j8, E8 -> kc
open Go.Pe.Ad renaming of -> y8
open UInt8 renaming ofNat -> jf
namespace Go.Sp
def vR(a:Bool×List Int):Int:=if a.1=true then -At a.2 else At a.2
def CI(a:Bool×List Int):Bool:=A8 a.2&&decide (a.2.length<=3000)&&(!a.1||decide (a.2≠[]))
def HM(l:List Int)(i:Int):Int:=l.getD i.toNat 0
def jO(a b:List Int):Bool:=A8 a&&A8 b&&decide (a.length<=9000)&&decide (b.length<=9000)
def LR(a b:List Int):List Int:=BQ (At a+At b)
def Gt(a b:List Int):List Int:=BQ (At a-At b)
def Mw(a b:Bool×List Int):Bool:=rN (vR a+vR b)
def Ms(a b:Bool×List Int):List Int:=rW (vR a+vR b)
def Hd(a b:Bool×List Int):Bool:=rN (vR a*vR b)
def HD(a b:Bool×List Int):List Int:=rW (vR a*vR b)
def Se(a:Bool×List Int):Bool:=rN (-vR a)
def Ry(a:Bool×List Int):List Int:=rW (-vR a)
def HF(a:Bool×List Int):List UInt8:=AW (vR a)
def HK(n d:Bool×List Int):List UInt8:=C3 (vR n) (vR d)
def iM(a:List UInt8):Int:=if DJ a=true then Iv a else 0
def Tc(a:List UInt8):Int:=if DJ a=true then R2 a else 0
def EH(a b:List UInt8):List UInt8:=AO (Aw a+Aw b)
def Ie(a b:List UInt8):List UInt8:=AO (Aw a-Aw b)
def Es(a b:List UInt8):List UInt8:=AO (Aw a*Aw b)
def Qd(a:List UInt8):List UInt8:=AO (Aw a)⁻¹
def Kl(a b:List UInt8):List UInt8:=AO (Aw a/Aw b)
def ET(a:List UInt8):Int:=if 600<(AZ (Ay a)).length\/600<(Mo a).length then 4 else 0
def E0(a:List UInt8):Bool:=Bt a&&decide (a.length<=3000)
def ZZ(a:List UInt8):Bool:=E0 a&&decide (Aw a≠0)
end Go.Sp
namespace Go.Pe
open Sp
open Go.Det
def VK:Ao:=⟨[li,i64],fun i=>decide (0<=(i.2:Int)),[i64],fun i=>HM i.1 i.2,false⟩
def Vk:Ao:=⟨[li,li],fun i=>jO i.1 i.2,[li],fun i=>LR i.1 i.2,false⟩
def U2:Ao:=⟨[li,li],fun i=>jO i.1 i.2&&decide (At i.2<=At i.1),[li],fun i=>Gt i.1 i.2,false⟩
def eB:Ao:=⟨[Jg,Jg],fun i=>CI i.1&&CI i.2,[Jg],fun i=>(Mw i.1 i.2,Ms i.1 i.2),false⟩
def XO:Ao:=⟨[Jg,Jg],fun i=>CI i.1&&CI i.2,[Jg],fun i=>(Hd i.1 i.2,HD i.1 i.2),false⟩
def WV:Ao:=⟨[Jg],fun a=>CI a,[Jg],fun a=>(Se a,Ry a),false⟩
def Vl:Ao:=⟨[Jg],fun a=>CI a,[.str],fun a=>HF a,false⟩
def LI:Ao:=⟨[Jg,Jg],fun i=>CI i.1&&CI i.2&&decide (Sp.vR i.2≠0),[.str],fun i=>HK i.1 i.2,false⟩
def gD:Ao:=⟨[i64,i64],fun i=>CA i.1&&CA i.2&&decide ((i.2:Int)≠0),[.str],fun i=>C3 i.1 i.2,false⟩
def Nt:Ao:=⟨[.str],fun s=>Bt s,[i64,i64,.bool],fun s=>(iM s,Tc s,DJ s),false⟩
def QB:Ao:=⟨[.str,.str],fun i=>Bt i.1&&Bt i.2,[.str],fun i=>EH i.1 i.2,false⟩
def eQ:Ao:=⟨[.str,.str],fun i=>Bt i.1&&E0 i.2,[.str],fun i=>Ie i.1 i.2,false⟩
def S2:Ao:=⟨[.str,.str],fun i=>Bt i.1&&Bt i.2,[.str],fun i=>Es i.1 i.2,false⟩
def rZ:Ao:=⟨[.str],fun s=>ZZ s,[.str],fun s=>Qd s,false⟩
def fP:Ao:=⟨[.str,.str],fun i=>Bt i.1&&ZZ i.2,[.str],fun i=>Kl i.1 i.2,false⟩
def SL:Ao:=⟨[.str],fun s=>decide (s.length<=1000000),[i64],fun s=>ET s,false⟩
def XR0:A3:=X7 []
def UU:A3:=X7 [(204,VK),(202,SE)]
def XR2:A3:=X7 [(159,H9),(160,Vk),(161,Ya),(162,U2),(163,XP),(157,Qi)]
def XR3:A3:=X7 [(154,Oz)]
def jP:A3:=Z0 [(83,[3,7,9])] [] [(83,[(3,[2,3]),(7,[8,10]),(9,[8,10])])] [(156,WV),(129,Ko),(157,Qi),(159,H9),(158,Vl)]
def Z2:A3:=Z0 [(81,[3,5,7,11])] [] [(81,[(3,[0,1]),(5,[0,1]),(7,[0,1]),(11,[1,6])])] [(152,Ja),(83,LI),(153,rB),(154,Oz)]
def qT:A3:=Z0 [(19,[5]),(20,[5])] [] [(19,[(5,[0,1])]),(20,[(5,[0,1])])] [(80,Nt),(81,gD),(82,RV),(84,eB),(85,XO),(83,LI)]
def XR7:A3:=X7 [(148,rZ),(20,S2),(19,QB),(86,bS)]
def XR8:A3:=X7 [(21,eQ),(79,Rl),(127,Mh),(52,WA),(53,cS),(54,XG)]
def Wc:Ao:=⟨[],fun _=>true,[.bool],fun _=>true,false⟩
theorem iR:Ag Bf 8 Wc:=by
 refine .of0 ⟨by kernel_rfl,BA (by kernel_rfl),fun F h args i hfz hlt hgh hargs _=>?_⟩;have ha:args=[]:=by
  have:=hargs (fun _=>none) 0;simpa [Af,Wc]using this
 subst ha;refine⟨[(.bool true,h)],1,fun m hm=>?_,fun _=>⟨_,rfl⟩,fun x hx=>?_⟩
 ·obtain⟨m',rfl⟩:∃m',m=m'+1:=⟨m-1,by omega⟩;have hq:Bf.spec 8=some fun args h=>bif mE h FN then(match It A7 8 args with|some v=>some (v,h)|none=>none)else none:=rfl
  rw[Bi];simp only[hq,wD hgh,we];rfl
 ·cases List.mem_singleton.1 hx;exact⟨qo _,fun _ _=>rfl,hlt,F,fun _ _ h=>h,fun _ _ h=>.inl h,hfz,fun ρ N=>DD _⟩
end Go.Pe
namespace Go.Sp
def NL(a:AU):Int:=if Br (Ae (vI a))=[]then 0 else 64*((Br (Ae (vI a))).length-1)+EL ((Br (Ae (vI a))).getD ((Br (Ae (vI a))).length-1) 0)
def Ej(a:AU):Bool:=PU (vI a)
def H7(a:An):Bool:=Ej a.1||Ej a.2
def Jx(a:An):List UInt8:=if CN a.2=true then AW (vI a.1)else AW (vI a.1)++47::AW (vI a.2)
def JH(a:An):List UInt8:=if H7 a=true then[]else Jx a
def Hy(a:An):Int:=if H7 a=true then 4 else 0
def Cf:List (List UInt8)->Int
 |[]=>0
 |s::l=>if AG s≠0 then AG s else Cf l
def P7(a:An):Int:=P8 (vI a.1)
def K1(a b:List UInt8):Int:=Cf [a,b]
def Zj(e:Int)(q:Rat):List UInt8:=if e≠0 then[]else if M0 q=true then[]else AO q
def ZX(e:Int)(q:Rat):Int:=if e≠0 then e else if M0 q=true then 4 else 0
def Gg(a:List UInt8)(e:Int)(w:List UInt8)(bad:Int):Bool:=if (if bad=0 then ET w else bad)≠0 then decide (a=[])&&decide (e=(if bad=0 then ET w else bad))else decide (e=0)&&decide (a=w)
end Go.Sp
namespace Go.Pe
open Sp
open Go.Det
def aW:Ao:=⟨[BJ],fun a=>Ba a,[i64],fun a=>NL a,false⟩
def XW:Ao:=⟨[BJ],fun a=>Ba a,[.bool],fun a=>Ej a,false⟩
def RH:Ao:=⟨[.str,.str],fun i=>SB i.1 i.2,[.str],fun i=>AZ i.1,false⟩
def Xs:Ao:=⟨[Bh],fun a=>kc (a:An),[.bool],fun a=>H7 a,false⟩
def cA:Ao:=⟨[Bh],fun a=>kc (a:An),[.str],fun a=>Jx a,false⟩
def Xp:Ao:=⟨[Bh],fun a=>kc (a:An),[.str,i64],fun a=>(JH a,Hy a),false⟩
def qW:Ao:=⟨[Bh],fun a=>Sp.Db (a:An).1,[i64],fun a=>P7 a,false⟩
def XX0:A3:=X7 []
def XX1:A3:=X7 [(189,Oc),(244,Wv)]
def zJ:A3:=X7 [(219,aW),(193,wP),(183,RH)]
def XX2:A3:=X7 [(192,XW),(145,PH),(193,wP)]
def XX3:A3:=X7 [(69,Fc),(137,JL)]
end Go.Pe
namespace Go.Sp
abbrev BH:=List UInt8×List UInt8
def FI(s:List UInt8):An:=((Mc s,Po s),(J3 s,LQ s))
def JQ(k:Nat)(t:List BH):Bool:=t.all fun p=>decide (p.1.length<=k)&&decide (p.2.length<=k)
end Go.Sp
namespace Go.Pe
open Go.Det
abbrev Pf:Sh:=.pair .str .str
end Go.Pe
namespace Go.Sp
theorem Ty(q:Rat):Mo (AO q)=zj q.den:=by
 obtain⟨_,c2,c3⟩:=GK q;unfold Mo;rw[c2,c3];by_cases h:q.den=1
 ·rw[wc (by simpa using h),h,jc (by decide)];rfl
 ·rw[wd (w4 h),wc h]
theorem VT(q:Rat):ET (AO q)=if M0 q=true then 4 else 0:=by
 obtain⟨c1,_,_⟩:=GK q;unfold ET;rw[Ty,c1,(DK q.num).2.1];have hb:M0 q=true↔600<(zj q.num.natAbs).length\/600<(zj q.den).length:=by
  unfold M0 PU;rw[Bool.or_eq_true,w5,w5,qd]
 by_cases h:M0 q=true
 ·rw[wd (hb.1 h),wd h]
 ·rw[wc (fun k=>h (hb.2 k)),wc h]
theorem lJ(q:Rat):Gg (Zj 0 q) (ZX 0 q) (AO q) 0=true:=by
 unfold Gg Zj ZX;rw[VT];by_cases h:M0 q=true
 ·simp[h]
 ·simp[h]
theorem T1{e:Int}(h:e≠0)(q:Rat)(w:List UInt8):Gg (Zj e q) (ZX e q) w e=true:=by
 unfold Gg Zj ZX;simp[h]
theorem Yb(a b:List UInt8):K1 a b=if AG a≠0 then AG a else AG b:=by
 show(if AG a≠0 then AG a else if AG b≠0 then AG b else 0)=_;by_cases h:AG a≠0
 ·rw[wd h,wd h]
 ·rw[wc h,wc h];by_cases k:AG b≠0
  ·rw[wd k]
  ·rw[wc k];omega
theorem QS{a b:List UInt8}(h:K1 a b=0):AG a=0/\AG b=0:=by
 rw[Yb]at h;by_cases k:AG a≠0
 ·rw[wd k]at h;exact wh h k
 ·rw[wc k]at h;exact⟨by omega,h⟩
theorem Q6:AO 0=[48]:=by
 unfold AO;rw[wd (show Rat.den 0=1 from rfl)];show j5 0=[48];unfold j5;rw[wc (by decide),show(0:Int).toNat=0 from rfl,jc (by decide)];rfl
theorem GR{s:List UInt8}(h:Bt s=true):s=[48]↔Aw s=0:=by
 obtain⟨h1,_⟩:=FV h;constructor
 ·rintro rfl;rw[<-Q6,CW]
 ·intro e;rw[<-h1,e,Q6]
theorem Ke{s:List UInt8}(h:E0 s=true):Bt s=true/\s.length<=3000:=by
 unfold E0 at h;rwa [zh,w5]at h
theorem vG{s:List UInt8}(h:E0 s=true)(h0:s≠[48]):ZZ s=true:=by
 unfold ZZ;rw[h,qc];exact w4 fun e=>h0 ((GR (Ke h).1).2 e)
theorem aO{s:List UInt8}(h:ZZ s=true):E0 s=true/\Aw s≠0:=by
 unfold ZZ at h;rwa [zh,w5]at h
theorem cM{q:Rat}{k:Nat}(h:Dh k q)(hk:k<=400000):(AO q).length<=1000000:=by
 have:=OA (h.mono (show k<=k+1 by omega)) (by omega);omega
structure Nu(k:Nat)(s:List UInt8)(q:Rat):Prop where
 t:s=AO q
 z:Dh k q
theorem Nu.mono{i j:Nat}{s:List UInt8}{q:Rat}(h:Nu i s q)(k:i<=j):Nu j s q:=⟨h.t,h.z.mono k⟩
theorem Nu.rat{k:Nat}{s:List UInt8}{q:Rat}(h:Nu k s q):Aw s=q:=by rw[h.t,CW]
theorem pY{k:Nat}{q:Rat}(h:Dh k q)(hk:k<=600):M0 q=false:=Wf.2 (h.mono hk)
theorem Nu.num{k:Nat}{s:List UInt8}{q:Rat}(h:Nu k s q)(hk:k<=1999):Bt s=true:=by rw[h.t];exact Qy h.z hk
theorem Nu.E0{k:Nat}{s:List UInt8}{q:Rat}(h:Nu k s q)(hk:k<=1400):Sp.E0 s=true:=by
 unfold Sp.E0;rw[h.num (by omega),qc,w5,h.t];have:=OA (h.z.mono (show k<=k+1 by omega)) (by omega);omega
theorem eT{k:Nat}{q:Rat}(h:Dh k q)(hk:k<=600):Zj 0 q=AO q/\ZX 0 q=0:=by
 unfold Zj ZX;rw[pY h hk];exact⟨rfl,rfl⟩
theorem Nu.GR{k:Nat}{s:List UInt8}{q:Rat}(h:Nu k s q)(hk:k<=1999):s=[48]↔q=0:=by
 rw[Sp.GR (h.num hk),h.rat]
theorem YC(n:Int):AW n=AO (n:Rat):=by
 unfold AO AW;rw[wd (Rat.den_intCast ..),Rat.num_intCast]
theorem Nu.EH{i j:Nat}{a b:List UInt8}{p q:Rat}(ha:Nu i a p)(hb:Nu j b q):Nu (i+j+1) (Sp.EH a b) (p+q):=⟨by unfold Sp.EH;rw[ha.rat,hb.rat],ha.z.add hb.z⟩
theorem Nu.Ie{i j:Nat}{a b:List UInt8}{p q:Rat}(ha:Nu i a p)(hb:Nu j b q):Nu (i+j+1) (Sp.Ie a b) (p-q):=⟨by unfold Sp.Ie;rw[ha.rat,hb.rat],ha.z.sub hb.z⟩
theorem Nu.Es{i j:Nat}{a b:List UInt8}{p q:Rat}(ha:Nu i a p)(hb:Nu j b q):Nu (i+j) (Sp.Es a b) (p*q):=⟨by unfold Sp.Es;rw[ha.rat,hb.rat],ha.z.mul hb.z⟩
theorem Nu.Kl{i j:Nat}{a b:List UInt8}{p q:Rat}(ha:Nu i a p)(hb:Nu j b q)(h0:q≠0):Nu (i+j) (Sp.Kl a b) (p/q):=⟨by unfold Sp.Kl;rw[ha.rat,hb.rat],ha.z.div hb.z h0⟩
def Ml(D:Int)(q:Rat):Prop:=∃z:Int,q*(D:Rat)=(z:Rat)
theorem Ml.add{D:Int}{p q:Rat}:Ml D p->Ml D q->Ml D (p+q)
 |⟨y,hy⟩,⟨z,hz⟩=>⟨y+z,by rw[Rat.add_mul,hy,hz,Rat.intCast_add]⟩
theorem Ml.neg{D:Int}{p:Rat}:Ml D p->Ml D (-p)
 |⟨y,hy⟩=>⟨-y,by rw[qp,hy,jl]⟩
theorem Ml.sub{D:Int}{p q:Rat}(hp:Ml D p)(hq:Ml D q):Ml D (p-q):=by
 rw[Rat.sub_eq_add_neg];exact hp.add hq.neg
theorem Ml.mul{D E:Int}{p q:Rat}:Ml D p->Ml E q->Ml (D*E) (p*q)
 |⟨y,hy⟩,⟨z,hz⟩=>⟨y*z,by rw[zl,zl, <-hy, <-hz,zu,zu, <-zu q,qv q,zu]⟩
theorem Ml.left{D:Int}{p:Rat}(E:Int):Ml D p->Ml (E*D) p
 |⟨y,hy⟩=>⟨y*E,by rw[zl,zl,qv (E:Rat), <-zu,hy]⟩
theorem Ml.right{D:Int}{p:Rat}(E:Int):Ml D p->Ml (D*E) p
 |⟨y,hy⟩=>⟨y*E,by rw[zl,zl, <-zu,hy]⟩
theorem Ml.zero{D:Int}:Ml D 0:=⟨0,Rat.zero_mul _⟩
theorem OP(q:Rat):q*((q.den:Int):Rat)=(q.num:Rat):=by
 have e:(q.num:Rat)/((q.den:Int):Rat)=q:=by rw[<-je,Rat.num_divInt_den]
 have:=qe (a:=(q.num:Rat)) (b:=((q.den:Int):Rat)) fun x=>Hz q (yt.1 x)
 rwa [e]at this
theorem vY(q:Rat):Ml (q.den:Int) q:=⟨q.num,OP q⟩
theorem Ml.div{D n:Int}{p:Rat}(hn:n≠0):Ml D p->Ml (n*D) (p/(n:Rat))
 |⟨y,hy⟩=>⟨y,by
  have hn:(n:Rat)≠0:=fun x=>hn (yt.1 x)
  rw[zl, <-zu,qe hn,hy]⟩
def F7(B:Int)(q:Rat):Prop:=(-(B:Rat))<=q/\q<=(B:Rat)
theorem aX{a b c d:Rat}(h:a<=b)(k:c<=d):a+c<=b+d:=qw (Rat.add_le_add_right.2 h) (Rat.add_le_add_left.2 k)
theorem F7.add{A B:Int}{p q:Rat}(hp:F7 A p)(hq:F7 B q):F7 (A+B) (p+q):=by
 unfold F7;rw[Rat.intCast_add,Rat.neg_add];exact⟨aX hp.1 hq.1,aX hp.2 hq.2⟩
theorem F7.neg{B:Int}{q:Rat}(h:F7 B q):F7 B (-q):=⟨qi h.2,Rat.neg_le_iff.1 h.1⟩
theorem F7.sub{A B:Int}{p q:Rat}(hp:F7 A p)(hq:F7 B q):F7 (A+B) (p-q):=by
 rw[Rat.sub_eq_add_neg];exact hp.add hq.neg
theorem F7.mono{A B:Int}{q:Rat}(h:F7 A q)(k:A<=B):F7 B q:=
 ⟨qw (qi (yb.2 k)) h.1,qw h.2 (yb.2 k)⟩
theorem Ml.int{D B z:Int}{q:Rat}(hD:0<=D)(hz:q*(D:Rat)=(z:Rat))(hB:F7 B q): -(B*D)<=z/\z<=B*D:=by
 have h0:(0:Rat)<=(D:Rat):=Rat.intCast_nonneg.2 hD;have h1:=yc hB.1 h0;have h2:=yc hB.2 h0;rw[hz,qp, <-zl]at h1;rw[hz, <-zl]at h2;have h1:((-(B*D):Int):Rat)<=(z:Rat):=by rw[jl];exact h1
 exact⟨yb.1 h1,yb.1 h2⟩
theorem Ml.sz{D B:Int}{q:Rat}{k:Nat}(h:Ml D q)(hD:0<D)(hB:F7 B q)(h1:B*D<(10:Int)^k)(h2:D<(10:Int)^k):Dh k q:=by
 obtain⟨z,hz⟩:=h;have hb:=Ml.int (zk hD) hz hB;have hn:(D:Rat)≠0:=fun x=>by have:=yt.1 x;omega
 have e:q=Rat.divInt z D:=by rw[je, <-hz,Rat.mul_div_cancel hn]
 have c:(10:Int)^k=((10^k:Nat):Int):=by rw[zx];rfl
 rw[e];rw[c]at h1 h2;exact Fq (by omega) (by omega) (by omega)
def JI:List Rat->Int
 |[]=>1
 |q::l=>(q.den:Int)*JI l
theorem TU:∀l:List Rat,0<JI l
 |[]=>by decide
 |q::l=>yf (by have:=q.den_pos;omega) (TU l)
theorem Sr:∀ {l:List Rat},∀q∈l,Ml (JI l) q
 |_::_,q,h=>by
  rcases List.mem_cons.1 h with rfl|h
  ·exact(vY q).right _
  ·exact(Sr q h).left _
theorem Xu{k:Nat}:∀ {l:List Rat},(∀q∈l,Dh k q)->JI l<=((10:Int)^k)^l.length
 |[],_=>by show(1:Int)<=_^0;rw[j6];exact Int.le_refl _
 |q::l,h=>by
  have h1:=Xu fun x hx=>h x (zz _ hx)
  have h2:=(h q (zt ..)).2;have c:(10:Int)^k=((10^k:Nat):Int):=by rw[zx];rfl
  rw[JI,yd,ji,Int.mul_comm];exact yu h1 (by rw[c];omega) (by omega) (yz (yz (by decide)))
def C5:List Rat->Rat
 |[]=>0
 |q::l=>q+C5 l
theorem fU{D:Int}:∀ {l:List Rat},(∀q∈l,Ml D q)->Ml D (C5 l)
 |[],_=>Ml.zero
 |q::_,h=>(h q (zt ..)).add (fU fun x hx=>h x (zz _ hx))
theorem fL{B:Int}:∀ {l:List Rat},(∀q∈l,F7 B q)->F7 (l.length*B) (C5 l)
 |[],_=>by
  show F7 (0*B) 0;rw[Int.zero_mul];exact⟨by decide+kernel,by decide+kernel⟩
 |q::l,h=>by
  have:=(h q (zt ..)).add (fL fun x hx=>h x (zz _ hx));rw[show(((q::l).length:Nat):Int)*B=B+l.length*B by rw[yd,Int.natCast_add,Int.add_mul,Int.add_comm];congr 1;exact qh B];exact this
theorem sJ{k:Nat}{q:Rat}(h:Dh k q):F7 ((10:Int)^k) q:=by
 have c:(10:Int)^k=((10^k:Nat):Int):=by rw[zx];rfl
 have h1:=h.1;have h2:=q.den_pos;have hd:(0:Rat)<((q.den:Int):Rat):=qt.2 (by omega);have h3:(10^k:Nat)<=10^k*q.den:=Nat.le_mul_of_pos_right _ h2;have h4:(((10^k*q.den:Nat):Int))=(10:Int)^k*(q.den:Int):=by rw[c];exact Int.natCast_mul ..
 constructor
 ·refine yo (c:=((q.den:Int):Rat)) ?_ hd;rw[OP,qp, <-zl, <-jl];exact yb.2 (by rw[<-h4];omega)
 ·refine yo (c:=((q.den:Int):Rat)) ?_ hd;rw[OP, <-zl];exact yb.2 (by rw[<-h4];omega)
theorem Oi{A B:Int}{p q:Rat}(hA:0<=A)(hp:F7 A p)(h0:0<=q)(hq:q<=(B:Rat)):F7 (A*B) (p*q):=by
 have a0:(0:Rat)<=(A:Rat):=Rat.intCast_nonneg.2 hA;have h1:=yc hp.1 h0;have h2:=yc hp.2 h0;have h3:=Rat.mul_le_mul_of_nonneg_left hq a0;unfold F7;rw[zl];refine⟨qw ?_ h1,qw h2 h3⟩;rw[qp];exact qi h3
theorem F7.mul{A B:Int}{p q:Rat}(hA:0<=A)(hp:F7 A p)(hq:F7 B q):F7 (A*B) (p*q):=by
 rcases Rat.le_total (a:=0) (b:=q)with h|h
 ·exact Oi hA hp h hq.2
 ·have h':0<= -q:=by have:=qi h;rwa [Rat.neg_zero]at this
  have:=(Oi hA hp h' (Rat.neg_le_iff.1 hq.1)).neg;rwa [Rat.mul_neg,Rat.neg_neg]at this
theorem F7.div{B n:Int}{q:Rat}(hn:0<n)(h:F7 (n*B) q):F7 B (q/(n:Rat)):=by
 have h0:(0:Rat)<(n:Rat):=qt.2 hn;have e:=qe (a:=q) (Rat.ne_of_gt h0);unfold F7 at h;rw[zl]at h;constructor
 ·refine yo ?_ h0;rw[e,qp,qv];exact h.1
 ·refine yo ?_ h0;rw[e,qv];exact h.2
def BM(l:List Rat):Rat:=C5 l/((l.length:Int):Rat)
def Dn(a b:Rat):List (Rat×Rat)->Rat
 |[]=>0
 |p::l=>(p.1-a)*(p.2-b)+Dn a b l
def CH(a:Rat):List (Rat×Rat)->Rat
 |[]=>0
 |p::l=>(p.1-a)*(p.1-a)+CH a l
def GA(l:List (Rat×Rat)):Rat:=Dn (BM (l.map zq)) (BM (l.map qj)) l/CH (BM (l.map zq)) l
def Zq(l:List (Rat×Rat)):Rat:=BM (l.map qj)-GA l*BM (l.map zq)
def P1(a b:Rat):List (Rat×Rat)->Rat
 |[]=>0
 |p::l=>(p.2-(a*p.1+b))*(p.2-(a*p.1+b))+P1 a b l
theorem Kh{D E:Int}{a b:Rat}:∀ {l:List (Rat×Rat)},(∀p∈l,Ml D (p.1-a)/\Ml E (p.2-b))->Ml (D*E) (Dn a b l)
 |[],_=>Ml.zero
 |p::_,h=>((h p (zt ..)).1.mul (h p (zt ..)).2).add (Kh fun x hx=>h x (zz _ hx))
theorem Ld{A B:Int}(hA:0<=A){a b:Rat}:∀ {l:List (Rat×Rat)},(∀p∈l,F7 A (p.1-a)/\F7 B (p.2-b))->F7 (l.length*(A*B)) (Dn a b l)
 |[],_=>by
  show F7 (0*_) 0;rw[Int.zero_mul];exact⟨by decide+kernel,by decide+kernel⟩
 |p::l,h=>by
  have:=(F7.mul hA (h p (zt ..)).1 (h p (zt ..)).2).add (Ld hA fun x hx=>h x (zz _ hx));rw[show(((p::l).length:Nat):Int)*(A*B)=A*B+l.length*(A*B)by rw[yd,Int.natCast_add,Int.add_mul,Int.add_comm];congr 1;exact qh _];exact this
theorem IY(a:Rat):∀l:List (Rat×Rat),CH a l=Dn a a (l.map fun p=>(p.1,p.1))
 |[]=>rfl
 |p::l=>by
  show _+CH a l=_+Dn a a (l.map fun p=>(p.1,p.1));rw[IY a l]
theorem MH(a:Rat):∀l:List (Rat×Rat),0<=CH a l
 |[]=>Rat.le_refl
 |p::l=>by
  refine Rat.add_nonneg ?_ (MH a l);rcases Rat.le_total (a:=0) (b:=p.1-a)with h|h
  ·exact Rat.mul_nonneg h h
  ·have h':0<= -(p.1-a):=by have:=qi h;rwa [Rat.neg_zero]at this
   have:=Rat.mul_nonneg h' h';rwa [qp,Rat.mul_neg,Rat.neg_neg]at this
theorem lN{p q:Rat}{D E C:Int}{a c:Nat}(hp:Ml (D*E) p)(hq:Ml (D*D) q)(h0:0<q)(bp:F7 C p)(bq:F7 C q)(hD:0<D)(hE:0<E)(D1:D<=(10:Int)^a)(E1:E<=(10:Int)^a)(C1:C<=(10:Int)^c):Dh (c+a+a+a+1) (p/q):=by
 obtain⟨u,hu⟩:=hp;obtain⟨v,hv⟩:=hq;have hDE:0<D*E:=yf hD hE;have hDD:0<D*D:=yf hD hD;have bu:=Ml.int (zk hDE) hu bp;have bv:=Ml.int (zk hDD) hv bq;have v0:0<v:=by
  have:=Rat.mul_pos h0 (qt.2 hDD);rw[hv]at this;exact qt.1 this
 have vE:0<v*E:=yf v0 hE;have e1:p/q*((v*E:Int):Rat)=((u*D:Int):Rat):=by
  have e:=qe (a:=p) (Rat.ne_of_gt h0);rw[zl,zl, <-hv, <-hu, <-zu, <-zu,e,zl,zl,zu,zu,zu,zu,qv (D:Rat) (E:Rat)]
 have hn:((v*E:Int):Rat)≠0:=fun x=>by have:=yt.1 x;omega
 have e:p/q=Rat.divInt (u*D) (v*E):=by rw[je, <-e1,Rat.mul_div_cancel hn]
 have p0:(0:Int)<=10^a:=yz (by decide);have q0:(0:Int)<=10^c:=yz (by decide);have top:∀ {X Y Z:Int},0<=X->0<=Y->0<=Z->X<=10^a->Y<=10^a->Z<=10^a->C*(X*Y)*Z<((10^(c+a+a+a+1):Nat):Int):=fun {X Y Z} x0 y0 z0 x1 y1 z1=>by
  have k1:X*Y<=(10:Int)^a*10^a:=yu x1 y1 y0 p0;have k2:C*(X*Y)<=(10:Int)^c*(10^a*10^a):=yu C1 k1 (yp x0 y0) q0;have k3:C*(X*Y)*Z<=(10:Int)^c*(10^a*10^a)*10^a:=yu k2 z1 z0 (yp q0 (yp p0 p0));have k4:((10^(c+a+a+a+1):Nat):Int)=(10:Int)^c*(10^a*10^a)*10^a*10:=by
   rw[zx,show((10:Nat):Int)=10 from rfl,ji,y7,y7,y7,Int.mul_assoc ((10:Int)^c)]
  have k5:0<(10:Int)^c*(10^a*10^a)*10^a:=yf (yf (yg (by decide)) (yf (yg (by decide)) (yg (by decide)))) (yg (by decide));omega
 rw[e];refine Fq (by omega) ?_ ?_
 ·have l1:=zn bu.1 (zk hD);have l2:=zn bu.2 (zk hD);have l3:=top (zk hD) (zk hE) (zk hD) D1 E1 D1;rw[Int.neg_mul]at l1;omega
 ·have l2:=zn bv.2 (zk hE);have l3:=top (zk hD) (zk hD) (zk hE) D1 D1 E1;omega
structure Qe(k n:Nat)(l:List (Rat×Rat)):Prop where
 pos:0<l.length
 le:l.length<=n
 sz:∀p∈l,Dh k p.1/\Dh k p.2
theorem FD{k n a:Nat}{x:List Rat}(h0:0<x.length)(hn:x.length<=n)(hs:∀q∈x,Dh k q)(ha:(n:Int)*((10:Int)^k)^n<=(10:Int)^a):
  0<(x.length:Int)*JI x/\(x.length:Int)*JI x<=(10:Int)^a/\Ml ((x.length:Int)*JI x) (BM x)/\F7 ((10:Int)^k) (BM x)/\∀q∈x,Ml ((x.length:Int)*JI x) (q-BM x)/\F7 (2*(10:Int)^k) (q-BM x):=by
 have hl:(0:Int)<x.length:=by omega
 have d0:=TU x;have d1:=Xu hs;have hm:Ml ((x.length:Int)*JI x) (BM x):=Ml.div (by omega) (fU fun q hq=>Sr q hq);have hb:F7 ((10:Int)^k) (BM x):=F7.div hl (fL fun q hq=>sJ (hs q hq));have t0:(0:Int)<10^k:=yg (by decide);have d2:((10:Int)^k)^x.length<=((10:Int)^k)^n:=by
  obtain⟨j,rfl⟩:∃j,n=x.length+j:=⟨n-x.length,by omega⟩;rw[y7];have:(1:Int)<=((10:Int)^k)^j:=by have:0<((10:Int)^k)^j:=yg t0;omega
  have:=zw this (zk (yg t0:0<((10:Int)^k)^x.length));rwa [jm]at this
 refine⟨yf hl d0,j7 (yu (by omega) (j7 d1 d2) (by omega) (by omega)) ha,hm,hb,fun q hq=>⟨((Sr q hq).left _).sub hm,?_⟩⟩;have:=(sJ (hs q hq)).sub hb;rwa [show(10:Int)^k+10^k=2*10^k by omega]at this
theorem OV{k n a c:Nat}{l:List (Rat×Rat)}(h:Qe k n l)(ha:(n:Int)*((10:Int)^k)^n<=(10:Int)^a)(hc:(n:Int)*(2*(10:Int)^k*(2*(10:Int)^k))<=(10:Int)^c)(hw:CH (BM (l.map zq)) l≠0):Dh (c+a+a+a+1) (GA l):=by
 have lx:(l.map zq).length=l.length:=yi ..;have ly:(l.map qj).length=l.length:=yi ..;obtain⟨x0,x1,x2,x3,x4⟩:=FD (x:=l.map zq) (by rw[lx];exact h.pos) (by rw[lx];exact h.le) (fun q hq=>by obtain⟨p,hp,rfl⟩:=zm.1 hq;exact(h.sz p hp).1) ha;obtain⟨y0,y1,y2,y3,y4⟩:=FD (x:=l.map qj) (by rw[ly];exact h.pos) (by rw[ly];exact h.le) (fun q hq=>by obtain⟨p,hp,rfl⟩:=zm.1 hq;exact(h.sz p hp).2) ha;have t0:(0:Int)<=2*10^k:=yp (by decide) (yz (by decide));have tt:(0:Int)<=2*10^k*(2*10^k):=yp t0 t0;have lt:(l.length:Int)*(2*10^k*(2*10^k))<=(n:Int)*(2*10^k*(2*10^k)):=zn (by have:=h.le;omega) tt;have b1:=Kh (l:=l) fun p hp=>⟨(x4 p.1 (zm.2 ⟨p,hp,rfl⟩)).1,(y4 p.2 (zm.2 ⟨p,hp,rfl⟩)).1⟩
 have b2:=(Ld t0 (l:=l) fun p hp=>⟨(x4 p.1 (zm.2 ⟨p,hp,rfl⟩)).2,(y4 p.2 (zm.2 ⟨p,hp,rfl⟩)).2⟩).mono lt;have w1:Ml (((l.map zq).length:Int)*JI (l.map zq)*(((l.map zq).length:Int)*JI (l.map zq))) (CH (BM (l.map zq)) l):=by
  rw[IY];exact Kh fun p hp=>by
   obtain⟨r,hr,rfl⟩:=zm.1 hp;have:=(x4 r.1 (zm.2 ⟨r,hr,rfl⟩)).1;exact⟨this,this⟩
 have w2:F7 ((n:Int)*(2*10^k*(2*10^k))) (CH (BM (l.map zq)) l):=by
  rw[IY];refine(Ld t0 fun p hp=>?_).mono (by rw[yi];exact lt);obtain⟨r,hr,rfl⟩:=zm.1 hp;have:=(x4 r.1 (zm.2 ⟨r,hr,rfl⟩)).2;exact⟨this,this⟩
 have wp:0<CH (BM (l.map zq)) l:=Rat.lt_of_le_of_ne (MH _ _) (fun e=>hw e.symm);exact lN b1 w1 wp b2 w2 x0 y0 x1 y1 hc
theorem Um(a b:Rat):∀l k:List (Rat×Rat),Dn a b (l++k)=Dn a b l+Dn a b k
 |[],k=>(Rat.zero_add _).symm
 |p::l,k=>by
  rw[List.cons_append,Dn,Dn,Um a b l k];grind
theorem dX(a b:Rat):∀l k:List (Rat×Rat),P1 a b (l++k)=P1 a b l+P1 a b k
 |[],k=>(Rat.zero_add _).symm
 |p::l,k=>by
  rw[List.cons_append,P1,P1,dX a b l k];grind
def HN(w:List UInt8):Nat:=max (AZ (Ay w)).length (Mo w).length
def qK:List BH->Int
 |[]=>0
 |p::l=>if K1 p.1 p.2≠0 then K1 p.1 p.2 else qK l
def B4(l:List BH):Int:=if l=[]then 12 else if 256<l.length then 5 else qK l
def AS(l:List BH):List (Rat×Rat):=l.map fun p=>(Aw p.1,Aw p.2)
def Gq(l:List BH):Rat:=CH (BM ((AS l).map zq)) (AS l)
def GD(l:List BH):Int:=if B4 l≠0 then B4 l else if Gq l=0 then 14 else 0
def Jj(l:List BH):List UInt8:=if GD l=0 then AO (GA (AS l))else[]
def Jk(l:List BH):List UInt8:=if GD l=0 then AO (Zq (AS l))else[]
def K9(l:List BH):Bool:=decide (Gq l≠0)
def MU(l:List BH):List UInt8:=if Gq l=0 then[]else AO (GA (AS l))
def MO(l:List BH):List UInt8:=if Gq l=0 then[]else AO (Zq (AS l))
def Jm(l:List BH):Bool:=decide (l.length<=10)&&l.all fun p=>decide (HN p.1<=10)&&decide (HN p.2<=10)
def PQ(l:List BH):Bool:=decide (l.length<=1000000)&&JQ 1000000 l&&(decide (B4 l≠0)||Jm l)
def SX(l:List BH)(a b:List UInt8):Int:=if B4 l≠0 then B4 l else K1 a b
def sqV(l:List BH)(a b:List UInt8):Rat:=P1 (Aw a) (Aw b) (AS l)
def rM(l:List BH)(a b:List UInt8):List UInt8:=Zj (SX l a b) (sqV l a b)
def rH(l:List BH)(a b:List UInt8):Int:=ZX (SX l a b) (sqV l a b)
def xD(l:List BH)(a b:List UInt8):List UInt8:=AO (sqV l a b)
def MZ(a b:Rat)(l:List (Rat×Rat)):Bool:=(List.range (l.length+1)).all fun i=>E0 (AO (P1 a b (l.take i)))
def nP(l:List BH)(a b:List UInt8):Bool:=Jm l&&decide (HN a<=350)&&decide (HN b<=560)&&MZ (Aw a) (Aw b) (AS l)
def Qc(l:List BH)(a b:List UInt8):Bool:=decide (l.length<=1000000)&&JQ 1000000 l&&decide (a.length<=1000000)&&decide (b.length<=1000000)&&(decide (SX l a b≠0)||nP l a b)
def Sl:List (List UInt8)->Nat
 |[]=>0
 |s::l=>(if AG s=0 then HN s else 0)+1+Sl l
def F6(l:List (List UInt8)):Int:=if l=[]then 12 else if 256<l.length then 5 else Cf l
def JB(l:List (List UInt8)):List Rat:=l.map Aw
def wQ(l:List (List UInt8)):Rat:=BM (JB l)
def fW(l:List (List UInt8)):List UInt8:=AO (wQ l)
def T7(l:List (List UInt8)):Bool:=decide (l.length<=1000000)&&(l.all fun s=>decide (s.length<=1000000))&&(decide (F6 l≠0)||decide (Sl l<=1900))
def tS(p:BH)(x:An):An:=G6 (FM (FI p.1) x) (FM (FI p.1) x)
def tG(p:BH)(x y:An):An:=G6 (FM (FI p.1) x) (FM (FI p.2) y)
def dF(p:BH)(a b:An):An:=FM (FI p.2) (Gs (G6 a (FI p.1)) b)
def sM(p:BH)(a b:An):An:=G6 (dF p a b) (dF p a b)
def okW(p:BH)(x:An):Bool:=Dd p.1&&BK (FI p.1)&&BK x&&BK (FM (FI p.1) x)
def okB(p:BH)(x y:An):Bool:=Dd p.1&&Dd p.2&&BK (FI p.1)&&BK (FI p.2)&&BK x&&BK y&&BK (FM (FI p.1) x)&&BK (FM (FI p.2) y)
def xV(p:BH)(a b:An):Bool:=Dd p.1&&Dd p.2&&BK (FI p.1)&&BK (FI p.2)&&BK a&&BK b&&BK (G6 a (FI p.1))&&BK (Gs (G6 a (FI p.1)) b)&&BK (dF p a b)
def VE(n:Int):Bool:=decide (n.natAbs<9223372036854775808)
def pL(n:Int):List UInt8:=AO ((n:Int):Rat)
def Ef(n m:Int):Int:=if n=0 then 12 else if m<n then 5 else 0
end Go.Sp
namespace Go.Pe
open Sp
open Go.Det
abbrev gF:Sh:=.ptr Bh
def cXa:Ao:=⟨[Pf],fun p=>Dd p.1,[Bh],fun p=>((Mc p.1,Po p.1),(J3 p.1,LQ p.1)),false⟩
def cXb:Ao:=⟨[Pf],fun p=>Dd p.2,[Bh],fun p=>((Mc p.2,Po p.2),(J3 p.2,LQ p.2)),false⟩
def cWd:Ao:=⟨[Pf,gF],fun i=>Sp.okW i.1 i.2,[Bh],fun i=>((Sp.nS (tS i.1 i.2),Sp.nW (tS i.1 i.2)),(Sp.dS (tS i.1 i.2),Sp.dW (tS i.1 i.2))),false⟩
def cBt:Ao:=⟨[Pf,gF,gF],fun i=>Sp.okB i.1 i.2.1 i.2.2,[Bh],fun i=>((Sp.nS (tG i.1 i.2.1 i.2.2),Sp.nW (tG i.1 i.2.1 i.2.2)),(Sp.dS (tG i.1 i.2.1 i.2.2),Sp.dW (tG i.1 i.2.1 i.2.2))),false⟩
def cMs:Ao:=⟨[Pf,gF,gF],fun i=>xV i.1 i.2.1 i.2.2,[Bh],fun i=>((Sp.nS (sM i.1 i.2.1 i.2.2),Sp.nW (sM i.1 i.2.1 i.2.2)),(Sp.dS (sM i.1 i.2.1 i.2.2),Sp.dW (sM i.1 i.2.1 i.2.2))),false⟩
def Z7:Ao:=⟨[Bh],fun _=>true,[Bh],fun a=>((a.1.1,a.1.2),(a.2.1,a.2.2)),false⟩
def aY:Ao:=⟨[i64,i64],fun _=>true,[i64],fun i=>Ef i.1 i.2,false⟩
def Yy:Ao:=⟨[.list Pf],fun l=>decide (jo (α:=BH) l<=1000000)&&JQ 1000000 l,[i64],fun l=>B4 l,false⟩
def fI:Ao:=⟨[.list Pf],fun l=>PQ l,[.str,.str,i64],fun l=>(Jj l,Jk l,GD l),false⟩
def WS:Ao:=⟨[.list Pf],fun l=>PQ l&&decide (B4 l=0),[.str,.str,.bool],fun l=>(MU l,MO l,K9 l),false⟩
def cSq:Ao:=⟨[.list Pf,.str,.str],fun i=>Qc i.1 i.2.1 i.2.2,[.str,i64],fun i=>(rM i.1 i.2.1 i.2.2,rH i.1 i.2.1 i.2.2),false⟩
def tF:Ao:=⟨[.list Pf,.str,.str],fun i=>Qc i.1 i.2.1 i.2.2&&decide (SX i.1 i.2.1 i.2.2=0),[.str],fun i=>xD i.1 i.2.1 i.2.2,false⟩
def bQ:Ao:=⟨[.list .str],fun l=>decide (jo (α:=List UInt8) l<=1000000)&&List.all (α:=List UInt8) l (fun s=>decide (s.length<=1000000)),[i64],fun l=>F6 l,false⟩
def sP:Ao:=⟨[.list .str],fun l=>decide (jo (α:=List UInt8) l<=1000000)&&List.all (α:=List UInt8) l (fun s=>decide (s.length<=1000000)),[i64],fun l=>Cf l,false⟩
def Aad:Ao:=⟨[.list .str],fun l=>T7 l&&decide (F6 l=0),[.str],fun l=>fW l,false⟩
def Qz:Ao:=⟨[.str,i64,i64,.str],fun i=>decide (jo (α:=UInt8) i.2.2.2<=1000000),[.bool],fun i=>Gg i.1 i.2.1 i.2.2.2 i.2.2.1,false⟩
def aQ:Ao:=⟨[i64],fun n=>VE n,[.str],fun n=>pL n,false⟩
def R6:Ao:=⟨[.list Pf,.str,.str],fun _=>true,[.bool],fun _=>true,false⟩
def yA:A3:=X7 [(68,JO),(87,Qp)]
def VV:A3:=X7 [(69,Fc),(68,JO),(87,Qp),(97,aY)]
def yE:A3:=X7 [(138,Xs),(139,cA)]
def UW:A3:=X7 [(59,iN),(71,Uq),(63,dG),(64,X6)]
def Dy:A3:=Z0 [(11,[5,7,10]),(12,[5])] [(11,[(5,[(6,Bh)]),(7,[(7,Bh)]),(10,[(8,Bh)])]),(12,[(5,[(9,Bh),(10,Bh)])])] [(11,[(5,[0,6]),(7,[0,7,8]),(10,[0,7,8,9])]),(12,[(5,[0,9,10])])] [(55,Yy),(76,bQ),(68,JO),(69,Fc),(59,iN),(56,cF),(71,Uq),(63,dG),(64,X6),(60,rI),(65,qW),(67,Xp),(58,cXa),(61,cXb),(62,cWd),(66,cBt),(70,cMs),(150,Z7)]
def Yd:A3:=X7 [(51,Fc)]
def Xz:A3:=X7 [(72,SL)]
def mA:A3:=X7 [(15,sP)]
def qS:A3:=X7 [(152,Ja),(158,Vl)]
def XY:A3:=X7 [(19,QB),(75,fP),(110,aQ)]
def JW:A3:=X7 [(19,QB),(21,eQ),(20,S2),(75,fP),(73,Aad)]
def K8:A3:=Z0 [(3,[14,21])] [] [(3,[(14,[0,1,2,8]),(21,[0,1,2,13,14]),(10,[0,1,2,8,9]),(4,[0,1,2,7])])] [(8,Wc),(9,Yy),(10,dN),(11,fI),(12,cSq),(13,Qz),(14,WS),(16,tF),(15,sP)]
section
open List Int Prod
namespace T68
def T(l:List Int):Tr:=tree yG false 9 68 (Af ([ze i64]) l)
def L1(v5:List Int)(v6 v7:Int):Tr:=re ((T [])) (AE 15 [(5,.dat (ze i64) v5),(6,.dat i64 v6),(7,.dat i64 v7)] [] 0)
theorem Ak(l:List Int):T l=L1 l ((length l:Int)) 0:=by kernel_rfl
theorem Ar(v5:List Int)(v6 v7:Int):stepT yG (L1 v5 v6 v7)=.ite (decide (v7<v6)) (.ite (decide (0<=v7)&&decide (v7<(length v5:Int))) (.ite (getD v5 (toNat v7) 0 !=0) (.leaf (.dat i64 (getD v5 (toNat v7) 0)) []) (L1 v5 v6 (zc .i64 (v7+1)))) .fail) (.leaf (.dat i64 (0:Int)) []):=by kernel_rfl
end T68
namespace T87
def T(c:Bool)(e:Int):Tr:=tree yG false 9 87 (Af ([zi,z8 z6]) (c,e))
theorem Ak(c:Bool)(e:Int):T c e=.ite c (.leaf (.dat i64 e) []) (.leaf (.dat i64 (0:Int)) []):=by kernel_rfl
end T87
namespace T97
def T(n m:Int):Tr:=tree yA false 9 97 (Af ([z8 z6,z8 z6]) (n,m))
theorem Ak(n m:Int):T n m=.ite true (.ite true (.ite (decide (2<=2)&&true&&decide (2<=1000000)) (.leaf (.dat i64 (qz [Ku (n==0) 12,Ku (decide (n>m)) 5])) ([(0,.arr false 29 i64 [Ku (n==0) 12,Ku (decide (n>m)) 5])])) .fail) .fail) .fail:=by kernel_rfl
end T97
namespace T55
def T(l:List (List UInt8×List UInt8)):Tr:=tree VV false 9 55 (Af ([ze (zy zf zf)]) l)
def L1(v13:List (List UInt8×List UInt8))(v14 v15:Int):Tr:=re ((T []).L.R) (AE 31 [(13,.dat (ze (zy zf zf)) v13),(14,.dat i64 v14),(15,.dat i64 v15)] [] 0)
theorem Ak(l:List (List UInt8×List UInt8)):T l=.ite true (.ite (Ef (length l:Int) 256 !=0) (.leaf (.dat i64 (Ef (length l:Int) 256)) []) (L1 l ((length l:Int)) 0)) .fail:=by kernel_rfl
theorem Ar(v13:List (List UInt8×List UInt8))(v14 v15:Int):stepT VV (L1 v13 v14 v15)=let a':=getD v13 (toNat v15) ([],[]);.ite (decide (v15<v14)) (.ite (decide (0<=v15)&&decide (v15<(length v13:Int))) (.ite (decide (length (fst a')<=1000000)) (.ite (decide (length (snd a')<=1000000)) (.ite (decide (2<=2)&&true&&decide (2<=1000000)) (.ite (qz [AG (fst a'),AG (snd a')] !=0) (.leaf (.dat i64 (qz [AG (fst a'),AG (snd a')])) ([(zo 0 1,.arr false 29 i64 [AG (fst a'),AG (snd a')]),(0,.box [.dat zf (fst a'),.dat zf (snd a')])])) (L1 v13 v14 (zc .i64 (v15+1)))) .fail) .fail) .fail) .fail) (.leaf (.dat i64 (0:Int)) []):=by kernel_rfl
end T55
namespace T76
def T(l:List (List UInt8)):Tr:=tree VV false 9 76 (Af ([ze zf]) l)
def L1(v0:List (List UInt8))(v3 v4:Int):Tr:=re ((T []).L) (AE 24 [(0,.dat (ze zf) v0),(3,.dat i64 v3),(4,.dat i64 v4)] [] 0)
theorem Ak(l:List (List UInt8)):T l=.ite true (L1 l (Ef (length l:Int) 256) 0) .fail:=by kernel_rfl
theorem Ar(v0:List (List UInt8))(v3 v4:Int):stepT VV (L1 v0 v3 v4)=let a':=decide (v4<(length v0:Int));.ite (a') (.ite (v3==0) (.ite (decide (0<=v4)&&a') (.ite (decide (length (getD v0 (toNat v4) [])<=1000000)) (L1 v0 (AG (getD v0 (toNat v4) [])) (zc .i64 (v4+1))) .fail) .fail) (.leaf (.dat i64 v3) [])) (.leaf (.dat i64 v3) []):=by kernel_rfl
end T76
namespace T67
def T(a:(Int×List Int)×Int×List Int):Tr:=tree yE false 9 67 (Af ([zy (zy i64 (yj (z8 zr))) (zy i64 (yj (z8 zr)))]) a)
theorem Ak(a:(Int×List Int)×Int×List Int):T a=let b':=((fst (fst a),snd (fst a)),fst (snd a),snd (snd a));let c':=yj (z8 zr);let a':=[(0,.box [.dat i64 (fst (fst a)),.dat c' (snd (fst a)),.dat i64 (fst (snd a)),.dat c' (snd (snd a))])];.ite (kc b') (.ite (H7 b') (.leaf (.tup [.dat zf [],.dat i64 (4:Int)]) a') (.ite (kc b') (.leaf (.tup [.dat zf (Jx b'),.dat i64 (0:Int)]) a') .fail)) .fail:=by kernel_rfl
end T67
namespace T15
def T(l:List (List UInt8)):Tr:=tree Yd false 9 15 (Af ([ze zf]) l)
def L1(v0:List (List UInt8))(v3:Int):Tr:=re ((T [])) (AE 19 [(0,.dat (ze zf) v0),(3,.dat i64 v3)] [] 0)
theorem Ak(l:List (List UInt8)):T l=L1 l 0:=by kernel_rfl
theorem Ar(v0:List (List UInt8))(v3:Int):stepT Yd (L1 v0 v3)=let a':=getD v0 (toNat v3) [];let b':=decide (v3<(length v0:Int));.ite (b') (.ite (decide (0<=v3)&&b') (.ite (decide (length a'<=1000000)) (.ite (AG a' !=0) (.leaf (.dat i64 (AG a')) []) (L1 v0 (zc .i64 (v3+1)))) .fail) .fail) (.leaf (.dat i64 (0:Int)) []):=by kernel_rfl
end T15
namespace T9
def T(l:List (List UInt8×List UInt8)):Tr:=tree mA false 9 9 (Af ([ze (zy zf zf)]) l)
def L1(v0:List (List UInt8×List UInt8))(v3:Int):Tr:=re ((T []).R.R) (AE 32 [(0,.dat (ze (zy zf zf)) v0),(3,.dat i64 v3)] [] 0)
theorem Ak(l:List (List UInt8×List UInt8)):T l=.ite ((length l:Int)==0) (.leaf (.dat i64 (12:Int)) []) (.ite (decide ((length l:Int)>256)) (.leaf (.dat i64 (5:Int)) []) (L1 l 0)):=by kernel_rfl
theorem Ar(v0:List (List UInt8×List UInt8))(v3:Int):stepT mA (L1 v0 v3)=let a':=getD v0 (toNat v3) ([],[]);let b':=decide (v3<(length v0:Int));.ite (b') (.ite (decide (0<=v3)&&b') (.ite (decide (0<=v3)&&b') (.ite (decide (2<=2)&&true&&(decide (2<=1000000)&&List.all [fst a',snd a'] fun s=>decide (length s<=1000000))) (.ite (Cf [fst a',snd a'] !=0) (.leaf (.dat i64 (Cf [fst a',snd a'])) ([(0,.arr false 23 zf [fst a',snd a'])])) (L1 v0 (zc .i64 (v3+1)))) .fail) .fail) .fail) (.leaf (.dat i64 (0:Int)) []):=by kernel_rfl
end T9
namespace T13
def T(a:List UInt8)(e b:Int)(w:List UInt8):Tr:=tree Xz false 9 13 (Af ([zf,z8 z6,z8 z6,zf]) (a,e,b,w))
theorem Ak(a:List UInt8)(e b:Int)(w:List UInt8):T a e b w=let b':Tr:=.leaf (.bl false) [];let a':Tr:=.ite (e==0) (.leaf (.dat zi (a==w)) []) b';.ite (b==0) (.ite (decide (length w<=1000000)) (.ite (ET w !=0) (.ite (a==[]) (.leaf (.dat zi (e==ET w)) []) b') a') .fail) (.ite (b !=0) (.ite (a==[]) (.leaf (.dat zi (e==b)) []) b') a'):=by kernel_rfl
end T13
end
end Go.Pe
namespace Go.Sp
theorem Gj{B D E:Int}{a c:Nat}(hD:0<=D)(hE:0<=E)(B1:B<=(10:Int)^c)(D1:D<=(10:Int)^a)(E1:E<=(10:Int)^a):B*(D*E)<(10:Int)^(c+a+a+1)/\D*E<(10:Int)^(c+a+a+1):=by
 have p0:(0:Int)<10^a:=yg (by decide);have q0:(0:Int)<10^c:=yg (by decide);have k1:D*E<=(10:Int)^a*10^a:=yu D1 E1 hE (zk p0);have k2:B*(D*E)<=(10:Int)^c*(10^a*10^a):=yu B1 k1 (yp hD hE) (zk q0);have k3:(10:Int)^(c+a+a+1)=(10:Int)^c*(10^a*10^a)*10:=by rw[ji,y7,y7,Int.mul_assoc ((10:Int)^c)]
 have k4:0<(10:Int)^a*10^a:=yf p0 p0;have k5:(10:Int)^a*10^a<=(10:Int)^c*(10^a*10^a):=by
  have:=zn (show 1<=(10:Int)^c by omega) (zk k4);rwa [qh]at this
 rw[k3];omega
theorem V4{k n a c:Nat}{l:List (Rat×Rat)}(h:Qe k n l)(ha:(n:Int)*((10:Int)^k)^n<=(10:Int)^a)(hc:(n:Int)*(2*(10:Int)^k*(2*(10:Int)^k))<=(10:Int)^c)(i:Nat):
  Dh (c+a+a+1) (Dn (BM (l.map zq)) (BM (l.map qj)) (l.take i))/\Dh (c+a+a+1) (CH (BM (l.map zq)) (l.take i)):=by
 have lx:(l.map zq).length=l.length:=yi ..;have ly:(l.map qj).length=l.length:=yi ..;obtain⟨x0,x1,_,_,x4⟩:=FD (x:=l.map zq) (by rw[lx];exact h.pos) (by rw[lx];exact h.le) (fun q hq=>by obtain⟨p,hp,rfl⟩:=zm.1 hq;exact(h.sz p hp).1) ha;obtain⟨y0,y1,_,_,y4⟩:=FD (x:=l.map qj) (by rw[ly];exact h.pos) (by rw[ly];exact h.le) (fun q hq=>by obtain⟨p,hp,rfl⟩:=zm.1 hq;exact(h.sz p hp).2) ha;have t0:(0:Int)<=2*10^k:=yp (by decide) (yz (by decide));have tt:(0:Int)<=2*10^k*(2*10^k):=yp t0 t0;have hl:(l.take i).length<=n:=by rw[List.length_take];have:=h.le;omega
 have lt:((l.take i).length:Int)*(2*10^k*(2*10^k))<=(n:Int)*(2*10^k*(2*10^k)):=zn (by omega) tt;have mem:∀p∈l.take i,p∈l:=fun p hp=>List.mem_of_mem_take hp
 have s1:=Gj (zk x0) (zk y0) hc x1 y1;have s2:=Gj (zk x0) (zk x0) hc x1 x1;constructor
 ·exact Ml.sz (Kh fun p hp=>⟨(x4 p.1 (zm.2 ⟨p,mem p hp,rfl⟩)).1,(y4 p.2 (zm.2 ⟨p,mem p hp,rfl⟩)).1⟩) (yf x0 y0) ((Ld t0 fun p hp=>⟨(x4 p.1 (zm.2 ⟨p,mem p hp,rfl⟩)).2,(y4 p.2 (zm.2 ⟨p,mem p hp,rfl⟩)).2⟩).mono lt) s1.1 s1.2
 ·rw[IY];refine Ml.sz (D:=((l.map zq).length:Int)*JI (l.map zq)*(((l.map zq).length:Int)*JI (l.map zq))) (Kh fun p hp=>?_) (yf x0 x0) ((Ld t0 fun p hp=>?_).mono (by rw[yi];exact lt)) s2.1 s2.2
  ·obtain⟨r,hr,rfl⟩:=zm.1 hp;have:=(x4 r.1 (zm.2 ⟨r,mem r hr,rfl⟩)).1;exact⟨this,this⟩
  ·obtain⟨r,hr,rfl⟩:=zm.1 hp;have:=(x4 r.1 (zm.2 ⟨r,mem r hr,rfl⟩)).2;exact⟨this,this⟩
theorem GM{k n a:Nat}{x:List Rat}(h0:0<x.length)(hn:x.length<=n)(hs:∀q∈x,Dh k q)(ha:(n:Int)*((10:Int)^k)^n<=(10:Int)^a):Dh (k+a+1) (BM x):=by
 obtain⟨x0,x1,x2,x3,_⟩:=FD h0 hn hs ha;have p0:(0:Int)<10^a:=yg (by decide);have q0:(0:Int)<10^k:=yg (by decide);have k1:(10:Int)^k*((x.length:Int)*JI x)<=(10:Int)^k*10^a:=zw x1 (zk q0);have k2:(10:Int)^(k+a+1)=(10:Int)^k*10^a*10:=by rw[ji,y7]
 have k3:(0:Int)<10^k*10^a:=yf q0 p0;have k4:(10:Int)^a<=(10:Int)^k*10^a:=by
  have:=zn (show 1<=(10:Int)^k by omega) (zk p0);rwa [qh]at this
 exact Ml.sz x2 x0 x3 (by rw[k2];omega) (by rw[k2];omega)
theorem tX{k n a c:Nat}{l:List (Rat×Rat)}(h:Qe k n l)(ha:(n:Int)*((10:Int)^k)^n<=(10:Int)^a)(hc:(n:Int)*(2*(10:Int)^k*(2*(10:Int)^k))<=(10:Int)^c)(hw:CH (BM (l.map zq)) l≠0):Dh ((k+a+1)+((c+a+a+a+1)+(k+a+1))+1) (Zq l):=by
 have lx:(l.map zq).length=l.length:=yi ..;have ly:(l.map qj).length=l.length:=yi ..;have m1:=GM (x:=l.map zq) (by rw[lx];exact h.pos) (by rw[lx];exact h.le) (fun q hq=>by obtain⟨p,hp,rfl⟩:=zm.1 hq;exact(h.sz p hp).1) ha;have m2:=GM (x:=l.map qj) (by rw[ly];exact h.pos) (by rw[ly];exact h.le) (fun q hq=>by obtain⟨p,hp,rfl⟩:=zm.1 hq;exact(h.sz p hp).2) ha;exact m2.sub ((OV h ha hc hw).mul m1)
theorem UA{k j:Nat}{a b:Rat}(ha:Dh j a)(hb:Dh j b):∀ {l:List (Rat×Rat)},(∀p∈l,Dh k p.1/\Dh k p.2)->Dh ((2*(2*k+2*j+2)+1)*l.length+1) (P1 a b l)
 |[],_=>by
  rw[List.length_nil,Nat.mul_zero];exact show Dh 1 0 from⟨by decide,by decide⟩
 |p::l,h=>by
  have h1:=h p (zt ..);have d:=h1.2.sub ((ha.mul h1.1).add hb);have r:=UA ha hb (l:=l) fun x hx=>h x (zz _ hx)
  rw[P1];refine((d.mul d).add r).mono ?_;have e:(2*(2*k+2*j+2)+1)*(p::l).length=(2*(2*k+2*j+2)+1)*l.length+(2*(2*k+2*j+2)+1):=Nat.mul_succ ..;rw[e];generalize (2*(2*k+2*j+2)+1)*l.length=m;omega
end Go.Sp
namespace Go.Pe
open Sp
open Go.Det
section
open List Int Prod
namespace T56
def T(n:Int):Tr:=tree rF false 9 56 (Af ([z8 z6]) n)
theorem Ak(n:Int):T n=let a':=yj (z8 zr);.ite true (.ite true (.leaf (PV.agg [.dat i64 n,.dat a' (Ck n),.dat i64 (1:Int),.dat a' (Ck 1)]) ([(zo (zo 0 1) 1,.box [.dat i64 n,.dat a' (Ck n),.dat i64 (1:Int),.dat a' (Ck 1)]),(zo 0 1,.box [.dat i64 n,.dat a' (Ck n)]),(0,.box [.dat i64 n,.dat a' (Ck n),.dat i64 (1:Int),.dat a' (Ck 1)])])) .fail) .fail:=by kernel_rfl
end T56
namespace T183
def T(s t:List UInt8):Tr:=tree XX0 false 9 183 (Af ([zf,zf]) (s,t))
theorem Ak(s t:List UInt8):T s t=let a':=(length t:Int);let b':=decide (toNat a'<=length s);.ite (decide ((length s:Int)>=a')) (.ite (decide (0<=a')&&decide (0<=toNat a')&&b') (.ite (take (toNat a') s==t) (.ite (decide (0<=a')&&true&&b'&&decide (length s<=length s)) (.leaf (.dat zf (take (yx (length s) (toNat a')) (drop (toNat a') s))) []) .fail) (.leaf (.dat zf s) [])) .fail) (.leaf (.dat zf s) []):=by kernel_rfl
end T183
namespace T219
def T(a:Int×List Int):Tr:=tree XX1 false 9 219 (Af ([zy i64 (yj (z8 zr))]) a)
theorem Ak(a:Int×List Int):T a=let c':=[(0,.box [.dat i64 (fst a),.dat (yj (z8 zr)) (snd a)])];let d':=Br (Ae (ya (fst a,snd a)));let a':=(↑(length d'):Int);let b':=getD d' (toNat (zc .i64 (a'-1))) 0;.ite (Sp.Db (fst a,snd a)) (.ite (a'==0) (.leaf (.dat i64 (0:Int)) c') (.ite (decide (0<=zc .i64 (a'-1))&&decide (zc .i64 (a'-1)<a')) (.ite (Sp.u64 b') (.leaf (.dat i64 (zc .i64 (zc .i64 (64*zc .i64 (a'-1))+EL b'))) c') .fail) .fail)) .fail:=by kernel_rfl
end T219
namespace T192
def T(a:Int×List Int):Tr:=tree zJ false 9 192 (Af ([zy i64 (yj (z8 zr))]) a)
theorem Ak(a:Int×List Int):T a=let a':=[(0,.box [.dat i64 (fst a),.dat (yj (z8 zr)) (snd a)])];let b':=AW (ya (fst a,snd a));.ite (Ba (fst a,snd a)) (.ite (decide (NL (fst a,snd a)>1800)) (.ite (Ba (fst a,snd a)) (.ite (SB b' [(45:UInt8)]) (.leaf (.dat zi (decide ((↑(length (AZ b')):Int)>600))) a') .fail) .fail) (.leaf (.bl false) a')) .fail:=by kernel_rfl
end T192
namespace T138
def T(a:(Int×List Int)×Int×List Int):Tr:=tree XX2 false 9 138 (Af ([zy (zy i64 (yj (z8 zr))) (zy i64 (yj (z8 zr)))]) a)
theorem Ak(a:(Int×List Int)×Int×List Int):T a=let b':=yj (z8 zr);let c':=(fst (fst a),snd (fst a));let d':=(fst (snd a),snd (snd a));let a':=[(0,.box [.dat i64 (fst (fst a)),.dat b' (snd (fst a)),.dat i64 (fst (snd a)),.dat b' (snd (snd a))])];.ite (Ba c') (.ite (Ej c') (.leaf (.bl true) a') (.ite (Ba d') (.leaf (.dat zi (Ej d')) a') .fail)) .fail:=by kernel_rfl
end T138
namespace T139
def T(a:(Int×List Int)×Int×List Int):Tr:=tree XX2 false 9 139 (Af ([zy (zy i64 (yj (z8 zr))) (zy i64 (yj (z8 zr)))]) a)
theorem Ak(a:(Int×List Int)×Int×List Int):T a=let b':=(fst (fst a),snd (fst a));let c':=(fst (snd a),snd (snd a));let d':=yj (z8 zr);let a':=[(0,.box [.dat i64 (fst (fst a)),.dat d' (snd (fst a)),.dat i64 (fst (snd a)),.dat d' (snd (snd a))])];.ite true (.ite (CN c') (.ite (Ba b') (.leaf (.dat zf (AW (ya b'))) a') .fail) (.ite (Ba b') (.ite (decide (length (AW (ya b'))+1<=4611686018427387904)) (.ite (Ba c') (.ite (decide (length (AW (ya b')++[(47:UInt8)])+length (AW (ya c'))<=4611686018427387904)) (.leaf (.dat zf (AW (ya b')++[(47:UInt8)]++AW (ya c'))) a') .fail) .fail) .fail) .fail)) .fail:=by kernel_rfl
end T139
namespace T65
def T(a:(Int×List Int)×Int×List Int):Tr:=tree XX3 false 9 65 (Af ([zy (zy i64 (yj (z8 zr))) (zy i64 (yj (z8 zr)))]) a)
theorem Ak(a:(Int×List Int)×Int×List Int):T a=let a':=yj (z8 zr);let b':=(fst (fst a),snd (fst a));.ite (Sp.Db b') (.leaf (.dat i64 (HG b')) ([(0,.box [.dat i64 (fst (fst a)),.dat a' (snd (fst a)),.dat i64 (fst (snd a)),.dat a' (snd (snd a))])])) .fail:=by kernel_rfl
end T65
end
namespace T193
variable {Q:PV->Ob->Prop}
theorem Aq(neg:Bool)(V:Nat)(h0:0<V)(hV:Small V)(hG:(Ch (V+1) V).length<=1000000)(hfin:Exit neg (Ch (V+1) V) Q):Ends P9 (L1 neg (Br (V:Int)) 1 [1000000000000000000]) Q:=by
 have hlt:V % 10^18<10^18:=j0 _ (by decide);have hg:∀s,s=(if V/10^18=0 then zj (V % 10^18)else FL 18 (V % 10^18))->[s]++(if V/10^18=0 then[]else Ch V (V/10^18))=Ch (V+1) V:=by
  rintro s rfl;have eg:Ch (V+1) V=if V<10^18 then[zj V]else FL 18 (V % 10^18)::Ch V (V/10^18):=rfl
  rw[eg];by_cases c:V<10^18
  ·rw[wd c,wd (by omega),wd (by omega),Nat.mod_eq_of_lt c];rfl
  ·rw[wc c,wc (by omega),wc (by omega)];rfl
 have next:∀s,s=(if V/10^18=0 then zj (V % 10^18)else FL 18 (V % 10^18))->Ends P9 (L2 neg (Br ((V/10^18:Nat):Int)) 1 1 [s] [1000000000000000000]) Q:=
  fun s hs=>A4 neg _ hG hfin V (V/10^18) [s] (by omega) (hV.le (Nat.div_le_self _ _)) (hg s hs)
 refine qx (Ar ..) (zd (w4 (by have:=I4 h0;omega)) (zd (Aa rfl hV.div) ?_));rw[Uc,UC];rcases Nat.eq_zero_or_pos (V % 10^18)with r0|r0
 ·have q0:V/10^18≠0:=by omega
  rw[r0,show((0:Nat):Int)=0 from rfl,J5];refine z7 rfl (zd (w4 (by have:=I4 (V:=V/10^18) (by omega);omega)) (zd rfl (zd rfl (zd rfl (next _ ?_)))));have hp:=RU 0 (by decide);rw[jc (by omega)]at hp;rw[wc q0,r0, <-hp];rfl
 ·rw[TJ (r:=((V % 10^18:Nat):Int)) (by omega) (by omega)];have hgd:List.getD [((V % 10^18:Nat):Int)] 0 0=((V % 10^18:Nat):Int):=rfl;rw[hgd,LA];have hd:=Sj hlt;have hr18:((V % 10^18:Nat):Int)<1000000000000000000:=by omega
  have h18:0<(zj (V % 10^18)).length:=by
   rw[qq,Lib.nDigits];split<;>omega
  refine zd rfl (zd rfl (zd (Aa (Aa (w4 (qf _)) (w4 hr18)) rfl) ?_));rw[wr _ (by omega) (by omega)];by_cases q0:V/10^18=0
  ·rw[q0];refine z7 (by rw[show((0:Nat):Int)=0 from rfl,J5];rfl) (zd rfl ?_);have:=next _ rfl;rw[wd q0,q0]at this;exact this
  ·have hpad:=RU _ hlt;refine zd (w4 (by have:=I4 (V:=V/10^18) (by omega);omega)) (zd (Aa (Aa (w4 (by omega)) (w4 (by omega))) rfl) (zd (w4 ?_) (zd rfl (next _ ?_))))
   ·rw[<-ye,hpad];unfold FL;rw[ye,List.length_replicate];omega
   ·rw[wc q0];exact hpad
end T193
theorem uZ(n:Nat):(18446744073709551616:Nat)^n<=10^(20*n):=by
 rw[Nat.pow_mul];exact Nat.pow_le_pow_left (by decide) n
theorem YZ{V k:Nat}(h:(V:Int)<(Ai:Int)^k):V<18446744073709551616^k:=by
 rw[<-R9 k]at h;exact qy.mp h
theorem YV{V k:Nat}(h:(V:Int)<(Ai:Int)^k)(hk:1<=k):(zj V).length<=20*k:=by
 rw[qq];obtain⟨j,hj⟩:∃j,20*k=j+1:=⟨20*k-1,by omega⟩;have h3:=Nat.lt_of_lt_of_le (YZ h) (uZ k);rw[hj]at h3 ⊢;exact Ns j V h3
theorem Hb{V:Nat}(h:Small V):(zj V).length<=180000:=YV (k:=9000) h.h (by decide)
theorem Mk:∀(f v:Nat) (s:List UInt8),s∈Ch f v->0<s.length
 |0,v,s,h=>by cases h
 |f+1,v,s,h=>by
  have eg:Ch (f+1) v=if v<10^18 then[zj v]else FL 18 (v % 10^18)::Ch f (v/10^18):=rfl
  have hd:∀r,0<(zj r).length:=fun r=>by rw[qq,Lib.nDigits];split<;>omega
  rw[eg]at h;split at h
  ·rw[List.mem_singleton]at h;subst h;exact hd _
  ·rcases List.mem_cons.1 h with rfl|h
   ·unfold FL;rw[ye];have:=hd (v % 10^18);omega
   ·exact Mk f _ s h
theorem O1:∀(l:List (List UInt8)),(∀s∈l,0<s.length)->l.length<=l.flatten.length
 |[],_=>qo _
 |s::l,h=>by
  have h1:=O1 l fun x hx=>h x (zz _ hx)
  have h2:=h s (zt ..);rw[List.flatten_cons,ye,yd];omega
theorem Zm{V:Nat}(h:0<V):AW (-(V:Int))=45::zj V:=Lib.itoa_neg V h
theorem jU(hfmt:Ag Bf 222 Un):DQ P9:=Ab nL (Ab (T189.ok E7) (Ab QH (Ab hfmt (Ab ZS AQ))))
namespace T193
variable {Q:PV->Ob->Prop}
theorem ZO(neg:Bool){V:Nat}(hV:Small V)(hq:∀ob,Q (.dat .str (if neg=true then 45::zj V else zj V)) ob):Exit neg (Ch (V+1) V) Q:=by
 have hne:=Mk (V+1) V;have ht:=HV (V+1) V (by omega);have hd:=Hb hV;have hl:=O1 _ hne;have hr:(Ch (V+1) V).flatten.length=(zj V).length:=by
  rw[<-ht,y9,y9,List.map_reverse,List.sum_reverse]
 have hpos:0<(Ch (V+1) V).length:=by
  have eg:Ch (V+1) V=if V<10^18 then[zj V]else FL 18 (V % 10^18)::Ch V (V/10^18):=rfl
  rw[eg];split<;>simp
 generalize Ch (V+1) V=G at*;unfold Exit;refine yq (fun c=>zd rfl (zd rfl ?_)) (fun c=>?_)
 ·rw[wd c]at hq;rw[wr _ (by omega) (by omega)];exact EB G (45::zj V) (by rw[yd];omega) (by omega) hq G.length [45] _ 1 (qo _) rfl rfl (by decide) (by rw[List.take_length,ht];rfl)
 ·rw[wc (by rw[c];decide)]at hq;rw[wr _ (by omega) (by omega)];obtain⟨i,hi⟩:∃i,i+1=G.length:=⟨G.length-1,by omega⟩;exact Fb G (zj V) (by omega) (by omega) hq i hi _ (by omega) (hne _ (List.getElem_mem _)) ht
theorem ok(hfmt:Ag Bf 222 Un):Ag Bf 193 wP:=by
 refine MQ (X:=P9) rfl (jU hfmt) (d:=9) (by kernel_rfl) (by kernel_rfl) (by kernel_rfl) (fun(a:Int×List Int) ha=>?_) (BA (by kernel_rfl));have ha:Ba a=true:=ha;have hk:=(BV ha).1;have hr:=(DL hk).1;refine yr (Ak a) (yq (fun c=>zd (DF hr.1 hr.2) (zg (y8 rfl rfl ?_))) (fun c=>zd hk ?_))
 ·have c:a.2=[]:=by simpa using c
  show AW a.1=AW (ya a);rw[Bk c]
 ·have c:a.2≠[]:=by rintro k;rw[k]at c;simp at c
  have hb:=bounds ha;have hbig:(9223372036854775808:Int)<=Ae (ya a):=by
   obtain⟨_,hw⟩:=DL hk;obtain⟨s,w⟩:=a;rcases hw with hw|⟨_,_,h3⟩
   ·exact wh hw c
   ·rw[Vw c,Ah];have h3:9223372036854775808<=Am w:=h3;split<;>omega
  obtain⟨V,hV⟩:=yh (AF (ya a));have hVa:=Ah (ya a);rw[hV]at hb hbig hVa ⊢;have hs:Small V:=⟨hb⟩;have hd:=Hb hs;have hp:0<V:=by omega
  have hl:=O1 _ (Mk (V+1) V);have ht:=HV (V+1) V (by omega);have hlen:(Ch (V+1) V).flatten.length=(zj V).length:=by
   rw[<-ht,y9,y9,List.map_reverse,List.sum_reverse]
  refine Aq _ V hp hs (by omega) (ZO _ hs fun ob=>y8 rfl rfl ?_);show(if decide (ya a<0)=true then 45::zj V else zj V)=AW (ya a);by_cases n:ya a<0
  ·rw[wd (w4 n),show ya a= -(V:Int)from by omega,Zm hp]
  ·rw[wc (by simpa using n),show ya a=(V:Int)from by omega,LA]
end T193
theorem VZ{k:Nat}{n d:Int}(hd:d≠0)(h1:Ae n<(Ai:Int)^k)(h2:Ae d<(Ai:Int)^k):KU k (Rat.divInt n d):=by
 unfold KU;rw[Rat.num_divInt,Rat.den_divInt,wc hd];constructor
 ·refine Int.lt_of_le_of_lt VC ?_;rw[IZ];have:Ae d.sign=1:=by rw[Ah,Int.natAbs_sign_of_ne_zero hd];rfl
  rw[this,qh];exact h1
 ·refine Int.lt_of_le_of_lt ?_ h2;rw[Ah];exact Int.ofNat_le.mpr (Nat.div_le_self _ _)
theorem nC{f:An}(h:j8 f=true)(h0:ya f.1≠0):j8 (SY f)=true:=by
 obtain⟨a1,a2,la1,la2,a0⟩:=Gr h;exact(Nn a2 a1 h0).BK (VZ h0 la2 la1)
theorem lT{f:An}(h:j8 f=true):j8 (uM f)=true:=by
 obtain⟨a1,a2,la1,la2,a0⟩:=Gr h;unfold j8 kc at*;have hk:=VW (k:=4000) (BV a1).1 (by omega) (by omega) (V1 (BV a1).1 la1);exact Aa (Aa (Ga hk.1 (by show Ae (ya (C4 f.1))<_;rw[Iu,Ij];exact la1)) (Ga (BV a2).1 la2)) (w4 a0)
theorem WK:DQ XA3:=Ab T134.ok (Ab T71.ok (Ab T64.ok (Ab T133.ok AQ)))
theorem T63.ok:Ag Bf 63 dG:=by
 refine BY WK (fun(i:((Int×List Int)×(Int×List Int))×((Int×List Int)×(Int×List Int))) hi=>?_);obtain⟨a,b⟩:=i;have hi:(j8 a&&j8 b)=true:=hi;rw[zh]at hi;obtain⟨b1,b2,lb1,lb2,b0⟩:=Gr hi.2;exact yr (T63.Ak a b) (zd (BV b1).1 (zd (Aa hi.1 (lT hi.2)) (zg (y8 rfl rfl rfl))))
theorem T60.ok:Ag Bf 60 rI:=by
 refine BY WK (fun(i:((Int×List Int)×(Int×List Int))×((Int×List Int)×(Int×List Int))) hi=>?_);obtain⟨a,b⟩:=i;have hi:(j8 a&&j8 b&&decide (ya b.1≠0))=true:=hi;rw[zh,zh,w5]at hi;exact yr (T60.Ak a b) (zd (Aa hi.1.2 (w4 hi.2)) (zd (Aa hi.1.1 (nC hi.1.2 hi.2)) (zg (y8 rfl rfl rfl))))
end Go.Pe
namespace Go.Sp
theorem Dr{a:Bool×List Int}(h:CI a=true):A8 a.2=true/\a.2.length<=3000/\(a.1=true->a.2≠[]):=by
 unfold CI at h;rw[zh,zh,w5,Bool.or_eq_true,w5,Bool.not_eq_true']at h;refine⟨h.1.1,h.1.2,fun k=>?_⟩;rcases h.2 with x|x
 ·rw[k]at x;cases x
 ·exact x
theorem GF{a:Bool×List Int}(h:CI a=true):Ae (vR a)=At a.2/\0<=At a.2:=by
 obtain⟨h1,h2,h3⟩:=Dr h;have h0:=Az (b:=B9) (by decide) (Bm h1).2.1;have h0:0<=At a.2:=h0;refine⟨?_,h0⟩;unfold vR;rw[Ah];split<;>omega
theorem Pp{a:Bool×List Int}(h:CI a=true):a.1=rN (vR a):=by
 obtain⟨h1,h2,h3⟩:=Dr h;obtain⟨_,h0⟩:=GF h;unfold rN vR;cases ha:a.1 with
 |false=>rw[wc (by decide)];symm;rw[w9];omega
 |true=>
  rw[wd rfl];symm;rw[w5];have:=IW (b:=B9) (by decide) (Bm h1).2.1 (Bm h1).2.2 (h3 ha);have:0<At a.2:=this;omega
theorem tZ{a:Bool×List Int}(h:CI a=true):a.2=rW (vR a):=by
 unfold rW;rw[(GF h).1];exact HW (b:=B9) (by decide) (Bm (Dr h).1).2.1 (Bm (Dr h).1).2.2
theorem rK{a:Bool×List Int}(h:CI a=true):a=(rN (vR a),rW (vR a)):=Prod.ext (Pp h) (tZ h)
theorem U1(k:Nat):(B9:Int)^k=10^(9*k):=by
 have:(B9:Int)=10^9:=by decide
 rw[this, <-Int.pow_mul]
theorem pJ{n:Int}{k:Nat}(h:n.natAbs<10^(9*k)):Ae n<(B9:Int)^k:=by
 rw[Ah,U1];have:((10^(9*k):Nat):Int)=(10:Int)^(9*k):=by simp
 rw[<-this];exact qy.mpr h
theorem Nh(n:Int):0<=Ae n:=by rw[Ah];omega
theorem JE(n:Int):At (rW n)=Ae n:=CQ (b:=B9) (by decide) (Nh n)
theorem EG(n:Int):vR (rN n,rW n)=n:=by
 unfold vR;show(if rN n=true then -At (rW n)else At (rW n))=n;rw[JE,Ah];unfold rN;by_cases h:n<0
 ·rw[wd (w4 h)];omega
 ·rw[wc (by simpa using h)];omega
theorem Su{n:Int}(h:n.natAbs<10^27000):CI (rN n,rW n)=true:=by
 have k:27000=9*3000:=rfl;rw[k]at h;obtain⟨h1,_,h3,h4⟩:=GI (n:=Ae n) (k:=3000) (Nh n) (pJ h) (by decide);unfold CI;have h5:A8 (rW n)=true:=h1;have h6:(rW n).length<=3000:=h4;rw[h5,w4 h6];cases hb:rN n with
 |false=>rfl
 |true=>
  have:rW n≠[]:=by
   intro e;have h7:=JE n;rw[e]at h7;have h7:0=Ae n:=h7;unfold rN at hb;have hb:=w6 hb;rw[Ah]at h7;omega
  rw[w4 this];rfl
theorem fM(k:Nat):((10^k:Nat):Int)=(10:Int)^k:=by rw[zx];rfl
theorem sO{x:Nat}(j k:Nat)(h:j<=k)(hx:x<10^j):x<10^k:=Nat.lt_of_lt_of_le hx (Nat.pow_le_pow_right (by decide) h)
theorem tJ{a:Bool×List Int}(h:CI a=true):(vR a).natAbs<10^27000:=by
 obtain⟨h1,h2,h3⟩:=Dr h;have h4:=Bp (b:=B9) (by decide) (Bm h1).2.1;have h5:(B9:Int)^a.2.length<=(B9:Int)^3000:=AK (by decide) h2;have h6:Ae (vR a)<(B9:Int)^3000:=by rw[(GF h).1];exact yy h4 h5
 rw[Ah,U1]at h6;have:=fM (9*3000);rw[<-this]at h6;have k:27000=9*3000:=rfl;rw[k];exact qy.mp h6
theorem iB{neg:Bool}{w:List Int}{n:Int}(hd:Av B9 w)(hv:At w=Ae n)(hn:n≠0->neg=rN n):(Cd neg w,Au w)=(rN n,rW n):=by
 have h:=Go.Pe.LV (neg:=neg) hd hv;rw[h];have:(if neg=true then -Ae n else Ae n)=n:=by
  by_cases h0:n=0
  ·rw[h0];unfold Ae;split<;>simp
  ·rw[hn h0];unfold rN;rw[Ah];by_cases h:n<0
   ·rw[wd (w4 h)];omega
   ·rw[wc (by simpa using h)];omega
 rw[this]
theorem EC{s:List UInt8}(h:Bt s=true):CI (BB s,Bu s)=true/\vR (BB s,Bu s)=A6 s/\CI (Bj s,Bg s)=true/\vR (Bj s,Bg s)=AH s/\(Aw s).num=A6 s/\((Aw s).den:Int)=AH s/\Dd s=true/\(A6 s).natAbs<10^4000/\(AH s).natAbs<10^4000:=by
 obtain⟨h1,h2⟩:=FV h;obtain⟨s1,s2⟩:=oS h;have e:(Aw s).num=A6 s/\((Aw s).den:Int)=AH s:=by
  have:=JF (Aw s);rw[h1]at this;exact⟨this.1.symm,this.2.symm⟩
 have l1:(A6 s).natAbs<10^4000:=by rw[<-e.1];exact s1
 have l2:(AH s).natAbs<10^4000:=by rw[<-e.2,qd];exact s2
 have m:∀x:Nat,x<10^4000->x<10^27000:=fun x hx=>sO 4000 27000 (by decide) hx
 refine⟨Su (m _ l1),EG _,Su (m _ l2),EG _,e.1,e.2,?_,l1,l2⟩;obtain⟨c1,c2,c3⟩:=GK (Aw s);rw[h1]at c1 c2 c3;have k1:=Go.Pe.T69.C2 s;unfold Dd Ei;rw[w4 (p:=s.length<=5999) (by omega),w4 (p:=(Ay s).length<=5999) (by omega),w4 (p:=(AL s).length<=5999) (by omega),qc,qc,Bool.and_true,zh];refine⟨?_,?_⟩
 ·obtain⟨i1,i2,i3,i4⟩:=DK (Aw s).num;rw[c1];unfold AZ at i2;split at i2
  ·next c=>rw[wd c,i2];exact D5 _
  ·next c=>rw[wc c,i2];exact D5 _
 ·rw[c2];split
  ·rfl
  ·rw[wc (Fg (D5 _))];exact D5 _
end Go.Sp
namespace Go.Pe
open Sp
open Go.Det
theorem Ww{x:Int}{k:Nat}(h:x.natAbs<10^k):Ae x<(Ai:Int)^k:=by
 have h4:((10^k:Nat):Int)=(10:Int)^k:=zx ..;rw[Ah];refine yy ?_ (eH k);rw[<-h4];exact qy.mpr h
theorem VL{q:Rat}{k:Nat}(h:Dh k q)(hk:k<=4000):KU 4000 q:=by
 obtain⟨h1,h2⟩:=h.mono hk;have h3:=Ww (k:=4000) (x:=(q.den:Int)) (by rw[qd];exact h2);rw[Ah,qd]at h3;exact⟨Ww h1,h3⟩
def frS(s:List UInt8):An:=((Mc s,Po s),(J3 s,LQ s))
theorem Tw{s:List UInt8}(h:Bt s=true):Fe (frS s) (Aw s):=by
 obtain⟨_,_,_,_,e1,e2,_,l1,l2⟩:=EC h;have m:∀x:Int,x.natAbs<10^4000->Ae x<(Ai:Int)^9000:=fun x hx=>yy (Ww hx) (AK (by decide) (by decide))
 exact⟨(BV (Fv (DE (m _ l1)))).1,(BV (Fv (DE (m _ l2)))).1,(J7 _).trans e1.symm,(J7 _).trans e2.symm⟩
theorem Y4{d:AU}(h:Sp.Db d=true):CN d=decide (ya d=1):=by
 unfold CN;rw[Bool.eq_iff_iff,zh,w5,w5,w5];refine⟨fun⟨h1,h2⟩=>by rw[Bk h1];exact h2,fun e=>?_⟩;by_cases c:d.2=[]
 ·rw[Bk c]at e;exact⟨c,e⟩
 ·obtain⟨_,hw⟩:=DL h;obtain⟨s,w⟩:=d;rcases hw with hw|⟨_,_,h3⟩
  ·exact wh hw c
  ·rw[Vw c]at e;have h3:9223372036854775808<=Am w:=h3;split at e<;>omega
theorem Zv{f:An}{q:Rat}(h:Fe f q):H7 f=M0 q:=by
 unfold H7 Ej M0;rw[h.vn,h.vd]
theorem bT{f:An}{q:Rat}(h:Fe f q):Jx f=AO q:=by
 unfold Jx AO;rw[Y4 h.d,h.vn,h.vd];have e:decide ((q.den:Int)=1)=true↔q.den=1:=by rw[w5];omega
 by_cases c:q.den=1
 ·rw[wd (e.2 c),wd c];rfl
 ·rw[wc (fun k=>c (e.1 k)),wc c];show j5 q.num++47::j5 ((q.den:Nat):Int)=_;rw[Lib.itoa_nonneg]
theorem XU{f:An}{q:Rat}(h:Fe f q):JH f=Zj 0 q/\Hy f=ZX 0 q:=by
 unfold JH Hy Zj ZX;rw[Zv h,bT h];exact⟨rfl,rfl⟩
theorem Fe.E8{f:An}{q:Rat}(h:Fe f q)(hs:KU 4000 q):kc f=true:=by
 have:=h.BK hs;unfold j8 at this;rw[zh]at this;exact this.1
theorem Fe.Hz{f:An}{q:Rat}(h:Fe f q):decide (ya f.1≠0)=decide (q≠0):=by
 rw[h.vn,decide_eq_decide,wm,Rat.num_eq_zero]
end Go.Pe
namespace Go.Sp
theorem bN{n:Int}(h:0<=n):n+1<=2^(EL n).toNat:=by
 unfold EL;split
 ·have:n=0:=by omega
  subst this;decide
 ·have hb:=Nat.lt_log2_self (n:=n.toNat);have e:((n.toNat.log2:Int)+1).toNat=n.toNat.log2+1:=by omega
  have e2:((2^(n.toNat.log2+1):Nat):Int)=(2:Int)^(n.toNat.log2+1):=zx ..;rw[e, <-e2];generalize 2^(n.toNat.log2+1)=P at*;omega
theorem sT{w:List Int}(hd:Av Ai w){k:Nat}(hl:w.length=k+1):val Ai w<(Ai:Int)^k*(w.getD k 0+1):=by
 have h1:=Ca (Ai:Int) w k (by omega);have h2:=Bp (b:=(Ai:Int)) (by decide) (AM hd k);rw[List.length_take,Nat.min_eq_left (by omega)]at h2;have h3:w.drop k=[w.getD k 0]:=by
  rw[Cc (by omega),yk (by omega)]
 rw[h3]at h1;have h4:val Ai [w.getD k 0]=w.getD k 0:=by
  show w.getD k 0+(Ai:Int)*0=_;omega
 rw[h4]at h1;rw[jt,jm];omega
theorem U3(k:Nat):((10^k:Nat):Int)=(10:Int)^k:=by rw[zx];rfl
theorem iS(k:Nat):2^(3*k)<=10^k:=by rw[Nat.pow_mul];exact Nat.pow_le_pow_left (by decide) k
theorem fG(k:Nat):(2:Int)^(3*k)<=10^k:=by
 have h2:((2^(3*k):Nat):Int)<=((10^k:Nat):Int):=Int.ofNat_le.2 (iS k);rw[zx,zx]at h2;exact h2
theorem pR:(2:Int)^1800<=10^600:=by
 have h:=fG 600;have k:3*600=1800:=rfl;rw[k]at h;exact h
theorem pQ{a:AU}(h:NL a<=1800):Ej a=false:=by
 have a0:0<=Ae (vI a):=by rw[Ah];omega
 have hv:=CQ (b:=Ai) (by decide) a0;have hd:=Fa (b:=Ai) (by decide) (Ae (vI a));have key:Ae (vI a)<2^1800:=by
  unfold NL at h;have hv:val Ai (Br (Ae (vI a)))=Ae (vI a):=hv;have hd:Av Ai (Br (Ae (vI a))):=hd;generalize Br (Ae (vI a))=w at*;rw[<-hv];by_cases hw:w=[]
  ·subst hw;show(0:Int)<_;exact yg (by decide)
  ·rw[wc hw]at h;obtain⟨k,hk⟩:∃k,w.length=k+1:=⟨w.length-1,by have:=qu.2 hw;omega⟩;have ht:=sT hd hk;have g:=JG (b:=(Ai:Int)) (by decide) hd k;have hp:=bN g.1;have hl:=(Go.Pe.Sf g.1 (by have:(Ai:Int)=18446744073709551616:=rfl;omega)).1;rw[hk,qg,show((k+1:Nat):Int)-1=(k:Int)by omega]at h;have hB:(0:Int)<(Ai:Int)^k:=AN (by decide) k;have h5:=zw hp (zk hB);have e1:(Ai:Int)^k=2^(64*k):=by
    have:(Ai:Int)=2^64:=by decide
    rw[this, <-Int.pow_mul]
   rw[e1, <-y7]at h5;rw[e1]at ht;have h6:(2:Int)^(64*k+(EL (w.getD k 0)).toNat)<=2^1800:=AK (by decide) (by omega);exact yy ht (j7 h5 h6)
 have h7:=yy key pR;unfold Ej PU;rw[w9];have:(vI a).natAbs<10^600:=by
  rw[Ah]at h7;have e:=U3 600;rw[<-e]at h7;exact qy.mp h7
 have:=DO this (by decide);omega
end Go.Sp
namespace Go.Pe
open Sp
open Go.Det
theorem jV:DQ XX0:=fun g sp h=>by cases h
theorem T183.ok:Ag Bf 183 RH:=by
 refine BY jV (fun(i:List UInt8×List UInt8) hi=>?_);obtain⟨s,t⟩:=i;have hi:(decide (t=[45])&&decide (s.length<=1000000))=true:=hi;rw[zh,w5,w5]at hi;obtain⟨rfl,hl⟩:=hi;have hq:∀v ob,v=AZ s->Ad RH (s,[45]) (.dat .str v) ob:=fun v ob h=>y8 rfl rfl h
 refine yr (T183.Ak s [45]) ?_;conv=>zeta
 cases s with
 |nil=>exact z7 rfl (zg (hq _ _ rfl))
 |cons c r=>
  have e1:Int.toNat (([(45:UInt8)].length:Nat):Int)=1:=rfl;have e2:jg 1 (c::r)=[c]:=rfl;have e3:jg (yx (c::r).length 1) (j9 1 (c::r))=r:=yn (qo _);have g0:(c::r).getD 0 0=c:=rfl;rw[e1,e2,e3];refine zd (w4 (by simp;omega)) (zd (by simp) (yq (fun d=>zd (by simp) (zg (hq _ _ ?_))) (fun d=>zg (hq _ _ ?_))))
  ·have hc:c=45:=by simpa using d
   unfold AZ;rw[g0,wd hc];rfl
  ·have hc:c≠45:=by simpa using d
   unfold AZ;rw[g0,wc hc]
theorem nY:DQ XX1:=Ab (T189.ok E7) (Ab T244.ok AQ)
theorem kJ{a:AU}(h:Ba a=true):(Br (Ae (ya a))).length<=9000:=by
 have hb:=bounds h;have h0:=AF (ya a);refine Nk Ai (by decide) 9000 _ _ ?_;have e:((Ai^9000:Nat):Int)=(Ai:Int)^9000:=R9 9000;rw[<-e]at hb;generalize Ai^9000=P at*;omega
theorem T219.ok:Ag Bf 219 aW:=by
 refine BY nY (fun(a:Int×List Int) ha=>?_);have ha:Ba a=true:=ha;have hk:=(BV ha).1;have hl:=kJ ha;have hd:=Fa (b:=Ai) (by decide) (Ae (ya a));have hd:Av Ai (Br (Ae (ya a))):=hd;have hq:∀v ob,v=NL a->Ad aW a (.dat i64 v) ob:=fun v ob h=>y8 rfl rfl h
 unfold NL at hq;refine yr (T219.Ak a) (zd hk ?_);have ea:(zq a,qj a)=a:=rfl;rw[ea];generalize Br (Ae (ya a))=w at*;refine yq (fun c=>zg (hq _ _ ?_)) (fun c=>?_)
 ·have:w=[]:=jh.1 (by have:(w.length:Int)=0:=(by simpa using c);omega);rw[wd this]
 ·have c:(w.length:Int)≠0:=by simpa using c
  have hn:w≠[]:=by rintro rfl;exact c rfl
  have g:=AT hd (w.length-1);have e1:zc .i64 ((w.length:Int)-1)=((w.length-1:Nat):Int):=by rw[wr _ (by omega) (by omega)];omega
  have l2:=Sf (Sp.A2 g).1 (Sp.A2 g).2;rw[e1,zp,wr (64*_) (by omega) (by omega),wr _ (by omega) (by omega)];refine zd (Aa (w4 (by omega)) (w4 (by omega))) (zd g (zg (hq _ _ ?_)));rw[wc hn];omega
theorem cZ:DQ zJ:=Ab T219.ok (Ab (T193.ok dR) (Ab T183.ok AQ))
theorem jC(n:Int):AZ (AW n)=zj n.natAbs:=(DK n).2.1
theorem NI{a:AU}(h:Ba a=true):(AW (ya a)).length<=180001:=by
 have hb:=bounds h;have ha:=Ah (ya a);have h1:(zj (ya a).natAbs).length<=180000:=Hb ⟨by rw[<-ha];exact hb⟩;unfold AW j5;split
 ·rw[yd];omega
 ·rw[show(ya a).toNat=(ya a).natAbs by omega];omega
theorem T192.ok:Ag Bf 192 XW:=by
 refine BY cZ (fun(a:Int×List Int) ha=>?_);have ha:Ba a=true:=ha;have hl:=NI ha;have hq:∀v ob,v=Ej a->Ad XW a (.dat .bool v) ob:=fun v ob h=>y8 rfl rfl h
 have hqb:∀v ob,v=Ej a->Ad XW a (.bl v) ob:=fun v ob h=>y8 rfl rfl h
 refine yr (T192.Ak a) (zd ha (yq (fun c=>zd ha (zd (Aa (w4 rfl) (w4 (by show(AW (ya a)).length<=1000000;omega))) (zg (hq _ _ ?_)))) (fun c=>zg (hqb _ _ ?_))))
 ·show decide (((AZ (AW (ya a))).length:Int)>600)=Ej a;rw[jC];unfold Ej PU;rw[decide_eq_decide];omega
 ·have c:=w7 c;have c:¬NL a>1800:=c;exact(pQ (by omega)).symm
theorem dQ{a:AU}(h:TV a=true):Ba a=true:=by
 unfold TV at h;rw[zh,w5]at h;unfold Ba;rw[h.1,qc];exact w4 (by omega)
theorem jM{a:An}(h:kc a=true):Ba a.1=true/\Ba a.2=true:=by
 unfold kc at h;rw[zh]at h;exact⟨dQ h.1,dQ h.2⟩
theorem Yf:DQ XX2:=Ab T192.ok (Ab T145.ok (Ab (T193.ok dR) AQ))
theorem T138.ok:Ag Bf 138 Xs:=by
 refine BY Yf (fun(a:(Int×List Int)×(Int×List Int)) ha=>?_);obtain⟨h1,h2⟩:=jM (a:=a) ha;refine yr (T138.Ak a) (zd h1 (yq (fun c=>zg (y8 rfl rfl ?_)) (fun c=>zd h2 (zg (y8 rfl rfl ?_)))))
 ·have c:Ej a.1=true:=c;show true=(Ej a.1||Ej a.2);rw[c];rfl
 ·have c:Ej a.1=false:=c;show Ej a.2=(Ej a.1||Ej a.2);rw[c];rfl
theorem T139.ok:Ag Bf 139 cA:=by
 refine BY Yf (fun(a:(Int×List Int)×(Int×List Int)) ha=>?_);obtain⟨h1,h2⟩:=jM (a:=a) ha;have l1:=NI h1;have l2:=NI h2;refine yr (T139.Ak a) (zd rfl (yq (fun c=>zd h1 (zg (y8 rfl rfl ?_))) (fun c=>zd h1 (zd (w4 (by show(AW (ya a.1)).length+1<=_;omega)) (zd h2 (zd (w4 (by rw[ye,List.length_singleton];show(AW (ya a.1)).length+1+(AW (ya a.2)).length<=_;omega)) (zg (y8 rfl rfl ?_))))))))
 ·have c:CN a.2=true:=c;show AW (ya a.1)=Jx a;unfold Jx;rw[wd c]
 ·have c:CN a.2=false:=c;show AW (ya a.1)++[47]++AW (ya a.2)=Jx a;unfold Jx;rw[wc (by rw[c];decide),List.append_assoc];rfl
theorem nO:DQ XX3:=Ab T69.ok (Ab T137.ok AQ)
theorem T65.ok:Ag Bf 65 qW:=by
 refine BY nO (fun(a:(Int×List Int)×(Int×List Int)) ha=>?_);exact yr (T65.Ak a) (zd ha (zg (y8 rfl rfl rfl)))
theorem T56.ok:Ag Bf 56 cF:=by
 refine BY II (fun(n:Int) _=>?_);exact yr (T56.Ak n) (zd rfl (zd rfl (zg (y8 rfl rfl rfl))))
theorem tP{e:Int}(h:e≠0)(q:Rat):([],e)=(Zj e q,ZX e q):=by
 unfold Zj ZX;rw[wd h,wd h]
theorem tT{f:An}{q:Rat}(h:Fe f q){e:Int}(he:e=0):(JH f,Hy f)=(Zj e q,ZX e q):=by
 rw[he,(XU h).1,(XU h).2]
theorem Fe.div{f g:An}{p q:Rat}(hf:Fe f p)(hg:Fe g q)(sp:KU 4000 p)(sq:KU 4000 q)(si:KU 4000 q⁻¹)(h0:q≠0):Fe (HP f g) (p/q):=by
 rw[Rat.div_def];exact Fe.mul hf (Fe.inv hg sq h0) sp si
theorem Qk(x y:Int):qz [x,y]=if x≠0 then x else y:=by
 by_cases h:x≠0
 ·rw[wd h];unfold qz
  simp[h]
 ·rw[wc h];have h:x=0:=by omega
  subst h;unfold qz qz qz
  simp;intro k;exact k.symm
theorem oT(n:Int):Ck n=[]:=by unfold Ck;split<;>rfl
theorem WB{n:Int}(h:CA n=true):Ba (n,Ck n)=true/\ya (n,Ck n)=n:=by
 rw[oT];have hr:=D4 h;refine⟨?_,Bk rfl⟩;unfold Ba;rw[show Sp.Db (n,([]:List Int))=true from KJ h,qc];rfl
theorem zG(n:Int)(h:CA n=true):Fe ((n,Ck n),(1,Ck 1)) (n:Rat):=by
 obtain⟨h1,h2⟩:=WB h;obtain⟨h3,h4⟩:=WB (n:=1) rfl;exact⟨(BV h1).1,(BV h3).1,h2.trans (Rat.num_intCast n).symm,h4.trans rfl⟩
section
open List Int Prod
namespace T19
def T(a b:List UInt8):Tr:=tree qT false 9 19 (Af ([zf,zf]) (a,b))
def L1(v0 v1:List UInt8):Tr:=re ((T [] []).L.L.L.R) (AE 63 [(0,.dat zf v0),(1,.dat zf v1)] [] 0)
theorem Ak(a b:List UInt8):T a b=let a':=zc .i64 (zc .i64 (iM a*Tc b)+zc .i64 (iM b*Tc a));let b':=zc .i64 (Tc a*Tc b);.ite (Bt a) (.ite (Bt b) (.ite (DJ a) (.ite (DJ b) (.ite (CA a'&&CA b'&&decide (zc .i64 (Tc a*Tc b)≠0)) (.leaf (.dat zf (C3 a' b')) []) .fail) (L1 a b)) (L1 a b)) .fail) .fail:=by kernel_rfl
theorem Ar(v0 v1:List UInt8):stepT qT (L1 v0 v1)=let b':=(Hd (BB v0,Bu v0) (Bj v1,Bg v1),HD (BB v0,Bu v0) (Bj v1,Bg v1));let c':=(Hd (BB v1,Bu v1) (Bj v0,Bg v0),HD (BB v1,Bu v1) (Bj v0,Bg v0));let d':=(Hd (Bj v0,Bg v0) (Bj v1,Bg v1),HD (Bj v0,Bg v0) (Bj v1,Bg v1));let a':=(Mw b' c',Ms b' c');.ite (Dd v0) (.ite (Dd v1) (.ite (CI (BB v0,Bu v0)&&CI (Bj v1,Bg v1)) (.ite (CI (BB v1,Bu v1)&&CI (Bj v0,Bg v0)) (.ite (CI b'&&CI c') (.ite (CI (Bj v0,Bg v0)&&CI (Bj v1,Bg v1)) (.ite (CI a'&&CI d'&&decide (Sp.vR d'≠0)) (.leaf (.dat zf (HK a' d')) ([(zo (zo (zo 0 1) 1) 1,.box [.dat zi (Bj v1),.dat (ze i64) (Bg v1)]),(zo (zo 0 1) 1,.box [.dat zi (BB v1),.dat (ze i64) (Bu v1)]),(zo 0 1,.box [.dat zi (Bj v0),.dat (ze i64) (Bg v0)]),(0,.box [.dat zi (BB v0),.dat (ze i64) (Bu v0)])])) .fail) .fail) .fail) .fail) .fail) .fail) .fail:=by kernel_rfl
end T19
namespace T20
def T(a b:List UInt8):Tr:=tree qT false 9 20 (Af ([zf,zf]) (a,b))
def L1(v0 v1:List UInt8):Tr:=re ((T [] []).L.L.L.R) (AE 55 [(0,.dat zf v0),(1,.dat zf v1)] [] 0)
theorem Ak(a b:List UInt8):T a b=let a':=zc .i64 (iM a*iM b);let b':=zc .i64 (Tc a*Tc b);.ite (Bt a) (.ite (Bt b) (.ite (DJ a) (.ite (DJ b) (.ite (CA a'&&CA b'&&decide (zc .i64 (Tc a*Tc b)≠0)) (.leaf (.dat zf (C3 a' b')) []) .fail) (L1 a b)) (L1 a b)) .fail) .fail:=by kernel_rfl
theorem Ar(v0 v1:List UInt8):stepT qT (L1 v0 v1)=let a':=(Hd (Bj v0,Bg v0) (Bj v1,Bg v1),HD (Bj v0,Bg v0) (Bj v1,Bg v1));let b':=(Hd (BB v0,Bu v0) (BB v1,Bu v1),HD (BB v0,Bu v0) (BB v1,Bu v1));.ite (Dd v0) (.ite (Dd v1) (.ite (CI (BB v0,Bu v0)&&CI (BB v1,Bu v1)) (.ite (CI (Bj v0,Bg v0)&&CI (Bj v1,Bg v1)) (.ite (CI b'&&CI a'&&decide (Sp.vR a'≠0)) (.leaf (.dat zf (HK b' a')) ([(zo (zo (zo 0 1) 1) 1,.box [.dat zi (Bj v1),.dat (ze i64) (Bg v1)]),(zo (zo 0 1) 1,.box [.dat zi (BB v1),.dat (ze i64) (Bu v1)]),(zo 0 1,.box [.dat zi (Bj v0),.dat (ze i64) (Bg v0)]),(0,.box [.dat zi (BB v0),.dat (ze i64) (Bu v0)])])) .fail) .fail) .fail) .fail) .fail:=by kernel_rfl
end T20
namespace T148
def T(a:List UInt8):Tr:=tree qT false 9 148 (Af ([zf]) a)
theorem Ak(a:List UInt8):T a=.ite (Dd a) (.ite (CI (Bj a,Bg a)&&CI (BB a,Bu a)&&decide (Sp.vR (BB a,Bu a)≠0)) (.leaf (.dat zf (HK (Bj a,Bg a) (BB a,Bu a))) ([(zo 0 1,.box [.dat zi (Bj a),.dat (ze i64) (Bg a)]),(0,.box [.dat zi (BB a),.dat (ze i64) (Bu a)])])) .fail) .fail:=by kernel_rfl
end T148
namespace T21
def T(a b:List UInt8):Tr:=tree XR7 false 9 21 (Af ([zf,zf]) (a,b))
theorem Ak(a b:List UInt8):T a b=.ite (decide (length b<=1000000)) (.ite (Bt a&&Bt (Lg b)) (.leaf (.dat zf (EH a (Lg b))) []) .fail) .fail:=by kernel_rfl
end T21
namespace T75
def T(a b:List UInt8):Tr:=tree XR7 false 9 75 (Af ([zf,zf]) (a,b))
theorem Ak(a b:List UInt8):T a b=.ite (ZZ b) (.ite (Bt a&&Bt (Qd b)) (.leaf (.dat zf (Es a (Qd b))) []) .fail) .fail:=by kernel_rfl
end T75
namespace T72
def T(a:List UInt8):Tr:=tree XR8 false 9 72 (Af ([zf]) a)
theorem Ak(a:List UInt8):T a=let a':=decide (length a<=1000000);let b':Tr:=.leaf (.dat i64 (4:Int)) [];.ite a' (.ite (decide (length (Ay a)<=1000000)) (.ite (decide ((↑(length (AZ (Ay a))):Int)>600)) b' (.ite a' (.ite (decide ((↑(length (Mo a)):Int)>600)) b' (.leaf (.dat i64 (0:Int)) [])) .fail)) .fail) .fail:=by kernel_rfl
end T72
namespace T204
def T(a:List Int)(i:Int):Tr:=tree XR0 false 9 204 (Af ([ze i64,z8 z6]) (a,i))
theorem Ak(a:List Int)(i:Int):T a i=.ite (decide (i<(length a:Int))) (.ite (decide (0<=i)&&decide (i<(length a:Int))) (.leaf (.dat i64 (getD a (toNat i) 0)) []) .fail) (.leaf (.dat i64 (0:Int)) []):=by kernel_rfl
end T204
namespace T160
def T(a b:List Int):Tr:=tree UU false 9 160 (Af ([ze i64,ze i64]) (a,b))
def L1(v0 v1:List Int)(v6 v7:Int):Tr:=re ((T [] [])) (AE 42 [(0,.dat (ze i64) v0),(1,.dat (ze i64) v1),(5,.nil),(6,.dat i64 v6),(7,.dat i64 v7)] [] 0)
theorem Ak(a b:List Int):T a b=L1 a b 0 0:=by kernel_rfl
def L2(v0 v1:List Int)(v5n:Nat)(v6 v7:Int)(o0:List Int):Tr:=re ((stepT UU (L1 [] [] 0 0)).L.L.L.L.L.L) (AE 42 [(0,.dat (ze i64) v0),(1,.dat (ze i64) v1),(5,.sl 0 1 0 v5n none),(6,.dat i64 v6),(7,.dat i64 v7)] [(0,.arr false 3 i64 o0)] 1)
theorem Ar(v0 v1:List Int)(v6 v7:Int):stepT UU (L1 v0 v1 v6 v7)=.ite (decide (v7<(length v0:Int))) (.ite (decide (0<=v7)) (.ite (decide (0<=v7)) (.ite true (.ite (decide (1<=1)&&decide (0<1)&&decide ((2*1+1000)*8<=281474976710656)) (.ite true (L2 v0 v1 1 (zc .i64 (qk (zc .i64 (zc .i64 (HM v0 v7+HM v1 v7)+v6)) 1000000000)) (zc .i64 (v7+1)) ([yv (zc .i64 (zc .i64 (HM v0 v7+HM v1 v7)+v6)) 1000000000])) .fail) .fail) .fail) .fail) .fail) (.ite (decide (v7<(length v1:Int))) (.ite (decide (0<=v7)) (.ite (decide (0<=v7)) (.ite true (.ite (decide (1<=1)&&decide (0<1)&&decide ((2*1+1000)*8<=281474976710656)) (.ite true (L2 v0 v1 1 (zc .i64 (qk (zc .i64 (zc .i64 (HM v0 v7+HM v1 v7)+v6)) 1000000000)) (zc .i64 (v7+1)) ([yv (zc .i64 (zc .i64 (HM v0 v7+HM v1 v7)+v6)) 1000000000])) .fail) .fail) .fail) .fail) .fail) (.ite (decide (v6>0)) (.ite (decide (0<=v7)) (.ite (decide (0<=v7)) (.ite true (.ite (decide (1<=1)&&decide (0<1)&&decide ((2*1+1000)*8<=281474976710656)) (.ite true (L2 v0 v1 1 (zc .i64 (qk (zc .i64 (zc .i64 (HM v0 v7+HM v1 v7)+v6)) 1000000000)) (zc .i64 (v7+1)) ([yv (zc .i64 (zc .i64 (HM v0 v7+HM v1 v7)+v6)) 1000000000])) .fail) .fail) .fail) .fail) .fail) (.leaf .nil []))):=by kernel_rfl
theorem AV(v0 v1:List Int)(v5n:Nat)(v6 v7:Int)(o0:List Int):stepT UU (L2 v0 v1 v5n v6 v7 o0)=.ite (decide (v7<(length v0:Int))) (.ite (decide (0<=v7)) (.ite (decide (0<=v7)) (.ite true (.ite (decide (1<=1)&&true&&decide (v5n=length o0)&&decide ((2*(v5n+1)+1000)*8<=281474976710656)) (.ite true (L2 v0 v1 (zo v5n 1) (zc .i64 (qk (zc .i64 (zc .i64 (HM v0 v7+HM v1 v7)+v6)) 1000000000)) (zc .i64 (v7+1)) (o0++[yv (zc .i64 (zc .i64 (HM v0 v7+HM v1 v7)+v6)) 1000000000])) .fail) .fail) .fail) .fail) .fail) (.ite (decide (v7<(length v1:Int))) (.ite (decide (0<=v7)) (.ite (decide (0<=v7)) (.ite true (.ite (decide (1<=1)&&true&&decide (v5n=length o0)&&decide ((2*(v5n+1)+1000)*8<=281474976710656)) (.ite true (L2 v0 v1 (zo v5n 1) (zc .i64 (qk (zc .i64 (zc .i64 (HM v0 v7+HM v1 v7)+v6)) 1000000000)) (zc .i64 (v7+1)) (o0++[yv (zc .i64 (zc .i64 (HM v0 v7+HM v1 v7)+v6)) 1000000000])) .fail) .fail) .fail) .fail) .fail) (.ite (decide (v6>0)) (.ite (decide (0<=v7)) (.ite (decide (0<=v7)) (.ite true (.ite (decide (1<=1)&&true&&decide (v5n=length o0)&&decide ((2*(v5n+1)+1000)*8<=281474976710656)) (.ite true (L2 v0 v1 (zo v5n 1) (zc .i64 (qk (zc .i64 (zc .i64 (HM v0 v7+HM v1 v7)+v6)) 1000000000)) (zc .i64 (v7+1)) (o0++[yv (zc .i64 (zc .i64 (HM v0 v7+HM v1 v7)+v6)) 1000000000])) .fail) .fail) .fail) .fail) .fail) (.leaf (.sl 0 1 0 v5n none) ([(0,.arr false 3 i64 o0)])))):=by kernel_rfl
end T160
namespace T162
def T(a b:List Int):Tr:=tree UU false 9 162 (Af ([ze i64,ze i64]) (a,b))
def L1(v0 v1:List Int)(v6 v7:Int):Tr:=re ((T [] [])) (AE 35 [(0,.dat (ze i64) v0),(1,.dat (ze i64) v1),(5,.nil),(6,.dat i64 v6),(7,.dat i64 v7)] [] 0)
theorem Ak(a b:List Int):T a b=L1 a b 0 0:=by kernel_rfl
def L2(v0 v1:List Int)(v5n:Nat)(v6 v7:Int)(o0:List Int):Tr:=re ((stepT UU (L1 [] [] 0 0)).L.L.L.L.L) (AE 35 [(0,.dat (ze i64) v0),(1,.dat (ze i64) v1),(5,.sl 0 1 0 v5n none),(6,.dat i64 v6),(7,.dat i64 v7)] [(0,.arr false 3 i64 o0)] 1)
theorem Ar(v0 v1:List Int)(v6 v7:Int):stepT UU (L1 v0 v1 v6 v7)=.ite (decide (v7<(length v0:Int))) (.ite (decide (0<=v7)&&decide (v7<(length v0:Int))) (.ite (decide (0<=v7)) (.ite (decide (zc .i64 (zc .i64 (getD v0 (toNat v7) 0-HM v1 v7)-v6)<0)) (.ite (decide (1<=1)&&decide (0<1)&&decide ((2*1+1000)*8<=281474976710656)) (L2 v0 v1 1 1 (zc .i64 (v7+1)) ([zc .i64 (zc .i64 (zc .i64 (getD v0 (toNat v7) 0-HM v1 v7)-v6)+1000000000)])) .fail) (.ite (decide (1<=1)&&decide (0<1)&&decide ((2*1+1000)*8<=281474976710656)) (L2 v0 v1 1 0 (zc .i64 (v7+1)) ([zc .i64 (zc .i64 (getD v0 (toNat v7) 0-HM v1 v7)-v6)])) .fail)) .fail) .fail) (.ite true (.leaf (.dat (ze i64) (Au [])) []) .fail):=by kernel_rfl
theorem AV(v0 v1:List Int)(v5n:Nat)(v6 v7:Int)(o0:List Int):stepT UU (L2 v0 v1 v5n v6 v7 o0)=.ite (decide (v7<(length v0:Int))) (.ite (decide (0<=v7)&&decide (v7<(length v0:Int))) (.ite (decide (0<=v7)) (.ite (decide (zc .i64 (zc .i64 (getD v0 (toNat v7) 0-HM v1 v7)-v6)<0)) (.ite (decide (1<=1)&&true&&decide (v5n=length o0)&&decide ((2*(v5n+1)+1000)*8<=281474976710656)) (L2 v0 v1 (zo v5n 1) 1 (zc .i64 (v7+1)) (o0++[zc .i64 (zc .i64 (zc .i64 (getD v0 (toNat v7) 0-HM v1 v7)-v6)+1000000000)])) .fail) (.ite (decide (1<=1)&&true&&decide (v5n=length o0)&&decide ((2*(v5n+1)+1000)*8<=281474976710656)) (L2 v0 v1 (zo v5n 1) 0 (zc .i64 (v7+1)) (o0++[zc .i64 (zc .i64 (getD v0 (toNat v7) 0-HM v1 v7)-v6)])) .fail)) .fail) .fail) (.ite (decide (0+v5n<=length o0)&&true&&decide (length (take v5n o0)<=20000)) (.leaf (.dat (ze i64) (Au (take v5n o0))) ([(0,.arr true 3 i64 o0)])) .fail):=by kernel_rfl
end T162
namespace T84
def T(a b:Bool×List Int):Tr:=tree XR2 false 9 84 (Af ([zy zi (ze i64),zy zi (ze i64)]) (a,b))
theorem Ak(a b:Bool×List Int):T a b=.ite (fst a==fst b) (.ite (jO (snd a) (snd b)) (.ite (decide (length (LR (snd a) (snd b))<=20000)) (.leaf (PV.agg [.dat zi (Cd (fst a) (LR (snd a) (snd b))),.dat (ze i64) (Au (LR (snd a) (snd b)))]) ([(zo (zo 0 1) 1,.box [.dat zi (Cd (fst a) (LR (snd a) (snd b))),.dat (ze i64) (Au (LR (snd a) (snd b)))]),(zo 0 1,.box [.dat zi (fst b),.dat (ze i64) (snd b)]),(0,.box [.dat zi (fst a),.dat (ze i64) (snd a)])])) .fail) .fail) (.ite (A8 (snd a)&&A8 (snd b)) (.ite (decide (Ci (At (snd a)) (At (snd b))>=0)) (.ite (jO (snd a) (snd b)&&decide (At (snd b)<=At (snd a))) (.ite (decide (length (Gt (snd a) (snd b))<=20000)) (.leaf (PV.agg [.dat zi (Cd (fst a) (Gt (snd a) (snd b))),.dat (ze i64) (Au (Gt (snd a) (snd b)))]) ([(zo (zo 0 1) 1,.box [.dat zi (Cd (fst a) (Gt (snd a) (snd b))),.dat (ze i64) (Au (Gt (snd a) (snd b)))]),(zo 0 1,.box [.dat zi (fst b),.dat (ze i64) (snd b)]),(0,.box [.dat zi (fst a),.dat (ze i64) (snd a)])])) .fail) .fail) (.ite (jO (snd b) (snd a)&&decide (At (snd a)<=At (snd b))) (.ite (decide (length (Gt (snd b) (snd a))<=20000)) (.leaf (PV.agg [.dat zi (Cd (fst b) (Gt (snd b) (snd a))),.dat (ze i64) (Au (Gt (snd b) (snd a)))]) ([(zo (zo 0 1) 1,.box [.dat zi (Cd (fst b) (Gt (snd b) (snd a))),.dat (ze i64) (Au (Gt (snd b) (snd a)))]),(zo 0 1,.box [.dat zi (fst b),.dat (ze i64) (snd b)]),(0,.box [.dat zi (fst a),.dat (ze i64) (snd a)])])) .fail) .fail)) .fail):=by kernel_rfl
end T84
namespace T85
def T(a b:Bool×List Int):Tr:=tree XR2 false 9 85 (Af ([zy zi (ze i64),zy zi (ze i64)]) (a,b))
theorem Ak(a b:Bool×List Int):T a b=.ite (Sp.hR (snd a)&&Sp.hR (snd b)) (.ite (decide (length (BQ (At (snd a)*At (snd b)))<=20000)) (.leaf (PV.agg [.dat zi (Cd (!fst a==fst b) (BQ (At (snd a)*At (snd b)))),.dat (ze i64) (Au (BQ (At (snd a)*At (snd b))))]) ([(zo (zo 0 1) 1,.box [.dat zi (Cd (!fst a==fst b) (BQ (At (snd a)*At (snd b)))),.dat (ze i64) (Au (BQ (At (snd a)*At (snd b))))]),(zo 0 1,.box [.dat zi (fst b),.dat (ze i64) (snd b)]),(0,.box [.dat zi (fst a),.dat (ze i64) (snd a)])])) .fail) .fail:=by kernel_rfl
end T85
namespace T156
def T(a:Bool×List Int):Tr:=tree XR2 false 9 156 (Af ([zy zi (ze i64)]) a)
theorem Ak(a:Bool×List Int):T a=.ite (decide (length (snd a)<=20000)) (.leaf (PV.agg [.dat zi (Cd (!fst a) (snd a)),.dat (ze i64) (Au (snd a))]) ([(zo 0 1,.box [.dat zi (Cd (!fst a) (snd a)),.dat (ze i64) (Au (snd a))]),(0,.box [.dat zi (fst a),.dat (ze i64) (snd a)])])) .fail:=by kernel_rfl
end T156
namespace T158
def T(a:Bool×List Int):Tr:=tree XR3 false 9 158 (Af ([zy zi (ze i64)]) a)
def L1(v3:List UInt8)(v4:Int)(o0:Bool)(o0_1:List Int):Tr:=re ((T (false,[])).R.L.L) (AE 39 [(1,.ptr 0 0),(3,.dat zf v3),(4,.dat i64 v4)] [(0,.box [.dat zi o0,.dat (ze i64) o0_1])] 1)
theorem Ak(a:Bool×List Int):T a=.ite ((↑(length (snd a)):Int)==0) (.leaf (.dat zf [(48:UInt8)]) ([(0,.box [.dat zi (fst a),.dat (ze i64) (snd a)])])) (.ite (decide (0<=zc .i64 ((↑(length (snd a)):Int)-1))&&decide (zc .i64 ((↑(length (snd a)):Int)-1)<(↑(length (snd a)):Int))) (.ite (decide (0<=getD (snd a) (toNat (zc .i64 ((↑(length (snd a)):Int)-1))) 0)&&decide (getD (snd a) (toNat (zc .i64 ((↑(length (snd a)):Int)-1))) 0<9223372036854775808)&&decide (0<=1)&&decide (1<=20)) (L1 (HQ (getD (snd a) (toNat (zc .i64 ((↑(length (snd a)):Int)-1))) 0) 1) (zc .i64 ((↑(length (snd a)):Int)-2)) (fst a) (snd a)) .fail) .fail):=by kernel_rfl
theorem Ar(v3:List UInt8)(v4:Int)(o0:Bool)(o0_1:List Int):stepT XR3 (L1 v3 v4 o0 o0_1)=.ite (decide (v4>=0)) (.ite (decide (0<=v4)&&decide (v4<(length o0_1:Int))) (.ite (decide (0<=getD o0_1 (toNat v4) 0)&&decide (getD o0_1 (toNat v4) 0<9223372036854775808)&&decide (0<=9)&&decide (9<=20)) (.ite (decide (length v3+length (HQ (getD o0_1 (toNat v4) 0) 9)<=4611686018427387904)) (L1 (v3++HQ (getD o0_1 (toNat v4) 0) 9) (zc .i64 (v4-1)) o0 o0_1) .fail) .fail) .fail) (.ite o0 (.ite (decide (1+length v3<=4611686018427387904)) (.leaf (.dat zf ([(45:UInt8)]++v3)) ([(0,.box [.dat zi o0,.dat (ze i64) o0_1])])) .fail) (.leaf (.dat zf v3) ([(0,.box [.dat zi o0,.dat (ze i64) o0_1])]))):=by kernel_rfl
end T158
namespace T83
def T(a b:Bool×List Int):Tr:=tree jP false 9 83 (Af ([zy zi (ze i64),zy zi (ze i64)]) (a,b))
def L1(o1:Bool)(o1_1:List Int)(o0:Bool)(o0_1:List Int):Tr:=re ((T (false,[]) (false,[])).L.L.L) (AE 57 [(2,.ptr 0 0),(3,.ptr 1 0)] [(1,.box [.dat zi o1,.dat (ze i64) o1_1]),(0,.box [.dat zi o0,.dat (ze i64) o0_1])] 2)
theorem Ak(a b:Bool×List Int):T a b=.ite (fst b) (.ite (CI (fst a,snd a)) (.ite (CI (fst b,snd b)) (L1 (Se (fst b,snd b)) (Ry (fst b,snd b)) (Se (fst a,snd a)) (Ry (fst a,snd a))) .fail) .fail) (L1 (fst b) (snd b) (fst a) (snd a)):=by kernel_rfl
def L2(v8:List Int)(v10:List UInt8):Tr:=re ((stepT jP (L1 false [] false [])).L.L.L.L.L) (AE 57 [(8,.dat (ze i64) v8),(10,.dat zf v10)] [] 0)
theorem Ar(o1:Bool)(o1_1:List Int)(o0:Bool)(o0_1:List Int):stepT jP (L1 o1 o1_1 o0 o0_1)=.ite (A8 o0_1&&A8 o1_1&&decide (length o0_1<=9000)&&decide (length o1_1<=9000)) (.ite (A8 o0_1&&A8 (Cm o0_1 o1_1)&&decide (length o0_1<=9000)&&decide (length (Cm o0_1 o1_1)<=9000)&&decide (0<At (Cm o0_1 o1_1))) (.ite (A8 o1_1&&A8 (Cm o0_1 o1_1)&&decide (length o1_1<=9000)&&decide (length (Cm o0_1 o1_1)<=9000)&&decide (0<At (Cm o0_1 o1_1))) (.ite (decide (length (BQ (At o0_1/At (Cm o0_1 o1_1)))<=20000)) (.ite (CI (Cd o0 (BQ (At o0_1/At (Cm o0_1 o1_1))),Au (BQ (At o0_1/At (Cm o0_1 o1_1))))) (L2 (BQ (At o1_1/At (Cm o0_1 o1_1))) (HF (Cd o0 (BQ (At o0_1/At (Cm o0_1 o1_1))),Au (BQ (At o0_1/At (Cm o0_1 o1_1)))))) .fail) .fail) .fail) .fail) .fail:=by kernel_rfl
def L3(v8:List Int)(v10:List UInt8):Tr:=re ((stepT jP (L2 [] [])).L.L.R) (AE 57 [(8,.dat (ze i64) v8),(10,.dat zf v10)] [] 0)
theorem AV(v8:List Int)(v10:List UInt8):stepT jP (L2 v8 v10)=.ite ((length v8:Int)==1) (.ite (decide (0<(length v8:Int))) (.ite (getD v8 0 0==1) (.leaf (.dat zf v10) []) (L3 v8 v10)) .fail) (L3 v8 v10):=by kernel_rfl
theorem CF(v8:List Int)(v10:List UInt8):stepT jP (L3 v8 v10)=.ite (decide (length v10+1<=4611686018427387904)) (.ite (decide (length v8<=20000)) (.ite (CI (Cd false v8,Au v8)) (.ite (decide (length (v10++[(47:UInt8)])+length (HF (Cd false v8,Au v8))<=4611686018427387904)) (.leaf (.dat zf (v10++[(47:UInt8)]++HF (Cd false v8,Au v8))) []) .fail) .fail) .fail) .fail:=by kernel_rfl
end T83
namespace T81
def T(n d:Int):Tr:=tree Z2 false 9 81 (Af ([z8 z6,z8 z6]) (n,d))
def L1(v0 v1:Int):Tr:=re ((T 0 0).R.R.R.R) (AE 61 [(0,.dat i64 v0),(1,.dat i64 v1)] [] 0)
theorem Ak(n d:Int):T n d=.ite (decide (n<(-4000000000000000000))) (.ite (CA n) (.ite (CA d) (.ite (CI (ql n,qm n)&&CI (ql d,qm d)&&decide (Sp.vR (ql d,qm d)≠0)) (.leaf (.dat zf (HK (ql n,qm n) (ql d,qm d))) []) .fail) .fail) .fail) (.ite (decide (n>4000000000000000000)) (.ite (CA n) (.ite (CA d) (.ite (CI (ql n,qm n)&&CI (ql d,qm d)&&decide (Sp.vR (ql d,qm d)≠0)) (.leaf (.dat zf (HK (ql n,qm n) (ql d,qm d))) []) .fail) .fail) .fail) (.ite (decide (d<(-4000000000000000000))) (.ite (CA n) (.ite (CA d) (.ite (CI (ql n,qm n)&&CI (ql d,qm d)&&decide (Sp.vR (ql d,qm d)≠0)) (.leaf (.dat zf (HK (ql n,qm n) (ql d,qm d))) []) .fail) .fail) .fail) (.ite (decide (d>4000000000000000000)) (.ite (CA n) (.ite (CA d) (.ite (CI (ql n,qm n)&&CI (ql d,qm d)&&decide (Sp.vR (ql d,qm d)≠0)) (.leaf (.dat zf (HK (ql n,qm n) (ql d,qm d))) []) .fail) .fail) .fail) (L1 n d)))):=by kernel_rfl
def L2(v0 v1:Int):Tr:=re ((stepT Z2 (L1 0 0)).L) (AE 61 [(0,.dat i64 v0),(1,.dat i64 v1)] [] 0)
theorem Ar(v0 v1:Int):stepT Z2 (L1 v0 v1)=.ite (decide (v1<0)) (L2 (zc .i64 (0-v0)) (zc .i64 (0-v1))) (L2 v0 v1):=by kernel_rfl
def L3(v0 v1:Int):Tr:=re ((stepT Z2 (L2 0 0)).L.L.L) (AE 61 [(0,.dat i64 v0),(1,.dat i64 v1)] [] 0)
theorem AV(v0 v1:Int):stepT Z2 (L2 v0 v1)=.ite (xZ (imax v0 (zc .i64 (0-v0))) v1) (.ite (decide (Sp.gI (imax v0 (zc .i64 (0-v0))) v1≠0)) (.ite (decide (Sp.gI (imax v0 (zc .i64 (0-v0))) v1≠0)) (L3 (zc .i64 (qk v0 (Sp.gI (imax v0 (zc .i64 (0-v0))) v1))) (zc .i64 (qk v1 (Sp.gI (imax v0 (zc .i64 (0-v0))) v1)))) .fail) .fail) .fail:=by kernel_rfl
def L4(v1:Int)(v6:List UInt8):Tr:=re ((stepT Z2 (L3 0 0)).L.L.L) (AE 61 [(1,.dat i64 v1),(6,.dat zf v6)] [] 0)
theorem CF(v0 v1:Int):stepT Z2 (L3 v0 v1)=.ite (decide (v0<0)) (.ite (decide (0<=imax v0 (zc .i64 (0-v0)))&&decide (imax v0 (zc .i64 (0-v0))<9223372036854775808)&&decide (0<=1)&&decide (1<=20)) (.ite (decide (1+length (HQ (imax v0 (zc .i64 (0-v0))) 1)<=4611686018427387904)) (L4 v1 ([(45:UInt8)]++HQ (imax v0 (zc .i64 (0-v0))) 1)) .fail) .fail) (.ite (decide (0<=imax v0 (zc .i64 (0-v0)))&&decide (imax v0 (zc .i64 (0-v0))<9223372036854775808)&&decide (0<=1)&&decide (1<=20)) (.ite (decide (0+length (HQ (imax v0 (zc .i64 (0-v0))) 1)<=4611686018427387904)) (L4 v1 ([]++HQ (imax v0 (zc .i64 (0-v0))) 1)) .fail) .fail):=by kernel_rfl
theorem Cy(v1:Int)(v6:List UInt8):stepT Z2 (L4 v1 v6)=.ite (decide (v1>1)) (.ite (decide (length v6+1<=4611686018427387904)) (.ite (decide (0<=v1)&&decide (v1<9223372036854775808)&&decide (0<=1)&&decide (1<=20)) (.ite (decide (length (v6++[(47:UInt8)])+length (HQ v1 1)<=4611686018427387904)) (.leaf (.dat zf (v6++[(47:UInt8)]++HQ v1 1)) []) .fail) .fail) .fail) (.leaf (.dat zf v6) []):=by kernel_rfl
end T81
namespace T153
def T(a b:Int):Tr:=tree Nw false 9 153 (Af ([z8 z6,z8 z6]) (a,b))
def L1(v0 v1:Int):Tr:=re ((T 0 0)) (AE 12 [(0,.dat i64 v0),(1,.dat i64 v1)] [] 0)
theorem Ak(a b:Int):T a b=L1 a b:=by kernel_rfl
theorem Ar(v0 v1:Int):stepT Nw (L1 v0 v1)=.ite (decide (v1>0)) (.ite (decide (v1≠0)) (L1 v1 (yv v0 v1)) .fail) (.leaf (.dat i64 v0) []):=by kernel_rfl
end T153
namespace T79
def T(s:List UInt8):Tr:=tree Nw false 9 79 (Af ([zf]) s)
theorem Ak(s:List UInt8):T s=let a':Tr:=.leaf (.dat i64 (1:Int)) [];.ite (s==[(48:UInt8)]) (.leaf (.dat i64 (0:Int)) []) (.ite (decide ((length s:Int)>0)) (.ite (decide (0<(length s:Int))) (.ite ((↑(UInt8.toNat (getD s 0 (0:UInt8))):Int)==45) (.leaf (.dat i64 (-1:Int)) []) a') .fail) a'):=by kernel_rfl
end T79
namespace T86
def T(s:List UInt8):Tr:=tree XO2 false 9 86 (Af ([zf]) s)
theorem Ak(s:List UInt8):T s=let a':=decide (length s<=1000000);.ite a' (.ite (decide (Ig s<0)) (.ite (decide (1<=length s)&&decide (length s<=length s)) (.leaf (.dat zf (take (yx (length s) 1) (drop 1 s))) []) .fail) (.ite a' (.ite (Ig s==0) (.leaf (.dat zf s) []) (.ite (decide (1+length s<=4611686018427387904)) (.leaf (.dat zf ([(45:UInt8)]++s)) []) .fail)) .fail)) .fail:=by kernel_rfl
end T86
namespace T154
def T(n l:Int):Tr:=tree Nw false 9 154 (Af ([z8 z6,z8 z6]) (n,l))
def L1(v0 v1:Int)(v5:List UInt8):Tr:=re ((T 0 0)) (AE 25 [(0,.dat i64 v0),(1,.dat i64 v1),(5,.dat zf v5)] [] 0)
theorem Ak(n l:Int):T n l=L1 n l []:=by kernel_rfl
theorem Ar(v0 v1:Int)(v5:List UInt8):stepT Nw (L1 v0 v1 v5)=let c':=zc .i64 (yv v0 10+1);let d':=toNat (yv v0 10);let b':=drop d' [(48:UInt8),(49:UInt8),(50:UInt8),(51:UInt8),(52:UInt8),(53:UInt8),(54:UInt8),(55:UInt8),(56:UInt8),(57:UInt8)];let a':Tr:=.ite true (.ite true (.ite (decide (0<=yv v0 10)&&decide (0<=zc .i64 (yv v0 10+1))&&decide (toNat (yv v0 10)<=toNat c')&&decide (toNat c'<=10)) (.ite (decide (length (take (yx (toNat c') d') b')+length v5<=4611686018427387904)) (.ite true (L1 (zc .i64 (qk v0 10)) v1 (take (yx (toNat c') d') b'++v5)) .fail) .fail) .fail) .fail) .fail;.ite (decide (v0>0)) a' (.ite (decide ((length v5:Int)<v1)) a' (.leaf (.dat zf v5) [])):=by kernel_rfl
end T154
namespace T80
def T(s:List UInt8):Tr:=tree Nj false 9 80 (Af ([zf]) s)
def L1(v5:List UInt8)(v6:Bool):Tr:=re ((T []).R.L.L) (AE 54 [(5,.dat zf v5),(6,.dat zi v6)] [] 0)
def L2(v5:List UInt8):Tr:=re ((T []).R.R) (AE 54 [(5,.dat zf v5),(6,.bl false)] [] 0)
theorem Ak(s:List UInt8):T s=let a':=(length s:Int);.ite (decide (a'>20)) (.leaf (.tup [.dat i64 (0:Int),.dat i64 (0:Int),.bl false]) []) (.ite (decide (a'>0)) (.ite (decide (0<a')) (L1 s ((↑(UInt8.toNat (getD s 0 (0:UInt8))):Int)==45)) .fail) (L2 s)):=by kernel_rfl
def L3(v5:List UInt8)(v6:Bool):Tr:=re ((stepT Nj (L1 [] false)).L.L) (AE 54 [(5,.dat zf v5),(6,.dat zi v6)] [] 0)
theorem Ar(v5:List UInt8)(v6:Bool):stepT Nj (L1 v5 v6)=.ite v6 (.ite (decide (1<=length v5)&&decide (length v5<=length v5)) (L3 (take (yx (length v5) 1) (drop 1 v5)) v6) .fail) (L3 v5 v6):=by kernel_rfl
def L4(v5:List UInt8):Tr:=re ((stepT Nj (L2 []))) (AE 54 [(5,.dat zf v5),(6,.bl false)] [] 0)
theorem AV(v5:List UInt8):stepT Nj (L2 v5)=L4 v5:=by kernel_rfl
def L5(v5:List UInt8)(v6:Bool)(v7 v8 v9:Int):Tr:=re ((stepT Nj (L3 [] false)).L.R.R.L.L) (AE 54 [(5,.dat zf v5),(6,.dat zi v6),(7,.dat i64 v7),(8,.dat i64 v8),(9,.dat i64 v9)] [] 0)
theorem CF(v5:List UInt8)(v6:Bool):stepT Nj (L3 v5 v6)=let a':Tr:=.leaf (.tup [.dat i64 (0:Int),.dat i64 (0:Int),.bl false]) [];let b':=A0 v5;.ite (decide (length v5<=1000000)) (.ite (decide (A0 v5>9)) a' (.ite (decide (zc .i64 ((length v5:Int)-A0 v5)>10)) a' (.ite (decide (0<=A0 v5)&&decide (0<=toNat b')&&decide (toNat b'<=length v5)) (.ite (DM (take (toNat b') v5)) (L5 v5 v6 b' (By (take (toNat b') v5)) 1) .fail) .fail))) .fail:=by kernel_rfl
def L6(v5:List UInt8)(v7 v8 v9:Int):Tr:=re ((stepT Nj (L4 [])).L.R.R.L.L) (AE 54 [(5,.dat zf v5),(6,.bl false),(7,.dat i64 v7),(8,.dat i64 v8),(9,.dat i64 v9)] [] 0)
theorem Cy(v5:List UInt8):stepT Nj (L4 v5)=let a':Tr:=.leaf (.tup [.dat i64 (0:Int),.dat i64 (0:Int),.bl false]) [];let b':=A0 v5;.ite (decide (length v5<=1000000)) (.ite (decide (A0 v5>9)) a' (.ite (decide (zc .i64 ((length v5:Int)-A0 v5)>10)) a' (.ite (decide (0<=A0 v5)&&decide (0<=toNat b')&&decide (toNat b'<=length v5)) (.ite (DM (take (toNat b') v5)) (L6 v5 b' (By (take (toNat b') v5)) 1) .fail) .fail))) .fail:=by kernel_rfl
def L7(v6:Bool)(v8 v9:Int):Tr:=re ((stepT Nj (L5 [] false 0 0 0)).L.L.L) (AE 54 [(6,.dat zi v6),(8,.dat i64 v8),(9,.dat i64 v9)] [] 0)
theorem EY(v5:List UInt8)(v6:Bool)(v7 v8 v9:Int):stepT Nj (L5 v5 v6 v7 v8 v9)=let b':=zc .i64 (v7+1);let a':=take (yx (length v5) (toNat b')) (drop (toNat b') v5);.ite (decide (v7<(length v5:Int))) (.ite (decide (0<=zc .i64 (v7+1))&&true&&decide (toNat b'<=length v5)&&decide (length v5<=length v5)) (.ite (DM a') (L7 v6 v8 (By a')) .fail) .fail) (L7 v6 v8 v9):=by kernel_rfl
def L8(v8 v9:Int):Tr:=re ((stepT Nj (L6 [] 0 0 0)).L.L.L) (AE 54 [(6,.bl false),(8,.dat i64 v8),(9,.dat i64 v9)] [] 0)
theorem FU(v5:List UInt8)(v7 v8 v9:Int):stepT Nj (L6 v5 v7 v8 v9)=let b':=zc .i64 (v7+1);let a':=take (yx (length v5) (toNat b')) (drop (toNat b') v5);.ite (decide (v7<(length v5:Int))) (.ite (decide (0<=zc .i64 (v7+1))&&true&&decide (toNat b'<=length v5)&&decide (length v5<=length v5)) (.ite (DM a') (L8 v8 (By a')) .fail) .fail) (L8 v8 v9):=by kernel_rfl
theorem EP(v6:Bool)(v8 v9:Int):stepT Nj (L7 v6 v8 v9)=.ite v6 (.leaf (.tup [.dat i64 (zc .i64 (0-v8)),.dat i64 v9,.bl true]) []) (.leaf (.tup [.dat i64 v8,.dat i64 v9,.bl true]) []):=by kernel_rfl
theorem JC(v8 v9:Int):stepT Nj (L8 v8 v9)=.leaf (.tup [.dat i64 v8,.dat i64 v9,.bl true]) []:=by kernel_rfl
end T80
namespace T52
def T(a:List UInt8):Tr:=tree Nw false 9 52 (Af ([zf]) a)
theorem Ak(a:List UInt8):T a=let a':Tr:=.ite (decide (1<=length a)&&decide (length a<=length a)) (.leaf (.dat zf (take (yx (length a) 1) (drop 1 a))) []) .fail;let b':Tr:=.ite false a' (.leaf (.dat zf a) []);.ite (a==[(48:UInt8)]) b' (.ite (decide ((length a:Int)>0)) (.ite (decide (0<(length a:Int))) (.ite ((↑(UInt8.toNat (getD a 0 (0:UInt8))):Int)==45) (.ite true a' (.leaf (.dat zf a) [])) b') .fail) b'):=by kernel_rfl
end T52
namespace T53
def T(a:List UInt8):Tr:=tree XM5 false 9 53 (Af ([zf]) a)
theorem Ak(a:List UInt8):T a=.ite (decide (length a<=1000000)) (.ite (decide (0<=A0 a)&&decide (0<=toNat (A0 a))&&decide (toNat (A0 a)<=length a)) (.leaf (.dat zf (take (toNat (A0 a)) a)) []) .fail) .fail:=by kernel_rfl
end T53
namespace T54
def T(a:List UInt8):Tr:=tree XM5 false 9 54 (Af ([zf]) a)
theorem Ak(a:List UInt8):T a=let a':=zc .i64 (A0 a+1);.ite (decide (length a<=1000000)) (.ite (A0 a==(length a:Int)) (.leaf (.dat zf [(49:UInt8)]) []) (.ite (decide (0<=zc .i64 (A0 a+1))&&true&&decide (toNat a'<=length a)&&decide (length a<=length a)) (.leaf (.dat zf (take (yx (length a) (toNat a')) (drop (toNat a') a))) []) .fail)) .fail:=by kernel_rfl
end T54
namespace T10
def T(a:List UInt8)(n:Int):Tr:=tree XM3 false 9 10 (Af ([zf,z8 z6]) (a,n))
theorem Ak(a:List UInt8)(n:Int):T a n=let a':=decide (length a<=1000000);let b':Tr:=.leaf (.bl false) [];.ite (decide ((length a:Int)<=zc .i64 (zc .i64 (2*n)+2))) (.ite a' (.ite (AG a==0) (.ite a' (.ite (decide (length (Ay a)<=1000000)) (.ite (decide ((↑(length (AZ (Ay a))):Int)<=n)) (.ite a' (.leaf (.dat zi (decide ((↑(length (Mo a)):Int)<=n))) []) .fail) b') .fail) .fail) b') .fail) b':=by kernel_rfl
end T10
end
theorem Xi:DQ XM5:=Ab T127.ok AQ
theorem T52.ok:Ag Bf 52 WA:=by
 refine BY E9 (fun(a:List UInt8) hl=>?_);have hl:a.length<=1000000:=w6 hl;have hq:∀s ob,s=AZ a->Ad WA a (.dat .str s) ob:=fun s ob h=>y8 rfl rfl h
 refine yr (T52.Ak a) (yq (fun c=>z7 rfl (zg (hq _ _ ?_))) (fun c=>?_))
 ·have c:a=[48]:=by simpa using c
  subst c;rfl
 ·cases a with
  |nil=>exact z7 rfl (z7 rfl (zg (hq _ _ rfl)))
  |cons x r=>
   have g0:(x::r).getD 0 0=x:=rfl;have e:(j9 1 (x::r)).take (yx (x::r).length 1)=r:=by show r.take ((r.length+1)-1)=r;rw[qg];exact List.take_length
   rw[g0,e];refine zd (by simp) (zd (by simp) (yq (fun d=>zd rfl (zd (by simp) (zg (hq _ _ ?_)))) (fun d=>z7 rfl (zg (hq _ _ ?_)))))
   ·have hc:x=45:=by
     have:(x.toNat:Int)=45:=by simpa using d
     exact UInt8.toNat_inj.1 (by show _=45;omega)
    unfold AZ;rw[g0,wd hc];rfl
   ·have hc:x≠45:=by rintro rfl;exact wh d (by decide)
    unfold AZ;rw[g0,wc hc]
theorem T53.ok:Ag Bf 53 cS:=by
 refine BY Xi (fun(a:List UInt8) hl=>?_);have hle:=(T69.C2 a).1;refine yr (T53.Ak a) (zd hl ?_);rw[show A0 a=((Ay a).length:Int)from rfl,zp];exact zd (by simp;omega) (zg (y8 rfl rfl (BN a).1.symm))
theorem T54.ok:Ag Bf 54 XG:=by
 refine BY Xi (fun(a:List UInt8) hl=>?_);have hl':a.length<=1000000:=w6 hl;obtain⟨c1,c2,c3⟩:=BN a;have hq:∀s ob,s=Mo a->Ad XG a (.dat .str s) ob:=fun s ob h=>y8 rfl rfl h
 have hle:=(T69.C2 a).1;have es:A0 a=((Ay a).length:Int):=rfl;refine yr (T54.Ak a) (zd hl ?_);rw[es];cases hc:Bq a with
 |false=>
  refine zd (by rw[(c3 hc).1];simp) (zg (hq _ _ ?_));unfold Mo;rw[hc];rfl
 |true=>
  obtain⟨k1,k2⟩:=c2 hc;have e1:zc .i64 (((Ay a).length:Int)+1)=(((Ay a).length+1:Nat):Int):=by rw[wr _ (by omega) (by omega)];omega
  have e2:(a.drop ((Ay a).length+1)).take (yx a.length ((Ay a).length+1))=a.drop ((Ay a).length+1):=yn (by rw[yw];exact qo _);rw[e1,zp,e2];refine z7 (by simp;omega) (zd (by simp;omega) (zg (hq _ _ ?_)));unfold Mo;rw[hc,k2];rfl
theorem mN:DQ XM3:=Ab T51.ok (Ab T52.ok (Ab T53.ok (Ab T54.ok AQ)))
theorem T10.ok:Ag Bf 10 dN:=by
 refine BY mN (fun(i:List UInt8×Int) hi=>?_);obtain⟨a,n⟩:=i;have hi:(decide (0<=n)&&decide (n<=1000))=true:=hi;rw[zh,w5,w5]at hi;obtain⟨h0,h1⟩:=hi;have hq:∀v b ob,v=.bl b\/v=.dat .bool b->b=JN a n->Ad dN (a,n) v ob:=by
  rintro v b ob (rfl|rfl) hb
  ·exact y8 rfl rfl hb
  ·exact y8 rfl rfl hb
 have e1:zc .i64 (zc .i64 (2*n)+2)=2*n+2:=by rw[wr (2*n) (by omega) (by omega)];exact wr _ (by omega) (by omega)
 have hle:=(T69.C2 a).1;refine yr (T10.Ak a n) ?_;conv=>zeta
 rw[e1];by_cases hl:a.length<=1000000
 case neg=>
  have c:decide ((a.length:Int)<=2*n+2)=false:=w8 (by omega);refine z7 c (zg (hq _ _ _ (.inl rfl) ?_));unfold JN;rw[c];rfl
 refine yq (fun c=>zd (w4 hl) (yq (fun d=>zd (w4 hl) (zd (w4 (by omega)) (yq (fun e=>zd (w4 hl) (zg (hq _ _ _ (.inr rfl) ?_))) (fun e=>zg (hq _ _ _ (.inl rfl) ?_))))) (fun d=>zg (hq _ _ _ (.inl rfl) ?_)))) (fun c=>zg (hq _ _ _ (.inl rfl) ?_))
 ·have d:AG a=0:=by simpa using d
  unfold JN;rw[c,e,w4 d];rfl
 ·unfold JN;rw[e];simp
 ·have d:AG a≠0:=by simpa using d
  unfold JN;rw[w8 d];simp
 ·unfold JN;rw[c];rfl
namespace T153
variable {Q:PV->Ob->Prop}
theorem Aq(g:Nat)(hq:∀ob,Q (.dat i64 (g:Int)) ob):∀(f x y:Nat),y<f->Nat.gcd x y=g->Ends Nw (L1 (x:Int) (y:Int)) Q
 |0,x,y,h,_=>by omega
 |f+1,x,y,hy,hg=>by
  refine qx (Ar ..) ?_;conv=>zeta
  by_cases h0:y=0
  ·subst h0;rw[Nat.gcd_zero_right]at hg;subst hg;exact z7 rfl (zg (hq _))
  ·have e:yv (x:Int) (y:Int)=((x % y:Nat):Int):=by rw[q9 (qf x)];rfl
   rw[e];have hlt:x % y<y:=j0 _ (by omega);exact zd (by simp;omega) (zd (by simp;omega) (Aq g hq f y (x % y) (by omega) (by rw[Nat.gcd_comm, <-Nat.gcd_rec,Nat.gcd_comm];exact hg)))
theorem ok:Ag Bf 153 rB:=by
 refine BY E9 (fun(i:Int×Int) hi=>?_);obtain⟨a,b⟩:=i;have hi:(decide (0<=a)&&decide (a<9223372036854775808)&&decide (0<=b)&&decide (b<9223372036854775808))=true:=hi;rw[zh,zh,zh,w5,w5,w5,w5]at hi;obtain⟨⟨⟨a0,_⟩,b0⟩,_⟩:=hi;obtain⟨x,rfl⟩:=yh a0;obtain⟨y,rfl⟩:=yh b0;refine yr (Ak x y) (Aq (Nat.gcd x y) (fun ob=>y8 rfl rfl ?_) (y+1) x y (Nat.lt_succ_self _) rfl);show((Nat.gcd x y:Nat):Int)=Sp.gI (x:Int) (y:Int);rw[Gv];rfl
end T153
namespace T79
theorem ok:Ag Bf 79 Rl:=by
 refine BY E9 (fun(s:List UInt8) hl=>?_);have hq:∀v ob,v=Ig s->Ad Rl s (.dat i64 v) ob:=fun v ob hb=>y8 rfl rfl hb
 refine yr (Ak s) (yq (fun c=>zg (hq _ _ ?_)) (fun c=>?_))
 ·have c:s=[48]:=by simpa using c
  unfold Ig;rw[wd c]
 ·have c:¬s=[48]:=by simpa using c
  cases s with
  |nil=>exact z7 rfl (zg (hq _ _ rfl))
  |cons x r=>
   have g0:(x::r).getD 0 0=x:=rfl;rw[g0];refine zd (by simp) (zd (by simp) (yq (fun d=>zg (hq _ _ ?_)) (fun d=>zg (hq _ _ ?_))))
   ·have hx:x=45:=by
     have:(x.toNat:Int)=45:=by simpa using d
     exact UInt8.toNat_inj.1 (by show _=45;omega)
    unfold Ig;rw[wc c,g0,wd hx]
   ·have hx:x≠45:=by rintro rfl;exact wh d (by decide)
    unfold Ig;rw[wc c,g0,wc hx]
end T79
theorem nN:DQ XO2:=Ab T79.ok AQ
theorem T86.ok:Ag Bf 86 bS:=by
 refine BY nN (fun(s:List UInt8) hl=>?_);have hl:s.length<=1000000:=w6 hl;have hq:∀v ob,v=Lg s->Ad bS s (.dat .str v) ob:=fun v ob hb=>y8 rfl rfl hb
 refine yr (T86.Ak s) (zd (w4 hl) ?_);unfold Lg at hq;unfold Ig;by_cases c:s=[48]
 ·rw[wd c];rw[wd c]at hq;exact z7 rfl (zd (w4 hl) (zd rfl (zg (hq _ _ rfl))))
 ·rw[wc c];rw[wc c]at hq;by_cases d:s.getD 0 0=45
  ·rw[wd d];rw[wd d]at hq;have hn:s≠[]:=by rintro rfl;exact wh d (by decide)
   have hp:1<=s.length:=qu.2 hn;refine zd rfl (zd (by simp;omega) (zg (hq _ _ ?_)));exact yn (by rw[yw];exact qo _)
  ·rw[wc d];rw[wc d]at hq;exact z7 rfl (zd (w4 hl) (z7 rfl (zd (by simp;omega) (zg (hq _ _ rfl)))))
namespace T154
theorem Zw:∀k:Fin 10,jg (yx (k.1+1) k.1) (j9 k.1 [(48:UInt8),49,50,51,52,53,54,55,56,57])=[jf (48+k.1)]:=by decide
theorem Aq{Q:PV->Ob->Prop}(l:Nat)(hl:l<=20):∀(f n:Nat) (acc:List UInt8),n<9223372036854775808->n<10^f->l<=acc.length+f->acc.length+f<=64->(∀ob,Q (.dat .str (HE (f+1) n l acc)) ob)->Ends Nw (L1 (n:Int) (l:Int) acc) Q:=by
 intro f;induction f with
 |zero=>
  intro n acc hn hf hle h64 hq;have h0:n=0:=by rw[Nat.pow_zero]at hf;omega
  subst h0;unfold HE at hq;rw[wd ⟨rfl,by omega⟩]at hq;exact qx (Ar ..) (z7 rfl (z7 (by simp;omega) (zg (hq _))))
 |succ f ih=>
  intro n acc hn hf hle h64 hq;have e1:yv (n:Int) 10=((n % 10:Nat):Int):=by rw[q9 (qf n)];rfl
  have e2:zc .i64 (((n % 10:Nat):Int)+1)=((n % 10+1:Nat):Int):=by rw[wr _ (by omega) (by omega)];omega
  have e3:zc .i64 (qk (n:Int) 10)=((n/10:Nat):Int):=by rw[Int.tdiv_eq_ediv_of_nonneg (qf n),wr _ (by omega) (by omega)];rfl
  have hd:=Zw ⟨n % 10,j0 _ (by decide)⟩;have hd:jg (yx (n % 10+1) (n % 10)) (j9 (n % 10) [(48:UInt8),49,50,51,52,53,54,55,56,57])=[jf (48+n % 10)]:=hd;have hm:n % 10<10:=j0 _ (by decide);rw[Nat.pow_succ]at hf;refine qx (Ar ..) ?_;conv=>zeta
  rw[e1,e2,e3,zp,zp,hd];by_cases hz:n=0/\l<=acc.length
  ·obtain⟨z1,z2⟩:=hz;subst z1;unfold HE at hq;rw[wd ⟨rfl,z2⟩]at hq;exact z7 rfl (z7 (by simp;omega) (zg (hq _)))
  ·have hq2:∀ob,Q (.dat .str (HE (f+1) (n/10) l (jf (48+n % 10)::acc))) ob:=by
    intro ob;have:=hq ob;unfold HE at this;rw[wc hz]at this;exact this
   have go:Ends Nw (L1 ((n/10:Nat):Int) (l:Int) ([jf (48+n % 10)]++acc)) Q:=ih (n/10) (jf (48+n % 10)::acc) (by omega) (by omega) (by rw[yd];omega) (by rw[yd];omega) hq2;refine yq (fun _=>?_) (fun c=>zd ?_ ?_)
   ·exact zd rfl (zd rfl (zd (by simp;omega) (zd (by simp;omega) (zd rfl go))))
   ·have c:=w7 c;exact w4 (by omega)
   ·exact zd rfl (zd rfl (zd (by simp;omega) (zd (by simp;omega) (zd rfl go))))
theorem ok:Ag Bf 154 Oz:=by
 refine BY E9 (fun(i:Int×Int) hi=>?_);obtain⟨a,b⟩:=i;have hi:(decide (0<=a)&&decide (a<9223372036854775808)&&decide (0<=b)&&decide (b<=20))=true:=hi;rw[zh,zh,zh,w5,w5,w5,w5]at hi;obtain⟨⟨⟨a0,a1⟩,b0⟩,b1⟩:=hi;obtain⟨x,rfl⟩:=yh a0;obtain⟨y,rfl⟩:=yh b0;refine yr (Ak x y) (Aq y (by omega) 63 x [] (by omega) (by omega) (by show y<=0+63;omega) (by decide) (fun ob=>y8 rfl rfl ?_));show HE 64 x y []=HE 64 (x:Int).toNat (y:Int).toNat [];rw[zp,zp]
end T154
theorem nU:DQ Nj:=Ab T151.ok (Ab T127.ok AQ)
namespace T80
variable {Q:PV->Ob->Prop}
theorem Cj(neg:Bool)(n d:Int)(h0:0<=n)(h1:n<1000000000)(hq:∀ob,Q (.tup [.dat i64 (if neg=true then -n else n),.dat i64 d,.bl true]) ob):Ends Nj (L7 neg n d) Q:=by
 refine qx (EP ..) ?_;conv=>zeta
 cases neg with
 |true=>
  refine zd rfl (zg ?_);rw[wr _ (by omega) (by omega),Int.zero_sub];exact hq _
 |false=>exact z7 rfl (zg (hq _))
theorem Ct(s:List UInt8)(neg:Bool)(n:Int)(h0:0<=n)(h1:n<1000000000)(hl:s.length<=20)(lb:(qn s).length<=9)(db:Aj (qn s)=true)(hq:∀ob,Q (.tup [.dat i64 (if neg=true then -n else n),.dat i64 (if Bq s=true then AA 0 (qn s)else 1),.bl true]) ob):Ends Nj (L5 s neg (A0 s) n 1) Q:=by
 obtain⟨c1,c2,c3⟩:=BN s;refine qx (EY ..) ?_;conv=>zeta
 have es:A0 s=((Ay s).length:Int):=rfl;have hle:=(T69.C2 s).1;cases hc:Bq s with
 |true=>
  rw[hc]at hq;obtain⟨k1,k2⟩:=c2 hc;have e3:zc .i64 (A0 s+1)=(((Ay s).length+1:Nat):Int):=by rw[es,wr _ (by omega) (by omega)];omega
  have hl2:(qn s).length=s.length-((Ay s).length+1):=by rw[k2,yw]
  have et:(qn s).take (yx s.length ((Ay s).length+1))=qn s:=yn (by show _<=s.length-_;omega);rw[e3,zp, <-k2,et];exact zd (by simp[es];omega) (zd (by simp;omega) (zd (T155.BX db (by omega)) (Cj neg n _ h0 h1 hq)))
 |false=>
  obtain⟨k1,k2⟩:=c3 hc;rw[hc]at hq;exact z7 (by simp[es,k1]) (Cj neg n 1 h0 h1 hq)
theorem C0(s:List UInt8)(neg:Bool)(hl:s.length<=20)(la:(Ay s).length<=9)(lb:(qn s).length<=9)(da:Aj (Ay s)=true)(db:Aj (qn s)=true)(hq:∀n ob,n=AA 0 (Ay s)->Q (.tup [.dat i64 (if neg=true then -n else n),.dat i64 (if Bq s=true then AA 0 (qn s)else 1),.bl true]) ob):Ends Nj (L3 s neg ) Q:=by
 obtain⟨c1,c2,c3⟩:=BN s;have es:A0 s=((Ay s).length:Int):=rfl;have hle:=(T69.C2 s).1;have hlen:s.length-(Ay s).length<=10:=by
  cases hc:Bq s with
  |true=>
   obtain⟨k1,k2⟩:=c2 hc;have:(qn s).length=s.length-((Ay s).length+1):=by rw[k2,yw]
   omega
  |false=>rw[(c3 hc).1];omega
 have et:jg (Int.toNat (A0 s)) s=Ay s:=by rw[es,zp];exact c1.symm
 obtain⟨v0,v1⟩:=T155.Cs da la;refine qx (CF ..) ?_;conv=>zeta
 rw[et];refine zd (by simp;omega) (z7 (by simp[es];omega) (z7 ?_ (zd (by simp[es];omega) (zd (T155.BX da (by omega)) ?_))))
 ·rw[es,wr _ (by omega) (by omega)];exact w8 (by omega)
 ·exact Ct s neg (AA 0 (Ay s)) v0 v1 hl lb db (fun ob=>hq _ ob rfl)
theorem Fb(n d:Int)(hq:∀ob,Q (.tup [.dat i64 n,.dat i64 d,.bl true]) ob):Ends Nj (L8 n d) Q:=by
 refine qx (JC ..) ?_;conv=>zeta
 exact zg (hq _)
theorem EB(s:List UInt8)(n:Int)(hl:s.length<=20)(lb:(qn s).length<=9)(db:Aj (qn s)=true)(hq:∀ob,Q (.tup [.dat i64 n,.dat i64 (if Bq s=true then AA 0 (qn s)else 1),.bl true]) ob):Ends Nj (L6 s (A0 s) n 1) Q:=by
 obtain⟨c1,c2,c3⟩:=BN s;refine qx (FU ..) ?_;conv=>zeta
 have es:A0 s=((Ay s).length:Int):=rfl;have hle:=(T69.C2 s).1;cases hc:Bq s with
 |true=>
  rw[hc]at hq;obtain⟨k1,k2⟩:=c2 hc;have e3:zc .i64 (A0 s+1)=(((Ay s).length+1:Nat):Int):=by rw[es,wr _ (by omega) (by omega)];omega
  have hl2:(qn s).length=s.length-((Ay s).length+1):=by rw[k2,yw]
  have et:(qn s).take (yx s.length ((Ay s).length+1))=qn s:=yn (by show _<=s.length-_;omega);rw[e3,zp, <-k2,et];exact zd (by simp[es];omega) (zd (by simp;omega) (zd (T155.BX db (by omega)) (Fb n _ hq)))
 |false=>
  obtain⟨k1,k2⟩:=c3 hc;rw[hc]at hq;exact z7 (by simp[es,k1]) (Fb n 1 hq)
theorem BU(s:List UInt8)(hl:s.length<=20)(la:(Ay s).length<=9)(lb:(qn s).length<=9)(da:Aj (Ay s)=true)(db:Aj (qn s)=true)(hq:∀n ob,n=AA 0 (Ay s)->Q (.tup [.dat i64 n,.dat i64 (if Bq s=true then AA 0 (qn s)else 1),.bl true]) ob):Ends Nj (L4 s ) Q:=by
 obtain⟨c1,c2,c3⟩:=BN s;have es:A0 s=((Ay s).length:Int):=rfl;have hle:=(T69.C2 s).1;have hlen:s.length-(Ay s).length<=10:=by
  cases hc:Bq s with
  |true=>
   obtain⟨k1,k2⟩:=c2 hc;have:(qn s).length=s.length-((Ay s).length+1):=by rw[k2,yw]
   omega
  |false=>rw[(c3 hc).1];omega
 have et:jg (Int.toNat (A0 s)) s=Ay s:=by rw[es,zp];exact c1.symm
 obtain⟨v0,v1⟩:=T155.Cs da la;refine qx (Cy ..) ?_;conv=>zeta
 rw[et];refine zd (by simp;omega) (z7 (by simp[es];omega) (z7 ?_ (zd (by simp[es];omega) (zd (T155.BX da (by omega)) ?_))))
 ·rw[es,wr _ (by omega) (by omega)];exact w8 (by omega)
 ·exact EB s (AA 0 (Ay s)) hl lb db (fun ob=>hq _ ob rfl)
end T80
end Go.Pe
namespace Go.Sp
theorem GZ(a:List Int)(i:Nat):val B9 (a.drop i)=a.getD i 0+1000000000*val B9 (a.drop (i+1)):=by
 by_cases h:i<a.length
 ·rw[Cc h];rfl
 ·rw[yk (by omega),yk (by omega),show a.getD i 0=0 by rw[List.getD_eq_getElem?_getD,List.getElem?_eq_none (by omega)];rfl];rfl
structure Fo(a b:List Int)(i:Nat)(o:List Int)(c:Int):Prop where
 len:o.length=i
 d:Av B9 o
 c01:0<=c/\c<=1
 v:val B9 o+(B9:Int)^i*(c+val B9 (a.drop i)+val B9 (b.drop i))=At a+At b
 top:a.length<=i->b.length<=i->i=0\/(B9:Int)^(i-1)<=val B9 o+(B9:Int)^i*c
theorem Fo.start(a b:List Int):Fo a b 0 [] 0:=⟨rfl,(fun x hx=>by cases hx),by decide,by
 show 0+(B9:Int)^0*(0+val B9 a+val B9 b)=val B9 a+val B9 b;rw[j6,qh];omega,fun _ _=>.inl rfl⟩
theorem Bx{a:List Int}(h:A8 a=true)(i:Nat):0<=a.getD i 0/\a.getD i 0<1000000000:=Gy (Bm h).2.1 i
theorem Rm{a:List Int}(h:A8 a=true){i:Nat}(h1:i<a.length)(h2:a.length<=i+1):1<=a.getD i 0:=by
 have:=(Go.Pe.F8 (Bm h).2.1 (Bm h).2.2 (k:=i) (by omega)).1;omega
theorem Fo.step{a b:List Int}{i:Nat}{o:List Int}{c:Int}(h:Fo a b i o c)(ha:A8 a=true)(hb:A8 b=true)(hc:i<a.length\/i<b.length\/0<c):
  Fo a b (i+1) (o++[(a.getD i 0+b.getD i 0+c) % 1000000000]) ((a.getD i 0+b.getD i 0+c)/1000000000):=by
 obtain⟨x0,x1⟩:=Bx ha i;obtain⟨y0,y1⟩:=Bx hb i;obtain⟨c0,c1⟩:=h.c01;have hv:=h.v;rw[GZ a i,GZ b i]at hv;have hs:1<=a.getD i 0+b.getD i 0+c\/¬(a.length<=i+1/\b.length<=i+1):=by
  by_cases k:a.length<=i+1/\b.length<=i+1
  ·refine .inl ?_;rcases hc with hc|hc|hc
   ·have:=Rm ha hc k.1;omega
   ·have:=Rm hb hc k.2;omega
   ·omega
  ·exact .inr k
 have ho:=Az (b:=B9) (by decide) h.d;have hP:=AN (b:=B9) (by decide) i;generalize a.getD i 0=x at*;generalize b.getD i 0=y at*;have hval:val B9 (o++[(x+y+c) % 1000000000])=val B9 o+(B9:Int)^i*((x+y+c) % 1000000000):=by rw[Cb,h.len]
 refine⟨by rw[ye,h.len];rfl,EZ h.d (by omega),by omega,?_,fun k1 k2=>.inr ?_⟩
 ·rw[hval,Jz,jz, <-jt, <-hv];congr 2;omega
 ·rw[hval,Jz,jz, <-jt,qg];have e:(x+y+c) % 1000000000+1000000000*((x+y+c)/1000000000)=x+y+c:=by omega
  rw[e];rcases hs with hs|hs
  ·have:=zw hs (zk hP);rw[jm]at this;omega
  ·exact wh ⟨k1,k2⟩ hs
theorem xS{o:List Int}(hd:Av B9 o)(h:o=[]\/(B9:Int)^(o.length-1)<=val B9 o):nz o:=by
 rcases h with rfl|h
 ·unfold nz;simp
 ·intro e;have hn:o≠[]:=by rintro rfl;simp at e
  have e2:o=o.dropLast++[0]:=by
   have h1:=(List.dropLast_concat_getLast hn).symm;rw[List.getLast?_eq_some_getLast hn]at e;rw[Option.some.inj e]at h1;exact h1
  have hl:o.length=o.dropLast.length+1:=by rw[List.length_dropLast];have:=qu.2 hn;omega
  have hv:val B9 o=val B9 o.dropLast:=by
   conv=>lhs;rw[e2]
   rw[Cb,jj,jk]
  have hd2:Av B9 o.dropLast:=fun x hx=>hd x (by rw[e2];exact List.mem_append_left _ hx)
  have:=Bp (b:=B9) (by decide) hd2;rw[hv,hl,qg]at h;omega
theorem Fo.fin{a b:List Int}{i:Nat}{o:List Int}(h:Fo a b i o 0)(h1:a.length<=i)(h2:b.length<=i):o=LR a b:=by
 have hv:=h.v;rw[yk h1,yk h2]at hv;have hv:val B9 o+(B9:Int)^i*(0+0+0)=At a+At b:=hv;rw[show(0+0+0:Int)=0 from rfl,jj,jk]at hv;have ht:=h.top h1 h2;rw[jj,jk, <-h.len]at ht;have hn:nz o:=xS h.d (by
  rcases ht with k|k
  ·exact .inl (jh.1 k)
  ·exact .inr k)
 unfold LR;rw[<-hv];exact HW (b:=B9) (by decide) h.d hn
structure Gw(a b:List Int)(i:Nat)(o:List Int)(c:Int):Prop where
 len:o.length=i
 d:Av B9 o
 c01:0<=c/\c<=1
 v:val B9 o+(B9:Int)^i*(val B9 (a.drop i)-val B9 (b.drop i)-c)=At a-At b
theorem Gw.start(a b:List Int):Gw a b 0 [] 0:=⟨rfl,(fun x hx=>by cases hx),by decide,by
 show 0+(B9:Int)^0*(val B9 a-val B9 b-0)=val B9 a-val B9 b;rw[j6,qh];omega⟩
theorem Gw.step{a b:List Int}{i:Nat}{o:List Int}{c:Int}(h:Gw a b i o c)(ha:A8 a=true)(hb:A8 b=true)(d c':Int)(hd:(a.getD i 0-b.getD i 0-c<0/\d=a.getD i 0-b.getD i 0-c+1000000000/\c'=1)\/(¬a.getD i 0-b.getD i 0-c<0/\d=a.getD i 0-b.getD i 0-c/\c'=0)):
  Gw a b (i+1) (o++[d]) c':=by
 obtain⟨x0,x1⟩:=Bx ha i;obtain⟨y0,y1⟩:=Bx hb i;obtain⟨c0,c1⟩:=h.c01;have hv:=h.v;rw[GZ a i,GZ b i]at hv;generalize a.getD i 0=x at*;generalize b.getD i 0=y at*;refine⟨by rw[ye,h.len];rfl,EZ h.d (by omega),by omega,?_⟩;rw[Cb,h.len,Jz,jz, <-jt, <-hv];congr 2;omega
theorem Gw.fin{a b:List Int}{o:List Int}{c:Int}(h:Gw a b a.length o c)(hb:A8 b=true)(hle:At b<=At a):Au o=Gt a b:=by
 have hv:=h.v;rw[List.drop_length]at hv;have h0:=Az (b:=B9) (by decide) (Ew (Bm hb).2.1 a.length);have hlt:=Bp (b:=B9) (by decide) h.d;rw[h.len]at hlt;obtain⟨c0,c1⟩:=h.c01;have hP:=AN (b:=B9) (by decide) a.length;have hv:val B9 o+(B9:Int)^a.length*(0-val B9 (b.drop a.length)-c)=At a-At b:=hv;generalize val B9 (b.drop a.length)=z at*;have hz:0-z-c=0:=by
  rcases Int.lt_or_le (0-z-c) 0 with k|k
  ·have:=zw (show 0-z-c<= -1 by omega) (zk hP);rw[Int.mul_neg,jm]at this;omega
  ·omega
 rw[hz,jj,jk]at hv;unfold Gt;rw[Fx h.d, <-hv];rfl
end Go.Sp
