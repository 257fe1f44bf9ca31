import Derived.Test.YtjbmodoofdpgcaaGreatDoorX13
import Derived.ChangeSame
/- A part of a proof; no law is stated here. -/
noncomputable section
open Go.Pe.Ends renaming tt -> zc, leaf -> zn, eq -> yh, ff -> yk, Ap -> yo, ite -> qt
open List renaming getElem?_eq_getElem -> zd, getD_eq_getElem?_getD -> ze, length -> zf, mem_cons_self -> zi, getElem?_take_of_lt -> zl, mem_cons_of_mem -> zm, length_map -> zw, length_cons -> zx, getElem_mem -> zy, length_range -> z6, getElem?_drop -> yc, mem_of_mem_drop -> yf, length_take -> yj, length_drop -> yq, all_eq_true -> yr, getElem_map -> yu, getElem?_eq_some_iff -> yw, length_pos_iff -> yy, any_cons -> qd, getElem?_map -> qg, range -> qh, ext_getElem -> qi, mem_of_getElem? -> qm, getD -> qo, length_append -> qq, mem_singleton -> qu, mem_range -> jg
open Go.IntKind renaming wrap -> zg, i64 -> zq
open Go.Sp renaming first -> zh, CZ -> qc, vI -> jf
open Bool renaming and_eq_true -> zj, eq_false_iff -> ye, or_eq_true -> je, false_or -> ji
open Classical renaming propDecidable -> zk
open Int renaming mul_le_mul_of_nonneg_right -> zo, toNat_natCast -> z7, toNat -> qp
open Rat renaming intCast_le_intCast -> zp, le_floor_iff -> qy, not_lt -> qz, num_intCast -> jc, floor_def -> jh
open Go.Pe.Sh renaming list -> zr, int -> yz
open Option renaming getD_some -> zt
open Array renaming getElem?_eq_some_iff -> zu, range -> zz, length_toList -> yi, getElem?_toList -> yn, getElem?_append_left -> yp, size_range -> yv, getElem?_eq_getElem -> yx, getElem?_setIfInBounds -> qn, toList_inj -> qw
open Go.DataW renaming trod -> z8
open Nat renaming zero_le -> yb, eq_of_beq_eq_true -> yd, beq -> yt, le_refl -> qj, pow_le_pow_right -> ql, beq_refl -> jj
open Go.Lib renaming decDigits -> yg, bitLen -> qe
open Go.Sort renaming ahead -> ym
open Go.Pe.Ac renaming of -> qf
open Go.World renaming cell? -> qv
open Go.Fn renaming func -> q9
namespace Go.Pe
open Sp
open Go.Det
theorem Xy[Srt]:Dn XR7:=Aa T186.ok<|Aa T51.ok<|Aa T26.ok<|Aa T112.ok AO
theorem cN{s:Rd}(h:E1 s=true):A4 (KI s)=true/\AJ (KI s)= -AJ s:=by
 obtain⟨c,d⟩:=He h;obtain⟨t,_⟩:=Gr c;have e:KI s=AT (-AJ s):=by
  have:=fQ<|AJ s;rwa [t]at this
 have r:AJ (KI s)= -AJ s:=by rw[e,DY]
 refine⟨?_,r⟩;have a:(KI s).length<=4000:=by
  unfold KI;split
  ·omega
  ·split
   ·rw[yq];omega
   ·rw[zx];omega
 unfold A4;rw[r, <-e,w4 rfl,w4 a];rfl
theorem T54.ok[Srt]:Af Bb 54 tF:=by
 refine BL Xy<|fun(i:Rd×Rd) c=>?_;obtain⟨a,b⟩:=i;have c:(A4 a&&E1 b)=true:=c;rw[zj]at c;obtain⟨ha,hb⟩:=c;obtain⟨n1,n2⟩:=cN hb;have d:=(He hb).2;refine yh (T54.Aj a b) (zc (w4 ae)<|zc (Ad ha n1)<|zn<|qf rfl rfl ?_);show Ci a (KI b)=WU a b;unfold Ci WU;rw[n2,Rat.sub_eq_add_neg]
theorem kA{s:Rd}(h:Zj s=true):A4 (RG s)=true:=by
 obtain⟨f,h0⟩:=Ws h;obtain⟨f,h2⟩:=He f;obtain⟨t,_⟩:=Gr f;have a:(AT<|AJ s).length<=3000:=by rw[t];exact h2
 unfold RG;generalize AJ s=q at*;have l1:(yg q.num.natAbs).length<=(Lib.itoa q.num).length:=by
  unfold Lib.itoa;split
  ·rw[zx];omega
  ·rw[show q.num.toNat=q.num.natAbs by omega];exact qj _
 have key:(AT q⁻¹).length<=(yg q.num.natAbs).length+(yg q.den).length+2:=by
  have i:=Rat.inv_def q;have g:q.num≠0:=fun e=>h0<|Rat.num_eq_zero.mp e
  have u:=q.den_pos;have m:=Fq (n:=(q.den:Int)) (d:=q.num) g;rw[<-i,Int.natAbs_natCast]at m;have k:=Tu m.1;have j:=Tu m.2;have l2:(Lib.itoa q⁻¹.num).length<=(yg q⁻¹.num.natAbs).length+1:=by
   unfold Lib.itoa;split
   ·rw[zx];omega
   ·rw[show q⁻¹.num.toNat=q⁻¹.num.natAbs by omega];omega
  unfold AT;split
  ·omega
  ·rw[qq,zx];omega
 have l3:(yg q.num.natAbs).length+(yg q.den).length<=3001:=by
  unfold AT at a;split at a
  ·next c=>rw[c,Lib.decDigits_one (show 1<10 by decide),List.length_singleton];omega
  ·rw[qq,zx]at a;omega
 unfold A4;rw[DY,w4 rfl,w4 ae];rfl
theorem T122.ok[Srt]:Af Bb 122 sT:=by
 refine BL Xy<|fun(i:Rd×Rd) c=>?_;obtain⟨a,b⟩:=i;have c:(A4 a&&Zj b)=true:=c;rw[zj]at c;obtain⟨ha,hb⟩:=c;refine yh (T122.Aj a b)<|zc hb<|zc (Ad ha<|kA hb)<|zn<|qf rfl rfl ?_;show It a (RG b)=H3 a b;unfold It H3 RG;rw[DY,Rat.div_def]
theorem X0[Srt]:Dn XR8:=Aa T54.ok<|Aa T107.ok<|Aa T104.ok<|Aa T70.ok<|Aa T71.ok<|Aa T72.ok AO
theorem T49.ok[Srt]:Af Bb 49 bW:=by
 refine BL X0<|fun(i:Rd×Rd) d=>?_;obtain⟨a,b⟩:=i;have d:(A4 a&&E1 b)=true:=d;have c:=d;rw[zj]at c;obtain⟨ha,hb⟩:=c;have z:=(RM ha).sub<|RM (He hb).1;refine yh (T49.Aj a b) (zc d<|zc (w4<|bR z af)<|zn<|qf rfl rfl ?_);show GH (WU a b)=Sy a b;unfold WU;rw[QV,lI];rfl
theorem T123.ok[Srt]:Af Bb 123 Rm:=by
 refine BL X0<|fun(a:Rd) ha=>?_;refine yh (T123.Aj a)<|zc ha<|zn<|qf rfl rfl ?_;show(AW a==(a.length:Int))=Hg a;obtain⟨g,d,e⟩:=BE a;have es:AW a=((AB a).length:Int):=rfl;unfold Hg;cases c:Bw a with
 |false=>rw[es,(e c).1];simp
 |true=>
  obtain⟨i,f⟩:=d c;rw[es];simp;omega
theorem mA[Srt]:Dn XR9:=Aa T74.ok<|Aa T185.ok<|Aa T108.ok<|Aa T123.ok AO
theorem T121.ok[Srt]:Af Bb 121 Yq:=by
 refine BL mA<|fun(a:Rd) ha=>?_;obtain⟨a1,a2,a3,a4,a5,f,g,i,a9⟩:=D8 ha;obtain⟨t,hl⟩:=Gr ha;have j:=(AJ a).den_pos;refine yh (T121.Aj a) (zc (w4 ae)<|qt (fun c=>zn<|qf rfl rfl ?_)<|fun c=>zc g<|zc (Ad (Ad a1 a3)<|by rw[a4];exact w4 ae)<|zc ?_<|zn<|qf rfl rfl ?_)
 ·show a=Cf (AJ a).floor;have d:(AJ a).den=1:=by
   have e:=(D1<|AJ a).2.2;rw[t]at e;unfold Hg at c;rw[e]at c;simpa using c
  rw[jh,d];have:(AJ a).num/((1:Nat):Int)=(AJ a).num:=Int.ediv_one _;rw[this];conv=>lhs;rw[<-t]
  unfold AT;rw[wd d];rfl
 ·show Cj (IE _ _,IX _ _)=true;unfold IE IX;rw[a2,a4];exact G2 a1<|Int.natAbs_ediv_le_natAbs _ _
 ·show F6 (IE _ _,IX _ _)=Cf (AJ a).floor;unfold IE IX;rw[a2,a4,Kp,jh,a5,f]
theorem Zu{f:Ah}{q:Rat}(h:Fc f q){k:Nat}(z:Fo k q)(g:k<=4000):Bi (FI f.1 f.2)=true/\jf (FI f.1 f.2)=q.floor:=by
 have s:=Sl z g;have a:=h.den_pos;have d:=Yu h.n (by rw[h.vn];exact Int.lt_of_lt_of_le s.1<|AP af af);have c:jf (FI f.1 f.2)=q.floor:=by rw[eV a,h.vn,h.vd,jh]
 refine⟨Yu (YN d a) ?_,c⟩;have e:=(Pa z).1;rw[jc]at e;rw[c];exact Int.lt_of_lt_of_le (RC e) (AP af ae)
end Go.Pe
namespace Go.Sp
theorem cS(q:Rat):YS (AT q)=max (yg q.num.natAbs).length (yg q.den).length:=by
 unfold YS;rw[(D1 q).1,(C9 q.num).2.1,TA]
theorem wQ{s:Rd}(h:AH s=0):Nu (YS s) s (AJ s):=by
 obtain⟨n,_⟩:=Bn h;have e:=(Gr n).1;have a:=cS<|AJ s;rw[e]at a;exact⟨e.symm,Ce _ (by rw[a];exact Nat.le_max_left ..),Ce _<|by rw[a];exact Nat.le_max_right ..⟩
end Go.Sp
namespace Go.Pe
open Go.Det
theorem fK{s:Sh}{sz:Nat}(i:s.sz=sz){id n:Nat}{tail:Ob}{fz:Bool}{t:TypeId}{o:List s.T}{e:Int}(g:n=o.length):JL [.list s,i64] (.tup [.sl id sz 0 n none,.dat i64 e]) ((id,.arr fz t s o)::tail)=some (true,(o,e)):=by
 subst g i;have j:AN ((id,Obj.arr fz t s o)::tail) id=some (.arr fz t s o):=by unfold AN;rw[jj];rfl
 have h0:GL ⟨0,.leaf,(id,.arr fz t s o)::tail,0⟩ (.list s) (.sl id s.sz 0 o.length none)=some (true,o):=by
  unfold GL;have f:Ds ⟨0,.leaf,(id,.arr fz t s o)::tail,0⟩ (PV.cells<|.sl id s.sz 0 o.length none)=some (true,[.dat (.list s) o]):=by
   show(match Cd ⟨0,.leaf,(id,.arr fz t s o)::tail,0⟩ (.sl id s.sz 0 o.length none),some (true,[])with|some (c,x),some (d,a)=>some (c&&d,x::a)|_,_=>none)=_;have:Cd ⟨0,.leaf,(id,.arr fz t s o)::tail,0⟩ (.sl id s.sz 0 o.length none)=some (true,.dat (.list s) o):=by
    unfold Cd AG.obj;simp only[j,jj,we];simp
   rw[this];rfl
  simp only[M9,Sh.Nf];show(match Ds ⟨0,.leaf,(id,.arr fz t s o)::tail,0⟩ (PV.cells<|.sl id s.sz 0 o.length none)with|some (c,cs)=>_|none=>none)=_;rw[f];have:Dg (.list s) [PV.dat (.list s) o]=some o:=by
   unfold Dg Ck qC El;simp
  simp only[V5,this,Bool.true_and]
 unfold JL Hl;simp only;unfold CV;rw[h0];rfl
theorem Rx{a:Rd}(c:Sp.AH a=0):Sp.D2 (frS a)=true/\Sp.H5 a=true:=by
 obtain⟨n,z⟩:=Sp.Bn c;exact⟨(IM n).D2 (Sl z af),(Sp.D8 n).2.2.2.2.2.2.1⟩
open Sp
structure RS(k:Nat)(f:Ah)(q:Rat):Prop where
 r:Fc f q
 z:Fo k q
theorem RS.mono{i j:Nat}{f:Ah}{q:Rat}(h:RS i f q)(k:i<=j):RS j f q:=⟨h.r,h.z.mono k⟩
theorem RS.s{k:Nat}{f:Ah}{q:Rat}(h:RS k f q)(a:k<=4000):Kw 4000 q:=Sl h.z a
theorem RS.CZ{k:Nat}{f:Ah}{q:Rat}(h:RS k f q)(a:k<=4000):qc f=true:=h.r.CZ<|h.s a
theorem RS.D2{k:Nat}{f:Ah}{q:Rat}(h:RS k f q)(a:k<=4000):Sp.D2 f=true:=h.r.D2<|h.s a
theorem RS.vO{i j:Nat}{f g:Ah}{p q:Rat}(c:RS i f p)(a:RS j g q)(e:i<=4000)(d:j<=4000):(qc f&&qc g)=true:=Ad (c.CZ e)<|a.CZ d
theorem RS.add{i j:Nat}{f g:Ah}{p q:Rat}(c:RS i f p)(a:RS j g q)(e:i<=4000)(d:j<=4000):RS (i+j+1) (Gt f g) (p+q):=⟨Fc.add c.r a.r (c.s e)<|a.s d,c.z.add a.z⟩
theorem RS.sub{i j:Nat}{f g:Ah}{p q:Rat}(c:RS i f p)(a:RS j g q)(e:i<=4000)(d:j<=4000):RS (i+j+1) (Ta f g) (p-q):=⟨Fc.sub c.r a.r (c.s e)<|a.s d,c.z.sub a.z⟩
theorem RS.mul{i j:Nat}{f g:Ah}{p q:Rat}(c:RS i f p)(a:RS j g q)(e:i<=4000)(d:j<=4000):RS (i+j) (JD f g) (p*q):=⟨Fc.mul c.r a.r (c.s e)<|a.s d,c.z.mul a.z⟩
theorem RS.div{i j:Nat}{f g:Ah}{p q:Rat}(c:RS i f p)(a:RS j g q)(e:i<=4000)(d:j<=4000)(h0:q≠0):RS (i+j) (Hu f g) (p/q):=⟨Fc.div c.r a.r (c.s e) (a.s d) (Sl (a.z.inv h0) d) h0,c.z.div a.z h0⟩
theorem RS.ok3{i j:Nat}{f g:Ah}{p q:Rat}(c:RS i f p)(a:RS j g q)(e:i<=4000)(d:j<=4000)(h0:q≠0):(qc f&&qc g&&decide (jf g.1≠0))=true:=Ad (c.vO a e d)<|a.r.Iv.trans<|w4 h0
theorem RS.cmp{i j:Nat}{f g:Ah}{p q:Rat}(c:RS i f p)(a:RS j g q):Iq f g=if p<q then -1 else if q<p then 1 else 0:=Fc.cmp c.r a.r
theorem RS.Si{i j:Nat}{f g:Ah}{p q:Rat}(c:RS i f p)(a:RS j g q):Iq f g<=0↔p<=q:=by
 rw[c.cmp a];by_cases h:p<q
 ·rw[wd h];exact⟨fun _=>Rat.le_of_lt h,fun _=>by decide⟩
 ·rw[wc h];by_cases k:q<p
  ·rw[wd k];exact⟨fun x=>wh x af,fun x=>wh k<|qz.2 x⟩
  ·rw[wc k];exact⟨fun _=>qz.1 k,fun _=>by decide⟩
theorem RS.LC{i j:Nat}{f g:Ah}{p q:Rat}(c:RS i f p)(a:RS j g q):Iq f g<0↔p<q:=by
 rw[c.cmp a];by_cases h:p<q
 ·rw[wd h];exact⟨fun _=>h,fun _=>by decide⟩
 ·rw[wc h];by_cases k:q<p
  ·rw[wd k];exact⟨fun x=>wh x af,fun x=>wh x h⟩
  ·rw[wc k];exact⟨fun x=>wh x af,fun x=>wh x h⟩
theorem RS.iT{i j:Nat}{f g:Ah}{p q:Rat}(c:RS i f p)(a:RS j g q):Iq f g>0↔q<p:=by
 have h:=c.Si a;constructor
 ·intro k;exact Rat.not_le.1 fun x=>by have:=h.2 x;omega
 ·intro k;have:¬Iq f g<=0:=fun x=>Rat.not_le.2 k<|h.1 x
  omega
theorem fV{s:Rd}(h:AH s=0):RS (Sp.YS s) (Js s) (AJ s):=⟨IM (Bn h).1,(wQ h).z⟩
theorem CW{n:Int}{k:Nat}(h:n.natAbs<10^k)(c:1<=k)(a:k<=18):RS k ((n,BV n),(1,BV 1)) (n:Rat):=by
 have f:10^k<=10^18:=ql af a;have e:10^1<=10^k:=ql af c;have d:Cx n=true:=by
  unfold Cx;exact ad ae ae
 refine⟨AaD n d,?_,?_⟩
 ·rw[jc];exact h
 ·rw[Rat.den_intCast];omega
end Go.Pe
namespace Go.Det
open Go.ChangeShapes Go.WideShapes Go.RowKit
theorem B3{α i:Type}{f g:α->Option i}:∀ {l:List α} {c:List i},l.mapM f=some c->(∀a∈l,∀y∈c,f a=some y->g a=some y)->l.mapM g=some c
 |[],c,h,_=>by grind
 |a::l,c,h,j=>by
  rw[List.mapM_cons]at h ⊢;cases d:f a with
  |none=>grind
  |some y=>
   rw[d]at h;cases e:l.mapM f with
   |none=>grind
   |some k=>
    rw[e]at h;cases h;rw[j a (by simp) y (by simp) d,B3 e ah];rfl
def kZ(P:Program)(L:List TypeId)(t:TypeId):Bool:=match P.underlying t with
 |some (.pointer e)|some (.array _ e)|some (.map _ e)=>L.contains e
 |some (.slice e)=>L.contains e&&Nat.ble 1 (P.cellsOf e)
 |some (.struct fs)=>fs.toList.all fun f=>L.contains f.type
 |_=>true
def Kn(P:Program)(L:List TypeId):Bool:=L.all<|kZ P L
section
variable {H:Type}{enc:TypeId×Value->H}{P:Program}{W W':World}
theorem oU{L:List TypeId}(h:Kn P L=true){t:TypeId}(a:t∈L):kZ P L t=true:=yr.1 h t a
theorem Vr(d:Below W.heap.size W W'){a:Addr}{v:Value}(h:W.cell? a=some v):W'.cell? a=some v:=by
 have c:a.block<W.heap.size:=by
  grind [qv]
 unfold qv at h ⊢;rw[d.block _ c];exact h
theorem UA(c:Below W.heap.size W W'){a:Addr}{n:Nat}{cs:List Value}(h:W.cells? 0 a n=some cs):W'.cells? 0 a n=some cs:=by
 unfold World.cells? at h ⊢;grind [B3,Vr]
theorem GK(i:Below W.heap.size W W'){c:Type}{a:Addr}{n:Nat}{f g:List Value->Option c}{y:c}(h:(W.cells? 0 a n).bind f=some y)(d:∀cs,f cs=some y->g cs=some y):(W'.cells? 0 a n).bind g=some y:=by
 cases e:W.cells? 0 a n with
 |none=>grind
 |some cs=>
  grind [UA]
theorem Ow(z:Below W.heap.size W W'){L:List TypeId}(D:Kn P L=true){sp:Nat->Bool}:∀(fuel:Nat) (t:TypeId) (cs:List Value) (x:DataW H×List MemPlace),t∈L->
  z8 enc P W 0 (fun _=>true) true fuel t cs=some x->(∀p∈x.2,sp p.block=true)->z8 enc P W' 0 sp true fuel t cs=some x
 |0,_,_,_,_,h,_=>by cases h
 |fuel+1,t,cs,x,K,h,S=>by
  have V:=Ow z D (sp:=sp) fuel;have m:=oU D K;unfold kZ at m;unfold z8 at h ⊢;split at h<;>try simp only[reduceCtorEq]at h
  all_goals try exact h
  case h_6 e a s=>
   have c:e∈L:=ah
   cases F:(W.cells? 0 a<|P.cellsOf e).bind (z8 enc P W 0 (fun _=>true) true fuel e)with
   |none=>grind
   |some y=>
    rw[F]at h;cases h;rw[GK z F (g:=z8 enc P W' 0 sp true fuel e) ah];rfl
  case h_8 e a len cap s=>
   have c:e∈L/\P.cellsOf e≠0:=by
    rw[s]at m;simp only[zj,List.contains_iff_mem]at m;have:=Nat.le_of_ble_eq_true m.2;grind
   by_cases v:0<=a.block/\len<=cap/\cap<=maxLen
   ·rw[wd v]at h ⊢;have step:∀(i:Nat) (y:DataW H×List MemPlace),(W.cells? 0 (a.add<|i*P.cellsOf e)<|P.cellsOf e).bind (z8 enc P W 0 (fun _=>true) true fuel e)=some y->(∀p∈y.2,sp p.block=true)->
      (W'.cells? 0 (a.add<|i*P.cellsOf e)<|P.cellsOf e).bind (z8 enc P W' 0 sp true fuel e)=some y:=(by grind [GK])
    cases d:(qh len).mapM (fun i=>(W.cells? 0 (a.add<|i*P.cellsOf e)<|P.cellsOf e).bind<|z8 enc P W 0 (fun _=>true) true fuel e)with
    |none=>grind
    |some q=>
     rw[d]at h;simp only[wm,Option.bind_some]at h;cases E:(qh<|cap-len).mapM (fun j=>(W.cells? 0 (a.add<|(len+j)*P.cellsOf e)<|P.cellsOf e).bind<|z8 enc P W 0 (fun _=>true) true fuel e)with
     |none=>grind
     |some G=>
      rw[E]at h;cases h;rw[B3 d ah];have R:=B3 E fun j _ y T I=>step (len+j) y I ah
      by_cases B:sp a.block=true
      ·grind
      ·have U:(q.length+G.length)*P.cellsOf e=0:=by
        rcases Nat.eq_zero_or_pos ((q.length+G.length)*P.cellsOf e)with h0|h0
        ·exact h0
        ·refine wh (S (.cell a.block<|a.off+0)<|List.mem_append_left _ ?_) B;simp only[MemPlace.row,List.mem_map,jg];exact⟨0,h0,rfl⟩
       grind [Nat.mul_eq_zero]
   grind
  case h_9 cs _ _ fs s=>
   have c:∀f∈fs.toList,f.type∈L:=by
    grind
   by_cases v:cs.length=P.cellsOf t
   ·rw[wd v]at h ⊢;cases d:fs.toList.mapM (fun f=>z8 enc P W 0 (fun _=>true) true fuel f.type<|(cs.drop f.offset).take<|P.cellsOf f.type)with
    |none=>grind
    |some q=>
     grind [B3]
   grind
  case h_10 cs _ _ n e s=>
   have c:e∈L:=ah
   by_cases v:cs.length=P.cellsOf t
   ·rw[wd v]at h ⊢;cases d:(qh n).mapM (fun i=>z8 enc P W 0 (fun _=>true) true fuel e<|(cs.drop<|i*P.cellsOf e).take<|P.cellsOf e)with
    |none=>grind
    |some q=>
     grind [B3]
   grind
  case h_14 k e b s=>
   have M:b<W.heap.size:=by
    grind
   rw[z.block _ M];split at h
   case h_2=>cases h
   rename_i es clock J;split at h
   case isFalse=>cases h
   cases d:(es.toList.mapM fun x=>(keyOf P k x.key).bind fun key=>if x.val.formed P e then(z8 enc P W 0 (fun _=>true) true fuel e x.val.cells.toList).map fun y=>((key,y.1),y.2)else none)with
   |none=>grind
   |some q=>
    rw[d]at h;simp only[Option.bind_some]at h;split at h
    case isFalse=>cases h
    rw[B3 d fun C _ y T A=>?_]
    ·grind
    ·cases m:keyOf P k C.key with
     |none=>grind
     |some key=>
      rw[m]at A;split at A
      case isFalse=>cases A
      cases N:z8 enc P W 0 (fun _=>true) true fuel e C.val.cells.toList with
      |none=>grind
      |some u=>
       grind
theorem Vv(g:Below W.heap.size W W'){L:List TypeId}(e:Kn P L=true){sp:Nat->Bool}{t:TypeId}{v:Value}{d:DataW H}{p:List MemPlace}
  (i:t∈L) (h:DataW.Trod enc P W 0 (fun _=>true) true t v d p) (c:∀q∈p,sp q.block=true):DataW.Trod enc P W' 0 sp true t v d p:=by
 obtain⟨a,f⟩:=h;exact⟨a,(by grind [Ow])⟩
theorem GC(g:Below W.heap.size W W'){L:List TypeId}(e:Kn P L=true){sp:Nat->Bool}:∀ {ts:List TypeId} {vs:List Value} {ds:List (DataW H)} {p:List MemPlace},(∀t∈ts,t∈L)->
  DataW.TrodAll enc P W 0 (fun _=>true) true ts vs ds p->(∀q∈p,sp q.block=true)->DataW.TrodAll enc P W' 0 sp true ts vs ds p
 |[],vs,ds,p,_,h,_=>by
  obtain⟨rfl,rfl,rfl⟩:=trodAll_nil h;rfl
 |t::ts,vs,ds,p,k,h,m=>by
  obtain⟨v,i,d,c,a,b,rfl,rfl,rfl,j,f⟩:=trodAll_cons h;exact⟨a,b,(by grind [Vv]),GC g e ah f ah,rfl⟩
theorem QD{f:Func}{s:ChangeSpec}{apart fresh a e:Bool}{args:Array Value}{ds I:List (DataW H)}{c:List MemPlace}{tb:TypeId}
  (hW:DataW.Whole enc P f.params.toList s.vars apart W args.toList ds I c) (G:s.vars=[]) (A:f.resultTypes= #[tb]) (F:P.underlying tb=some .bool)
  (K:s.fn H ds={ results:=[.lit<|.bool true],args:=ds }) (v:Below W.heap.size W W') {L:List TypeId} (J:Kn P L=true) (B:f.params.toList.all L.contains=true):
  s.post enc P f apart fresh a e W args (.bool true) W':=by
 have i:=hW.lt;have B:∀t∈f.params.toList,t∈L:=ah;obtain⟨p,q,D,C,rfl,d,u⟩:=hW;have k:=C;rw[G]at k;obtain⟨rfl,rfl⟩:=trodVars_none k;simp only[List.append_nil]at i d u ⊢;have x:DataW.Whole enc P f.params.toList s.vars apart W args.toList ds [] p:=⟨p,[],D,C,by simp,d,u⟩;have m:∀(b:Nat) (sp:Nat->Bool) (E:Bool),DataW.TrodAll enc P W' b sp E f.resultTypes.toList ((Value.bool true).resultList f.resultTypes.size) [.lit<|.bool true] []:=by
  intro b sp E;rw[A];exact⟨[],[],shut_bool F true,rfl,rfl⟩
 have z:∀(j:Nat) (t:TypeId) (r:Value),f.resultTypes[j]?=some t->((Value.bool true).resultList f.resultTypes.size)[j]?=some r->Value.okWide P W' .any 0 t r:=by
  exact ok_one A rfl (okWide_bool_mk F true)
 have g:∀sp:Nat->Bool,DataW.TrodVars enc P W' sp s.vars [] []:=fun sp=>by rw[G];rfl
 refine⟨ds,[],p,[],p,[],x,?_,?_,?_,World.keptBut_mono (by simp) (v.frame (· ∈p)),fun _=>?_⟩
 ·grind
 ·grind [GC]
 ·grind
 ·refine⟨z,_,_,([]++p)++[],⟨[]++p,[],trodAll_append (GC v J B D<|by simp)<|m _ _ _,g _,rfl,?_,?_⟩,?_⟩
  ·intro b off y;have y:MemPlace.cell b off∈p:=ah
   rw[v.frozen<|show b<W.heap.size from i _ y];exact d b off y
  ·grind
  grind
end
def JM(k:Nat):Value->V
 | .bool b=>.bool b
 | .int q n=>.int q n
 | .string s=>.str s.data.toList
 | .pointer none=>.nilp
 | .slice none 0 0=>.nils
 | .slice (some _) 0 0=>.es0
 | .slice (some ⟨r,off,none⟩) len cap=>if r<k/\len<=cap then .sl r off len cap 0 else .junk
 | .map none=>.nilm
 | .nilFunc=>.nilf
 | .nilIface=>.nili
 |_=>.junk
def YS(W:World)(r:Nat):Nat:=match W.heap[r]? with
 |some (.cells c _ _)=>c.size
 |_=>0
def pW(W:World):Pl:=(qh W.heap.size).map fun r=>(r,YS W r)
theorem LB{W:World}{r:Nat}(h:r<W.heap.size):(pW W)[r]?=some (r,YS W r):=by
 simp[pW,h]
def Mf(W:World)(r:Nat):Option O:=match W.heap[r]? with
 |some (.cells c t _)=>if c.size=0 then none else some<|.cells (c.toList.map<|JM W.heap.size) t (0,c.size)
 |_=>none
def YQ(W:World):Nat->H
 |0=>⟨.leaf,0⟩
 |n+1=>⟨(YQ W n).m.set n<|Mf W n,n+1⟩
theorem mF(W:World):∀n,(YQ W n).nx=n
 |0=>rfl
 |_+1=>rfl
theorem TT(W:World):∀(n b:Nat),(YQ W n).get b=if b<n then Mf W b else none
 |0,b=>by simp[YQ,H.get]
 |n+1,b=>by
  have a:=TT W n b;unfold H.get at a ⊢;simp only[YQ,PM.CD];grind
def hW(W:World):H:=YQ W W.heap.size
theorem LA(W:World)(b:Nat):(hW W).get b=Mf W b:=by
 simp_all [hW,TT,Mf]
theorem Lq{W:World}{v:Value}(h:(JM W.heap.size v).ok=true):Ab (pW W) (JM W.heap.size v) v:=by
 revert h;unfold JM;split<;>intro h
 case h_6=>simp_all [Ab]
 case h_7 r off len cap _=>
  split
  ·simp_all [Ab,LB]
  ·rename_i a;rw[wc a]at h;cases h
 case h_11=>cases h
 all_goals simp only[Ab]
 rfl
theorem R_W(W:World):R (pW W) (hW W) W:=by
 refine⟨by simp[pW,hW,mF],fun b o a=>?_,fun b b' o o' r n n' a g u m=>?_⟩
 ·rw[LA]at a;unfold Mf at a;split at a
  case h_2=>cases a
  rename_i c t fz f;split at a
  case isTrue=>cases a
  cases a;have e:b<W.heap.size:=ah;have j:YS W b=c.size:=by unfold YS;rw[f]
  refine⟨b,c.size,_,by rw[LB e,j],f,c,fz,rfl,rfl,by simp,⟨by simp,fun i d v q s k=>?_⟩,ae⟩;grind [Lq]
 grind [LA,Mf,LB]
theorem W2{W W':World}{p':Pl}{h':H}(d:Ext (pW W) (hW W) W p' h' W'):RowKit.Below W.heap.size W W':=by
 refine⟨d.os,d.tape,d.out,d.size,fun k f=>?_⟩;by_cases m:Im (pW W) (hW W) k
 ·obtain⟨b,o,n,g,i⟩:=m;have a:=g;rw[LA]at a;unfold Mf at a;split at a
  case h_2=>cases a
  rename_i c t fz q;split at a
  case isTrue=>cases a
  cases a;have e:b<W.heap.size:=ah;have j:YS W b=c.size:=by unfold YS;rw[q]
  rw[LB e,j]at i;cases i;exact(d.lock _ f ⟨_,_,_,_,_,g,by rw[LB e,j],rfl,qj _,ae⟩).1
 ·exact d.same k f m
end Go.Det
namespace Go.Pe
open Go.Det
def FW(W:World):Fz:=fun b=>match (hW W).get b with
 |some (.cells cs _ _)=>some cs
 |_=>none
def Ss:(s:Sh)->s.T->Prop
 | .int k,x=>k.min<=(x:Int)/\(x:Int)<=k.max
 | .bool,_=>True
 | .str,x=>(x:Rd).length<=maxLen
 | .list s,l=>(l:List s.T).length<=maxLen/\∀x∈(l:List s.T),Ss s x
 | .pair a b,x=>Ss a x.1/\Ss b x.2
 | .unit,_=>True
 | .nlist _,_=>True
 | .fnv,_=>True
 | .ptr _,_=>True
def iY(P:Program)(f:TypeId->Option Sh):Nat->List Field->Option Sh
 |_,[]=>some .unit
 |o,[x]=>match f x.type with
  |some s=>bif yt x.offset o&&yt (P.cellsOf x.type) s.sz then some s else none
  |none=>none
 |o,x::y::l=>match f x.type with
  |some s=>bif yt x.offset o&&yt (P.cellsOf x.type) s.sz then(iY P f (o+s.sz) (y::l)).map (.pair s)else none
  |none=>none
def xE(P:Program):Nat->TypeId->Option Sh
 |0,_=>none
 |f+1,t=>match P.underlying t with
  |some (.int k)=>some<|.int k
  |some .bool=>some .bool
  |some .string=>some .str
  |some (.slice e)=>match xE P f e with
   |some s=>bif yt (P.cellsOf e) s.sz&&Nat.blt 0 s.sz then some (.list s)else none
   |none=>none
  |some (.struct fs)=>match iY P (xE P f) 0 fs.toList with
   |some s=>bif yt (P.cellsOf t) s.sz then some s else none
   |none=>none
  |_=>none
section
variable {H:Type}{enc:TypeId×Value->H}{P:Program}{W:World}
theorem jH{r:Nat}{c:Array Value}{t:TypeId}{fz:Nat×Nat}(h:W.heap[r]?=some (.cells c t fz))(h0:c.size≠0):FW W r=some (c.toList.map<|JM W.heap.size):=by
 simp_all [FW,LA,Mf]
theorem QP{a:Addr}{n:Nat}{cs:List Value}(h:W.cells? 0 a n=some cs)(j:0<n):
  ∃c t fz,W.heap[a.block]?=some (.cells c t fz)/\a.spot=none/\a.off+n<=c.size/\cs=(c.toList.drop a.off).take n:=by
 have q:=mapM_some_length h;have f:=mapM_some_get h;have h0:=f 0 0 (by simp[j]);have g:a.add 0=a:=by rfl
 obtain⟨v0,d⟩:∃v,cs[0]?=some v:=ah;rw[d]at h0;unfold qv at h0;split at h0
 case h_2=>cases h0
 rename_i c t fz e;split at h0
 case isTrue=>cases h0
 have m:a.spot=none:=by simp_all
 have k:∀i,i<n->c[a.off+i]?=cs[i]?:=by
  grind [qv,Addr.add]
 refine⟨c,t,fz,e,m,?_,?_⟩
 ·have:=k (n-1) ae;grind
 ·apply List.ext_getElem?;grind
theorem Yz{α:Type}{p:Nat->α->Prop}:∀n:Nat,(∀i,i<n->∃x,p i x)->∃l:List α,l.length=n/\∀i (h:i<l.length),p i l[i]
 |0,_=>(by simp)
 |n+1,h=>by
  obtain⟨l,c,e⟩:=Yz n fun i a=>h i ae
  obtain⟨x,d⟩:=h n ae;refine⟨l++[x],by simp[c],fun i a=>?_⟩;grind
end
open Go.Det Go.RowKit
section
open Go.Proofs.Tryz (prog)
theorem TS{F':Fz}{v:V}(h:PC F' (.dat .bool true) v):v=.bool true:=by
 have:=h (fun _=>none) 0;simp only[PR,DC]at this;simpa using this
def GW(W:World):Prop:=∀x∈Dr,Mf W x.1=some x.2
theorem GW.h{W:World}(h:GW W):Gh (hW W):=fun x a=>by rw[LA];exact h x a
theorem GW.p{W:World}(h:GW W):Gp (pW W):=fun x g=>by
 have a:=h x g;unfold Mf at a;split at a
 case h_2=>cases a
 rename_i c t fz f;split at a
 case isTrue=>cases a
 have e:x.1<W.heap.size:=(zu.1 f).1;have i:YS W x.1=c.size:=by unfold YS;rw[f]
 rw[LB e,i];cases d:x.2 with
 |cells cs j fz'=>rw[d]at a;cases a;simp[osz]
 |_=>rw[d]at a;cases a
theorem Iz[Srt](A:Fe prog MT){f:FuncId}{sp:An}(ok:Af Bb f sp)(i:(Bz sp.ins).T)(a:sp.pre i=true){args:List V}{args':Array Value}{W:World}(d:GW W)(q:Kj (FW W) (Ae sp.ins i) args)
  (s:Ar (pW W) args args'.toList) (c:∀F' v,PC F' (one<|Ae sp.outs<|sp.f i) v->v=.bool true) (k:Bb.prim f=none:=by kernel_rfl):
  Calls prog f args' W fun e W'=>e=.returned (.bool true)/\Below W.heap.size W W':=by
 obtain⟨l,M,m,_,y⟩:=(ok.zero k).run (FW W) (hW W) args i (fun b cs h=>by
  unfold FW at h;split at h
  case h_2=>cases h
  rename_i cs' t fz u;cases h;exact⟨t,fz,u⟩) (fun b o h=>(R_W W).lt h) d.h q a
 refine((ES (iI A) Ql Gw M).fn f args (hW W) l (m M<|qj _) (pW W) W args' (R_W W) d.p s).mono ?_;rintro e w' ⟨v,h',v',p',z,rfl,g,x⟩;obtain⟨_,_,_,F',_,_,_,j⟩:=y _ z;obtain rfl:=c F' v j;refine⟨?_,W2 x⟩;simp only[Ab]at g;rw[g]
open Go.Sort (grow)
abbrev pB:Srt:=⟨none⟩
theorem nL:Fe prog (@MT pB):=fun f q h=>by
 unfold MT pB at h;cases a:yt f 63 with
 |true=>rw[a]at h;cases h
 |false=>rw[a]at h;cases h
theorem grown_of{W W':World}(a:Below W.heap.size W W')(e:W.drawn<=W'.drawn):∃q os,W'=grow (W.drewN q) os:=by
 refine⟨W'.drawn-W.drawn,W'.heap.extract W.heap.size W'.heap.size,?_⟩;have i:=a.size;have c:W'.heap=W.heap++W'.heap.extract W.heap.size W'.heap.size:=by
  apply Array.ext_getElem?;intro k;by_cases h:k<W.heap.size
  ·rw[yp h];exact a.block k h
  ·rw[Array.getElem?_append_right ae,Array.getElem?_extract];by_cases d:k<W'.heap.size
   ·rw[wd ae,show W.heap.size+(k-W.heap.size)=k by omega]
   ·rw[wc ae,Array.getElem?_eq_none ae]
 have e1:=a.os;have e2:=a.tape;have e3:=a.output;obtain⟨f,j,g,o1,u1⟩:=W;obtain⟨d,t2,d2,o2,u2⟩:=W';simp only at e1 e2 e3 c e;subst e1 e2 e3;unfold grow World.drewN;simp only[World.mk.injEq];exact⟨c,trivial,by omega,trivial,trivial⟩
theorem WC{S:Srt}(B:Fe prog (@MT S)){f:FuncId}{sp:An}(ok:Af (@Bb S) f sp)(i:(Bz sp.ins).T)(a:sp.pre i=true){args:List V}{args':Array Value}{W:World}(d:GW W)(u:Kj (FW W) (Ae sp.ins i) args)
  (x:Ar (pW W) args args'.toList) {r:Value} (c:∀F' v,PC F' (one<|Ae sp.outs<|sp.f i) v->∀p v',Ab p v v'->v'=r) (k:(@Bb S).prim f=none):
  Calls prog f args' W fun e W'=>e=.returned r/\∃q os,W'=grow (W.drewN q) os:=by
 letI:=S
 obtain⟨l,M,s,_,z⟩:=(ok.zero k).run (FW W) (hW W) args i (fun b cs h=>by
  unfold FW at h;split at h
  case h_2=>cases h
  rename_i cs' t fz y;cases h;exact⟨t,fz,y⟩) (fun b o h=>(R_W W).lt h) d.h u a
 refine((ES (iI B) Ql Gw M).fn f args (hW W) l (s M<|qj _) (pW W) W args' (R_W W) d.p x).mono ?_;rintro e w' ⟨v,h',v',p',A,rfl,m,g⟩;obtain⟨_,_,_,F',_,_,_,j⟩:=z _ A;exact⟨by rw[c F' v j p' v' m],grown_of (W2 g) g.dr⟩
def F0(h:H)(b:Nat):Fz:=fun c=>bif yt c b then none else match h.get c with
 |some (.cells cs _ _)=>some cs
 |_=>none
theorem xC{h:H}{b c:Nat}{cs:List V}(e:F0 h b c=some cs):c≠b/\∃t fz,h.get c=some (.cells cs t fz):=by
 unfold F0 at e;cases a:yt c b with
 |true=>rw[a]at e;cases e
 |false=>
  rw[a]at e;refine⟨(fun x=>by rw[x,jj]at a;cases a),?_⟩;simp only[wg]at e;split at e
  ·next cs' t fz d=>cases e;exact⟨t,fz,d⟩
  ·cases e
def Sh.il:Sh->Bool
 | .int _=>true
 | .nlist (.int _)=>true
 | .pair a b=>a.il&&b.il
 |_=>false
section
variable {p:Pl}{h:H}{w W:World}{b r n:Nat}{o:O}
theorem later(I:R p h w)(M:p[b]?=some (r,n))(N:h.get b=some o)(f:∀j,j<w.heap.size->j≠r->W.heap[j]?=w.heap[j]?)(G:w.heap.size<=W.heap.size):∀(s:Sh) (x:s.T) (ds:List V) (vs:List Value),s.il=true->DC (F0 h b) s x ds->Ar p ds vs->DC (FW W) s x (vs.map<|JM W.heap.size)
 | .int k,x,ds,vs,_,g,C=>by
  have g:ds=[.int k x]:=g;subst g;obtain⟨v,B,rfl,A,D⟩:=C;have D:B=[]:=D;have A:v=.int k x:=A;subst A D;rfl
 | .pair a c,x,ds,vs,U,g,C=>by
  simp only[Sh.il,zj]at U;simp only[DC]at g ⊢;obtain⟨u,z,rfl,d1,d2⟩:=g;have l:=C.length;rw[qq]at l;have t1:Ar p u (vs.take u.length):=Ar.mk (by rw[yj];omega) fun i d v e1 e2=>by
   have J:=(yw.1 e1).1;rw[zl J]at e2;obtain⟨v',e3,e4⟩:=C.get (i:=i) (d:=d) (by rw[List.getElem?_append_left J];exact e1);rw[e3]at e2;cases e2;exact e4
  have t2:Ar p z (vs.drop u.length):=Ar.mk (by rw[yq];omega) fun i d v e1 e2=>by
   rw[yc]at e2;obtain⟨v',e3,e4⟩:=C.get (i:=u.length+i) (d:=d) (by rw[List.getElem?_append_right ae,Nat.add_sub_cancel_left];exact e1);rw[e3]at e2;cases e2;exact e4
  exact⟨_,_,by rw[<-List.map_append,List.take_append_drop],later I M N f G a x.1 _ _ U.1 d1 t1,later I M N f G c x.2 _ _ U.2 d2 t2⟩
 | .nlist (.int k),(l:List Int),ds,vs,_,g,C=>by
  simp only[DC]at g ⊢;obtain⟨v,rfl,g⟩:=g;obtain⟨v',B,rfl,A,D⟩:=C;have D:B=[]:=D;subst D;refine⟨_,rfl,?_⟩;rcases g with⟨rfl,rfl⟩|⟨Y,b',off,cap,oo,L,rfl,hc,hF,E,_,K⟩
  ·have A:v'=.slice none 0 0:=A;subst A;exact .inl ⟨rfl,rfl⟩
  ·obtain⟨q,n',c,X,rfl,g2,g3,_,_⟩:=A;obtain⟨nb,t,fz,hg⟩:=xC hF;obtain⟨r'',n'',y,k1,k2,k3⟩:=I.obj b' _ hg;rw[X]at k1;cases k1;have ne:q≠r:=fun e=>nb<|I.inj b' b _ _ _ _ _ hg N (e▸X) M
   obtain⟨ca,fz',rfl,q1,q2,q3,_⟩:=k3;have q4:ca.toList.length=n':=by rw[yi];exact q1
   have lt:q<w.heap.size:=(zu.1 k2).1;have lp:0<l.length:=yy.2 Y;have S:(yz k).sz=1:=rfl;rw[S,Nat.mul_one]at E;have hw:W.heap[q]?=some (.cells ca t fz'):=(f q lt ne).trans k2;have Z:FW W q=some (ca.toList.map<|JM W.heap.size):=by
    unfold FW;rw[LA];unfold Mf;rw[hw];simp only;rw[wc ae]
   have tv:JM W.heap.size (.slice (some ⟨q,off,none⟩) l.length c)=.sl q off l.length c 0:=by
    obtain⟨m,hm⟩:∃m,l.length=m+1:=⟨l.length-1,by omega⟩;rw[hm];show(if q<W.heap.size/\m+1<=c then V.sl q off (m+1) c 0 else V.junk)=_;rw[wd ⟨by omega,by omega⟩]
   refine .inr ⟨Y,q,off,c,0,_,tv,by omega,Z,by rw[S,Nat.mul_one,zw,q4];omega,.inl rfl,fun i J=>?_⟩;have e1:=K i J;rw[S,Nat.mul_one]at e1 ⊢;have e1:(L.drop<|off+i).take 1=[.int k l[i]]:=e1;have e2:L[off+i]?=some (.int k l[i]):=by
    have:=wi (fun l=>l[0]?) e1;simpa [List.getElem?_take,yc]using this
   have F:off+i<ca.toList.length:=ae
   have e3:(ca.toList.take L.length)[off+i]?=some ca.toList[off+i]:=by
    rw[zl ae,zd F]
   have e4:=q3.2 (off+i) _ _ e2 e3 rfl;have e4:ca.toList[off+i]=.int k l[i]:=e4;show((ca.toList.map<|JM W.heap.size).drop<|off+i).take 1=[.int k l[i]];rw[List.drop_eq_getElem_cons (by rw[zw];exact F),yu,e4];rfl
end
end
section
open Go.Proofs.Tryz (prog)
open Go.Sort (grow putRow putCells pdq SWO)
open Go.Proofs (ltOf sortWorldK)
open Go.Sort (HoldsK flatK putRowK)
open Go.Sp (Ah)
abbrev ix(n x:Nat):Nat:=if x<n then x else 0
def QA(l:List Ah)(x:Nat):Ah:=l.getD (ix l.length x) ((0,[]),0,[])
def Yg(l:List Ah)(x y:Nat):Int:=Sp.Iq (QA l x)<|QA l y
def Dt(l:List Ah):List Nat:=(pdq (ltOf<|Yg l) (zz l.length) 0 l.length (qe l.length) true true).toList
def kL(x:Ah):Prop:=∃X,RS 4000 x X
theorem HJ{l:List Ah}(h0:0<l.length)(h:∀x∈l,kL x)(x:Nat):kL (QA l x):=by
 have a:ix l.length x<l.length:=by unfold ix;split<;>omega
 have e:QA l x=l[ix l.length x]:=by
  unfold QA;rw[ze,zd a,zt]
 rw[e];exact h _<|zy a
theorem X6{l:List Ah}(h0:0<l.length)(h:∀x∈l,kL x):SWO (ltOf<|Yg l):=by
 have lt:∀x y X Y,RS 4000 (QA l x) X->RS 4000 (QA l y) Y->(ltOf (Yg l) x y=true↔X<Y):=fun x y X Y c d=>by
  unfold ltOf Yg;rw[w5];exact c.LC d
 refine⟨fun x=>?_,fun x y z a b=>?_,fun x y z a b=>?_⟩
 ·obtain⟨X,c⟩:=HJ h0 h x;exact ye.2 fun e=>Rat.lt_irrefl<|(lt x x X X c c).1 e
 ·obtain⟨X,c⟩:=HJ h0 h x;obtain⟨Y,d⟩:=HJ h0 h y;obtain⟨Z,hZ⟩:=HJ h0 h z;rw[lt x y X Y c d]at a;rw[lt y z Y Z d hZ]at b;rw[lt x z X Z c hZ];grind
 ·obtain⟨X,c⟩:=HJ h0 h x;obtain⟨Y,d⟩:=HJ h0 h y;obtain⟨Z,hZ⟩:=HJ h0 h z;have a:¬X<Y:=fun e=>by rw[(lt x y X Y c d).2 e]at a;cases a
  have b:¬Y<Z:=fun e=>by rw[(lt y z Y Z d hZ).2 e]at b;cases b
  refine ye.2 fun e=>?_
  have e:=(lt x z X Z c hZ).1 e;grind
theorem FL{l:List Ah}(h0:0<l.length)(h:∀x∈l,kL x):(Dt l).Perm (qh l.length)/\∀i j:Nat,i<j->j<l.length->¬Sp.Iq (QA l<|(Dt l).getD j 0) (QA l<|(Dt l).getD i 0)<0:=by
 obtain⟨⟨a1,_,a3⟩,b⟩:=Go.Sort.pdq_sorts (ltOf<|Yg l) (X6 h0 h) (zz l.length) 0 l.length (qe l.length) true true (yb _) (by simp) (Or.inl rfl);have sz:(pdq (ltOf<|Yg l) (zz l.length) 0 l.length (qe l.length) true true).size=l.length:=by rw[a1];simp
 refine⟨?_,fun i j c d=>?_⟩
 ·have e1:∀a:Array Nat,a.size=l.length->(a.extract 0 l.length).toList=a.toList:=fun a e=>by
   rw[<-e];simp
  rw[e1 _ sz,e1 _<|by simp]at a3;unfold Dt;simpa using a3
 ·have:=b i j (yb _) c d;unfold ltOf Yg at this;have g:∀k,k<l.length->(Dt l).getD k 0=(pdq (ltOf<|Yg l) (zz l.length) 0 l.length (qe l.length) true true)[k]! :=fun k f=>by
   unfold Dt;rw[ze,yn,getElem!_pos _ k ae,yx ae];rfl
  rw[g j d,g i ae];exact w7 this
def GO(cs:List V)(ks:List Nat):List V:=(qh<|ks.length*4).map fun t=>cs.getD (ks.getD (t/4) 0*4+t % 4) .nils
structure dY(h:H)(b n:Nat)(cs:List V)(fz:Nat×Nat)(l:List Ah):Prop where
 n:l.length=n
 n0:0<l.length
 n1:l.length<=1000000
 d:Dd (F0 h b) AL l cs
 ok:∀x∈l,kL x
 fz:fz.2<=fz.1
 gh:Gh h
open Classical in
def Mw:List V->H->Option (V×H)
 |[.sl b 0 n _ _,.fn (.func 64) [] []],h=>match h.get b with
  |some (.cells cs t fz)=>if hx:∃l,dY h b n cs fz l then some (.tup [],h.put b<|.cells (GO cs<|Dt hx.choose) t fz)else none
  |_=>none
 |_,_=>none
instance srt1:Srt:=⟨some Mw⟩
theorem Qz:(Dr.all fun x=>match x.2 with| .cells cs _ fz=>(cs.all fun c=>match c with| .int _ _=>true|_=>false)&&(yt fz.1 0&&yt fz.2 cs.length)&&Nat.blt 0 cs.length|_=>false)=true:=by kernel_rfl
section
variable {p:Pl}{h:H}{w W:World}{b r n:Nat}{o:O}
theorem kH(B:R p h w)(s:Gp p)(u:Gh h)(I:p[b]?=some (r,n))(L:h.get b=some o)(z:∀x∈Dr,x.1≠b)(a:∀j,j<w.heap.size->j≠r->W.heap[j]?=w.heap[j]?):GW W:=fun x f=>by
 have F:=u x f;have G:=s x f;obtain⟨S,n',y,E,A,J⟩:=B.obj x.1 _ F;rw[G]at E;cases E;have N:x.1≠r:=fun e=>z x f (B.inj x.1 b _ _ r _ _ F L (by rw[G,e]) I)
 have lt:x.1<w.heap.size:=(zu.1 A).1;have q:=yr.1 Qz x f;obtain⟨i,ob⟩:=x;cases ob with
 |cells cs t fz=>
  simp only[zj]at q;obtain⟨⟨q1,g,d⟩,C⟩:=q;have g:=yd g;have d:=yd d;have C:0<cs.length:=Nat.le_of_ble_eq_true C;obtain⟨ca,fz',rfl,s1,s2,s3,_⟩:=J;have s1:ca.size=cs.length:=s1;unfold Mf;rw[a _ lt N,A];simp only;rw[wc ae];have e:ca.toList.map (JM W.heap.size)=cs:=by
   refine qi (by rw[zw,yi,s1]) fun j K v=>?_
   have M:j<ca.toList.length:=by simpa using K
   have c:=yr.1 q1 cs[j]<|zy v;rw[yu];have e3:(ca.toList.take cs.length)[j]?=some ca.toList[j]:=by rw[zl v,zd M]
   cases D:cs[j]with
   |int k m=>
    have:=s3.2 j _ _ (by rw[zd v,D]) e3 rfl;have this:ca.toList[j]=.int k m:=this;rw[this];rfl
   |_=>rw[D]at c;cases c
  rw[e,s1];obtain⟨U,T⟩:=fz;simp only at g d;rw[g,d]
 |_=>cases q
end
end
section
open Go.Proofs.Tryz (prog)
open Go.Sort (grow putRow putCells pdq SWO)
open Go.Proofs (ltOf sortWorldK CmpLays)
open Go.Sort (HoldsK flatK putRowK)
open Go.Sp (Ah)
def fl1:V->Bool
 | .agg _| .tup _=>false
 |_=>true
theorem ZO{p:Pl}:∀ {d:V} {v:Value},Ab p d v->fl1 d=true->v.oneCell'=true
 | .bool _,_,h,_=>by simp only[Ab]at h;subst h;rfl
 | .int _ _,_,h,_=>by simp only[Ab]at h;subst h;rfl
 | .str _,_,h,_=>by simp only[Ab]at h;subst h;rfl
 | .nilp,_,h,_=>by simp only[Ab]at h;subst h;rfl
 | .ptr _ _,_,h,_=>by simp only[Ab]at h;obtain⟨_,_,_,rfl⟩:=h;rfl
 | .nils,_,h,_=>by simp only[Ab]at h;subst h;rfl
 | .sl _ _ _ _ _,_,h,_=>by simp only[Ab]at h;obtain⟨_,_,_,_,rfl,_⟩:=h;rfl
 | .esl,_,h,_=>by simp only[Ab]at h;obtain⟨_,_,rfl⟩:=h;rfl
 | .es0,_,h,_=>by simp only[Ab]at h;obtain⟨_,rfl⟩:=h;rfl
 | .junk,_,h,_=>by simp only[Ab]at h
 | .nilm,_,h,_=>by simp only[Ab]at h;subst h;rfl
 | .map _,_,h,_=>by simp only[Ab]at h;obtain⟨_,_,_,rfl⟩:=h;rfl
 | .fn _ _ _,_,h,_=>by simp only[Ab]at h;obtain⟨_,_,rfl,_⟩:=h;rfl
 | .yld _,_,h,_=>by simp only[Ab]at h;obtain⟨_,_,_,rfl⟩:=h;rfl
 | .nilf,_,h,_=>by simp only[Ab]at h;subst h;rfl
 | .iface _ _,_,h,_=>by simp only[Ab]at h;obtain⟨_,rfl,_⟩:=h;rfl
 | .nili,_,h,_=>by simp only[Ab]at h;subst h;rfl
theorem PD{F:Fz}:∀(s:Sh) (x:s.T) (ds:List V),s.il=true->DC F s x ds->∀d∈ds,fl1 d=true
 | .int k,x,ds,_,e=>by
  have e:ds=[.int k x]:=e;subst e;intro d h;rw[qu.1 h];rfl
 | .pair a c,x,ds,f,e=>by
  simp only[Sh.il,zj]at f;simp only[DC]at e;obtain⟨u,z,rfl,i,g⟩:=e;intro d h;rcases List.mem_append.1 h with h|h
  ·exact PD a x.1 u f.1 i d h
  ·exact PD c x.2 z f.2 g d h
 | .nlist (.int k),l,ds,_,e=>by
  simp only[DC]at e;obtain⟨v,rfl,e⟩:=e;intro d h;rw[qu.1 h];rcases e with⟨_,rfl⟩|⟨_,b',off,cap,j,m,rfl,_⟩<;>rfl
def FT(ca:Array Value)(n x:Nat):List Value:=(ca.toList.drop<|ix n x*4).take 4
theorem QI{w:World}{r off:Nat}{d:Array Value}{c:Array Value}{t:TypeId}{fz:Nat×Nat}(h:w.heap[r]?=some (.cells c t fz)):(putRow id w r off d).heap=w.heap.setIfInBounds r (.cells (putCells id off d c) t fz):=by
 apply Array.ext_getElem?;intro k;show(w.heap.modify r _)[k]?=_;rw[Array.getElem?_modify,qn];by_cases e:r=k
 ·subst e;have a:r<w.heap.size:=(zu.1 h).1;rw[wd rfl,wd rfl,wd a,h];rfl
 ·rw[wc e,wc e]
theorem Dk(off:Nat)(d c:Array Value)(i:Nat):(putCells id off d c)[i]?=c[i]?.map fun x=>if off<=i/\i<off+d.size then d[i-off]! else x:=by
 unfold putCells;rw[Array.getElem?_mapIdx];rfl
theorem jN{F:Fz}{x:Ah}{ds:List V}(h:DC F AL x ds):∃a b,ds[1]?=some a/\(a=.nils\/∃b' off len cap o,a=.sl b' off len cap o)/\b=a:=by
 simp only[DC]at h;obtain⟨u,z,rfl,⟨u1,u2,rfl,c,v,d,e⟩,_⟩:=h;have c:u1=[.int .i64 x.1.1]:=c;subst c d;refine⟨v,v,rfl,?_,rfl⟩;rcases e with⟨_,rfl⟩|⟨_,b',off,cap,f,g,rfl,_⟩
 ·exact .inl rfl
 ·exact .inr ⟨_,_,_,_,_,rfl⟩
theorem YI:Fe prog MT:=by
 intro f q hq p h w args args' v h' hr hgp ha I;unfold MT srt1 at hq;cases hf:yt f 63 with
 |false=>rw[hf]at hq;cases hq
 |true=>
  rw[hf]at hq;cases hq;cases yd hf;unfold Mw at I;split at I
  case h_2=>cases I
  rename_i b n c o;split at I
  case h_2=>cases I
  rename_i cs t fz Z;split at I
  case isFalse=>cases I
  rename_i hx;have G:=hx.choose_spec;generalize hx.choose=l at*;cases I;obtain⟨Gn,n0,n1,Gd,E,Gfz,Ggh⟩:=G;subst Gn;obtain⟨x,y,hl,g1,g2⟩:=ha.two;have:args'= #[x,y]:=qw.1 hl;subst this;simp only[Ab]at g1 g2;obtain⟨r,m,cp,k1,rfl,_,_,_,_⟩:=g1;obtain⟨u,z,rfl,u1,z1⟩:=g2;have u1:u= #[]:=qw.1 (by simpa using u1);have z1:z= #[]:=qw.1 (by simpa using z1);subst u1 z1;obtain⟨r',m',ob,j1,j2,j3⟩:=hr.obj b _ Z;rw[k1]at j1;cases j1;obtain⟨ca,fz',rfl,s1,s2,s3,s4⟩:=j3;have hcl:cs.length=l.length*4:=Gd.1;have cal:ca.toList.length=m:=by rw[yi];exact s1
  have A:∀x,ix l.length x<l.length:=fun x=>by unfold ix;split<;>omega
  have F:∀x,(FT ca l.length x).length=4:=fun x=>by
   have:=A x;unfold FT;rw[yj,yq];omega
  have R:∀j,j<cs.length->∃g:j<ca.toList.length,(cs.getD j .nils).ok=true->Ab p (cs.getD j .nils) ca.toList[j]:=fun j g=>by
   have T:j<ca.toList.length:=ae
   refine⟨T,fun C=>?_⟩;have e1:cs[j]?=some (cs.getD j .nils):=by rw[ze,zd g];rfl
   exact s3.2 j _ _ e1 (by rw[zl g,zd T]) C
  have eD:∀x,DC (F0 h b) AL (QA l x) ((cs.drop<|ix l.length x*4).take 4):=fun x=>by
   have:=Gd.2 (ix l.length x)<|A x;unfold QA;rw[ze,zd<|A x,zt];exact this
  have eR:∀x,Ar p ((cs.drop<|ix l.length x*4).take 4) (FT ca l.length x):=fun x=>by
   have K:=A x;refine Ar.mk (by rw[F,yj,yq];omega) fun i d v e1 e2=>?_
   have i4:i<4:=by
    have:=(yw.1 e2).1;rw[F]at this;exact this
   have ok:=DC.ok (eD x) d<|qm e1;rw[zl i4,yc]at e1;unfold FT at e2;rw[zl i4,yc]at e2;obtain⟨g,c1⟩:=R (ix l.length x*4+i) ae;have e3:cs.getD (ix l.length x*4+i) .nils=d:=by rw[ze,e1];rfl
   rw[zd g]at e2;cases e2;rw[e3]at c1;exact c1 ok
  have h1:∀x,∀v∈FT ca l.length x,v.oneCell'=true:=fun x v U=>by
   obtain⟨i,K,rfl⟩:=List.getElem_of_mem U;have hl:=(eR x).length;have hi2:i<((cs.drop<|ix l.length x*4).take 4).length:=ae
   obtain⟨v',e1,e2⟩:=(eR x).get<|zd hi2;rw[zd K]at e1;cases e1;exact ZO e2<|PD AL _ _ rfl (eD x) _ (zy hi2)
  have rl:r<w.heap.size:=(zu.1 j2).1;have gne:∀x∈Dr,x.1≠b:=fun x hx e=>by
   have a1:=Ggh x hx;rw[e,Z]at a1;have q:=yr.1 Qz x hx;rw[<-Option.some.inj a1]at q;simp only[zj]at q;obtain⟨a,b',f1,f2,_⟩:=jN<|eD 0;have e0:ix l.length 0=0:=by unfold ix;split<;>rfl
   rw[e0,Nat.zero_mul,List.drop_zero,zl af]at f1;have:=yr.1 q.1.1 a<|qm f1;rcases f2 with rfl|⟨_,_,_,_,_,rfl⟩<;>cases this
  have flat:∀(D:Array Nat) (j:Nat),j<D.size*4->(flatK (FT ca l.length) 4 D)[j]! =ca.toList.getD (ix l.length (D[j/4]!)*4+j % 4) default:=fun(D:Array Nat) j g=>by
   rw[Go.Sort.get_flatK _ _ _ j g];have h4:j % 4<(FT ca l.length<|D[j/4]!).length:=by rw[F];exact Nat.mod_lt _ af
   rw[getElem!_pos (FT ca l.length<|D[j/4]!) (j % 4) h4];have h5:ix l.length (D[j/4]!)*4+j % 4<ca.toList.length:=by
    have:=A<|D[j/4]!;omega
   rw[ze,zd h5,zt];simp only[FT,List.getElem_take,List.getElem_drop]
  have hH:HoldsK (FT ca l.length) 4 w r 0 (zz l.length):=by
   intro j g;rw[Go.Sort.size_flatK,yv]at g;have e1:ix l.length ((zz l.length)[j/4]!)=j/4:=by
    have:j/4<l.length:=ae
    rw[getElem!_pos _ _ (by rw[yv];exact this),Array.getElem_range];unfold ix;rw[wd this]
   have h5:j<ca.toList.length:=ae
   rw[flat _ j (by rw[yv];exact g),e1,show j/4*4+j % 4=j by omega,ze,zd h5,zt];refine⟨?_,?_⟩
   ·unfold qv;rw[j2];show ca[0+j]?=some _;rw[Nat.zero_add, <-yn,zd h5];rfl
   ·unfold World.frozen?;rw[j2];obtain⟨lo,K⟩:=fz';show(decide (lo<=0+j)&&decide (0+j<K))=false;rw[Bool.and_eq_false_iff,w9,w9];by_cases e1:lo<=0+j
    ·refine .inr fun e2=>?_
     have:=s4 (0+j) ae e1 e2;omega
    ·exact .inl e1
  have V:CmpLays prog 64 #[] (FT ca l.length) 4 (Yg l) r 0 (zz l.length).size w:=by
   intro s os dk _ x y;have B:∀j,j<w.heap.size->j≠r->(sortWorldK (FT ca l.length) 4 w r 0 s dk os).heap[j]?=w.heap[j]?:=fun j h1 h2=>by
    show((putRow id (ym w s) r 0 _).heap++os)[j]?=_;have sz:(putRow id (ym w s) r 0<|flatK (FT ca l.length) 4 dk).heap.size=w.heap.size:=Go.Sort.size_putRow ..;rw[yp (by rw[sz];exact h1),QI (w:=ym w s) j2,qn,wc<|fun e=>h2 e.symm];rfl
   have hsz:w.heap.size<=(sortWorldK (FT ca l.length) 4 w r 0 s dk os).heap.size:=by
    show _<=((putRow id (ym w s) r 0 _).heap++os).size;have sz:(putRow id (ym w s) r 0<|flatK (FT ca l.length) 4 dk).heap.size=w.heap.size:=Go.Sort.size_putRow ..;rw[Array.size_append,sz];omega
   generalize sortWorldK (FT ca l.length) 4 w r 0 s dk os=W at*;have L:=fun x=>later hr k1 Z B hsz AL (QA l x) _ _ rfl (eD x) (eR x)
   have VV:∀x,Ar (pW W) ((FT ca l.length x).map<|JM W.heap.size) (FT ca l.length x):=fun x=>Ar.mk (by rw[zw]) fun i d v e1 e2=>by
    have ok:=DC.ok (L x) d<|qm e1;rw[qg,e2]at e1;cases e1;exact Lq ok
   obtain⟨X,hX⟩:=HJ n0 E x;obtain⟨Y,hY⟩:=HJ n0 E y;refine WC (S:=pB) nL (@T64.ok pB) (QA l x,QA l y) (Ad (hX.D2 af)<|hY.D2 af) (args:=[.agg _,.agg _]) (kH hr hgp Ggh k1 Z gne B) (Kj.cons ((PC.BU<|L x).1 rfl)<|Kj.cons ((PC.BU<|L y).1 rfl)<|fun ρ N=>by simp only[BD]) ?_ ?_ ag
   ·show Ar (pW W) _ [.agg _,.agg _];rw[Ba,Ba];exact⟨by simp only[Ab];exact⟨_,rfl,VV x⟩,by simp only[Ab];exact⟨_,rfl,VV y⟩,by simp⟩
   ·intro F' v U p' v' hr';have U:=U (fun _=>none) 0;obtain rfl:=C8 U;simp only[Ab]at hr';exact hr'
  have J:=Go.Proofs.AnyQ.slices_SortFunc_eq (P:=prog) Aab 4 (fun w=>Go.Proofs.Tryz.isAgg88 w) (fun w=>Go.Proofs.Tryz.sizeOf88 w) (FT ca l.length) F h1 (Yg l) (X6 n0 E) 64 #[] r 0 cp (zz l.length) w (Go.Proofs.enters_of Go.Proofs.Tryz.func64 ag rfl) V hH rl (by rw[yv];omega);rw[yv]at J;refine J.mono ?_;rintro e w' ⟨rfl,s,os,rfl⟩;have pf:=FL n0 E;have il:(Dt l).length=l.length:=by rw[pf.1.length_eq,z6]
  have im:∀k,k<l.length->(Dt l).getD k 0<l.length:=fun k F=>by
   rw[ze,zd ae,zt];exact jg.1<|pf.1.mem_iff.1<|zy _
  have ig:∀k,k<l.length->(pdq (ltOf<|Yg l) (zz l.length) 0 l.length (qe l.length) true true)[k]! =(Dt l).getD k 0:=fun k F=>by
   have:k<(pdq (ltOf<|Yg l) (zz l.length) 0 l.length (qe l.length) true true).size:=by
    rw[<-yi];show k<(Dt l).length;omega
   unfold Dt;rw[ze,yn,getElem!_pos _ k this,yx this];rfl
  have ds:(pdq (ltOf<|Yg l) (zz l.length) 0 l.length (qe l.length) true true).size=l.length:=by
   rw[<-yi];exact il
  generalize hD:pdq (ltOf<|Yg l) (zz l.length) 0 l.length (qe l.length) true true=D at*;have M:Ext p h w p (h.put b<|.cells (GO cs<|Dt l) t fz) (putRow id (ym w s) r 0<|flatK (FT ca l.length) 4 D):=by
   have pl:(GO cs<|Dt l).length=l.length*4:=by unfold GO;rw[zw,z6,il]
   refine Ext.put hr Z k1 (x':=.cells (putCells id 0 (flatK (FT ca l.length) 4 D) ca) t fz') ?_ (QI (w:=ym w s) j2) rfl rfl rfl ?_ (by show w.drawn<=w.drawn+s;omega)
   ·refine⟨_,fz',rfl,by simp[putCells,s1],by rw[pl];omega,⟨?_,?_⟩,s4⟩
    ·have:(putCells id 0 (flatK (FT ca l.length) 4 D) ca).toList.length=m:=by simp[putCells,s1]
     rw[yj,pl,this];omega
    ·intro i d v e1 e2 C;have K:i<l.length*4:=by
      have:=(yw.1 e1).1;rw[pl]at this;exact this
     have i4:i/4<l.length:=ae
     have hix:(Dt l).getD (i/4) 0*4+i % 4<cs.length:=by
      have:=im (i/4) i4;omega
     have e1:d=cs.getD ((Dt l).getD (i/4) 0*4+i % 4) .nils:=by
      unfold GO at e1;rw[qg,List.getElem?_range<|by rw[il];exact K]at e1;exact(Option.some.inj e1).symm
     rw[zl (by rw[pl];exact K),yn,Dk]at e2;have hic:i<ca.size:=ae
     rw[yx hic]at e2;simp only[Option.map_some,Option.some.injEq]at e2;rw[wd ⟨yb _,by rw[Go.Sort.size_flatK,ds];omega⟩,Nat.sub_zero,flat D i (by rw[ds];exact K),ig _ i4]at e2;have e5:ix l.length ((Dt l).getD (i/4) 0)=(Dt l).getD (i/4) 0:=by
      unfold ix;rw[wd<|im _ i4]
     rw[e5]at e2;obtain⟨g,c1⟩:=R _ hix;rw[ze,zd g,zt]at e2;rw[<-e2,e1];rw[e1]at C;exact c1 C
   ·intro cs2 t2 fz2 he F;cases he;unfold Lk at F;omega
  refine⟨_,p,rfl,by simp[Ab],M.trans<|LV M.rel ⟨rfl,rfl,rfl,?_,fun j g=>?_⟩<|qj _⟩
  ·show _<=((putRow _ _ _ _ _).heap++os).size;rw[Array.size_append];exact Nat.le_add_right ..
  ·show((putRow _ _ _ _ _).heap++os)[j]?=_;exact yp g
end
end Go.Pe
namespace Go.Sp
def E2(l:List Ah):List Ah:=(Go.Pe.Dt l).map<|Go.Pe.QA l
def RU(l:List Ah):Bool:=@decide (l≠[]/\l.length<=1000000/\∀x∈l,Go.Pe.kL x) (zk _)
theorem RJ{l:List Ah}(h:RU l=true):l≠[]/\l.length<=1000000/\∀x∈l,Go.Pe.kL x:=@w6 _ (zk _) h
theorem qQ{l:List Ah}(h:l≠[]/\l.length<=1000000/\∀x∈l,Go.Pe.kL x):RU l=true:=@w4 _ (zk _) h
end Go.Sp
namespace Go.Pe
open Sp
open Go.Det
section
open Go.Sp (Ah)
def fnB:Option Fn->Bool
 |some (.func g)=>yt g 64
 |_=>false
def S3:KR:=⟨[.fnv],88,AL,fun i l=>fnB i&&RU l,fun _ l=>E2 l,true⟩
theorem PS{l:List Ah}(h:RU l=true):(E2 l).length=l.length:=by
 obtain⟨h0,_,a⟩:=RJ h;unfold E2;rw[zw,(FL (yy.2 h0) a).1.length_eq,z6]
theorem Rt{F:Fz}:∀(s:Sh) (x y:s.T) (cs:List V),s.il=true->DC F s x cs->DC F s y cs->x=y
 | .int k,x,y,cs,_,f,d=>by
  have f:cs=[.int k x]:=f;have d:cs=[.int k y]:=d;rw[f]at d;cases d;rfl
 | .pair a c,x,y,cs,t,f,d=>by
  simp only[Sh.il,zj]at t;simp only[DC]at f d;obtain⟨u,z,rfl,B,J⟩:=f;obtain⟨u',z',e,f1,f2⟩:=d;obtain⟨rfl,rfl⟩:=List.append_inj e (by rw[B.len,f1.len]);exact Prod.ext (Rt a x.1 y.1 u t.1 B f1)<|Rt c x.2 y.2 z t.2 J f2
 | .nlist (.int k),(x:List Int),(y:List Int),cs,_,f,d=>by
  simp only[DC]at f d;obtain⟨v,rfl,f⟩:=f;obtain⟨v',e,d⟩:=d;cases e;rcases f with⟨rfl,rfl⟩|⟨R,b',off,cap,E,G,rfl,U,K,A,_,m⟩
  ·rcases d with⟨rfl,_⟩|⟨_,b',off,cap,E,G,e,_⟩
   ·rfl
   ·cases e
  ·rcases d with⟨_,e⟩|⟨X,S,C,D,I,N,e,M,g,q,_,j⟩
   ·cases e
   ·simp only[V.sl.injEq]at e;obtain⟨rfl,rfl,e3,rfl,rfl⟩:=e;rw[K]at g;cases g;refine qi e3 fun i L i2=>?_
    have a:=m i L;have b:=j i i2;rw[a]at b;simpa using b
theorem eT{F:Fz}{a b:List Ah}{cs:List V}(h:Dd F AL a cs)(k:Dd F AL b cs):a=b:=by
 have l:a.length=b.length:=by
  have:=h.1.symm.trans k.1;have e:AL.sz=4:=rfl;rw[e]at this;omega
 exact qi l fun i c i2=>Rt AL _ _ _ rfl (h.2 i c) (k.2 i i2)
theorem ZL:Fj Bb 63 S3 where
 prim:=by kernel_rfl
 fn:=BK ag
 len:=fun i (l:List Ah) h=>by
  have h:(fnB i&&RU l)=true:=h;rw[zj]at h;exact PS h.2
 run:=by
  intro F h args (i:Option Fn) (l:List Ah) b cs fz o K u D f a I hd hfz hFb ho;have a:(fnB i&&RU l)=true:=a;rw[zj]at a;obtain⟨q,A⟩:=a;obtain rfl:i=some (.func 64):=by
   unfold fnB at q;split at q
   ·next g=>rw[yd q]
   ·cases q
  have X:args=[.fn (.func 64) [] []]:=by
   have:=f (fun _=>none) 0;simp only[Ae,S3,BD]at this;obtain⟨v,vs,rfl,E,rfl⟩:=this;have E:v=.fn (.func 64) [] []:=by simpa [PR,BU,DC]using E
   rw[E]
  subst X;have C:=RJ A;obtain⟨h0,E,S⟩:=C;have n0:=yy.2 h0;have J:∀c B,F c=some B->F0 h b c=some B:=fun c B s=>by
   obtain⟨t,z,e⟩:=K c B s;unfold F0;cases U:yt c b with
   |true=>rw[yd U,hFb]at s;cases s
   |false=>simp only[wg,e]
  have Y:cs.length=l.length*4:=hd.1;have G:dY h b l.length cs fz l:=⟨rfl,n0,E,⟨hd.1,fun i q=>(hd.2 i q).mono J⟩,S,hfz,D⟩;have N:=FL n0 S;have il:(Dt l).length=l.length:=by rw[N.1.length_eq,z6]
  have im:∀k,k<l.length->(Dt l).getD k 0<l.length:=fun k Z=>by
   rw[ze,zd ae,zt];exact jg.1<|N.1.mem_iff.1<|zy _
  have I:h.get b=some (.cells cs 88 fz):=I;have run:Mw [.sl b 0 l.length l.length o,.fn (.func 64) [] []] h=some (.tup [],h.put b<|.cells (GO cs<|Dt l) 88 fz):=by
   unfold Mw;simp only[I];have R:∃l',dY h b l.length cs fz l':=⟨l,G⟩;rw[dif_pos R,eT R.choose_spec.d G.d]
  have pl:(GO cs<|Dt l).length=l.length*4:=by unfold GO;rw[zw,z6,il]
  have nd:Dd F AL (E2 l) (GO cs<|Dt l):=by
   refine⟨by rw[pl,PS A];rfl,fun i q=>?_⟩;have q:i<l.length:=by rw[<-PS A];exact q
   have k:=im i q;have e1:(E2 l)[i]=l[(Dt l).getD i 0]:=by
    have e:(Dt l)[i]'ae=(Dt l).getD i 0:=by rw[ze,zd ae];rfl
    simp only[E2,yu];rw[e];unfold QA ix;rw[wd k,ze,zd k,zt]
   have e2:((GO cs<|Dt l).drop<|i*4).take 4=(cs.drop<|(Dt l).getD i 0*4).take 4:=by
    refine List.ext_getElem? fun j=>?_
    by_cases M:j<4
    ·rw[zl M,zl M,yc,yc];unfold GO;rw[qg,List.getElem?_range (by rw[il];omega),Option.map_some,show(i*4+j)/4=i by omega,show(i*4+j) % 4=j by omega,ze (l:=cs),zd ae];rfl
    ·rw[List.getElem?_eq_none (by rw[yj];omega),List.getElem?_eq_none<|by rw[yj];omega]
   show DC F AL (E2 l)[i]<|((GO cs<|Dt l).drop<|i*4).take 4;rw[e1,e2];exact hd.2 _ k
  refine⟨(.tup [],h.put b<|.cells (GO cs<|Dt l) 88 fz),1,fun m hm=>?_,rfl,qj _,fun c _ s=>?_,fun c y L=>?_,F,fun _ _ h=>h,fun _ _ h=>.inl h,fun c B s=>?_,_,fz,?_,nd,hfz⟩
  ·obtain⟨T,rfl⟩:∃T,m=T+1:=⟨m-1,by omega⟩;have V:Bb.spec 63=some Mw:=rfl;rw[A5];simp only[V];show(match Mw [.sl b 0 l.length l.length o,.fn (.func 64) [] []] h with|some x=>some [x]|none=>none)=_;rw[run]
  ·rw[H.BT,wc s]
  ·rw[H.BT]at L;rw[H.yZ];split at L
   ·next e=>rw[e];exact u _ _ I
   ·exact u _ _ L
  ·rw[H.BT];by_cases e:c=b
   ·subst e;rw[hFb]at s;cases s
   ·rw[wc e];exact K c B s
  ·rw[H.BT,wd rfl];rfl
 nils:=by
  intro F h args i K u D f a;have a:(fnB i&&RU [])=true:=a;rw[zj]at a;exact wh rfl (RJ a.2).1
end
end Go.Pe
namespace Go.Sp
def GU(a:Cp)(lo c:Int):Int:=if AH a≠0 then AH a else if AJ a<(lo:Rat)\/(c:Rat)<AJ a then 3 else 0
def iF(n:Int):Ah:=((n,BV n),(1,BV 1))
def U3(n:Int):Bool:=decide (-100000<n)&&decide (n<100000)
end Go.Sp
namespace Go.Pe
open Go.Det
abbrev Ack:Sh:=.pair .str i64
def aB:An:=⟨[.str,i64,i64],fun i=>decide (zf (α:=UInt8) i.1<=1000000)&&Sp.U3 i.2.1&&Sp.U3 i.2.2,[i64],fun i=>Sp.GU i.1 i.2.1 i.2.2,false⟩
end Go.Pe
namespace Go.Sp
def Ht(a e bad c:Int):Bool:=if bad≠0 then decide (a=0)&&decide (e=bad)else decide (e=0)&&decide (a=c)
end Go.Sp
namespace Go.Pe
open Go.Det
def jS:An:=⟨[A0],fun _=>true,[i64,.bool],fun a=>((a:Sp.AF).1,decide ((a:Sp.AF).2=[])),false⟩
def YB:An:=⟨[i64,i64,i64,i64],fun _=>true,[.bool],fun i=>Sp.Ht i.1 i.2.1 i.2.2.1 i.2.2.2,false⟩
end Go.Pe
namespace Go.Sp
def Bp(q:Rat):Int:=(q+1/2).floor
def OkV(x:Ah):Prop:=∃X,Go.Pe.RS 2000 x X
def okV(x:Ah):Bool:=@decide (OkV x) (zk _)
theorem yQ{x:Ah}(h:okV x=true):OkV x:=@w6 _ (zk _) h
theorem RY{x:Ah}(h:OkV x):okV x=true:=@w4 _ (zk _) h
def B2(n lo a:Int):Int:=if n<lo\/a<n then 3 else 0
def rdQ(q:Rat)(p:Int):Rat:=(Bp (q*p):Rat)/p
def xK(a:Ah)(p:Int):AF:=FI (Gt (JD a<|iF p)<|Hu (iF 1)<|iF 2).1 (Gt (JD a<|iF p)<|Hu (iF 1)<|iF 2).2
def xF(a:Ah)(p:Int):Ah:=U5 (xK a p) (p,BV p)
def AbH(a:Ah)(p:Int):Int:=nS<|xF a p
def AcI(a:Ah)(p:Int):List Int:=nW<|xF a p
def AbY(a:Ah)(p:Int):Int:=dS<|xF a p
def Acr(a:Ah)(p:Int):List Int:=dW<|xF a p
def wK(x:Ah)(p:Int):Prop:=(∃X,Go.Pe.RS 2000 x X)/\1<=p/\p<=10
def pG(x:Ah)(p:Int):Bool:=@decide (wK x p) (zk _)
theorem rV{x:Ah}{p:Int}(h:pG x p=true):wK x p:=@w6 _ (zk _) h
theorem pN{x:Ah}{p:Int}(h:wK x p):pG x p=true:=@w4 _ (zk _) h
def eB(a:Ah):Int:=(xF a 1).1.1
def LQ(a:Cp)(s:Int)(r:Cp)(p:Int):Int:=first [GU a (-20) 60,B2 s 55 155,GU r 1 200,B2 p 1 200]
def U8(a:Cp)(s:Int)(r:Cp)(p:Int):Rat:=AJ a*s/100+AJ r-p
def J9(a:Cp)(s:Int)(r:Cp)(p:Int):Int:=if LQ a s r p≠0 then 0 else Bp<|U8 a s r p
def Kb(c p:Int):Int:=first [B2 c (-99) 99,B2 p 0 100]
def P6(c p:Int):Int:=if Kb c p≠0 then 0 else Bp<|(c*p:Int)/100
def vF(s:Cp):Prop:=∃q,Nu 1300 s q/\(Bp q).natAbs<1000000000
def mO(s:Cp):Bool:=@decide (vF s) (zk _)
theorem qM{s:Cp}(h:mO s=true):vF s:=@w6 _ (zk _) h
theorem rA{s:Cp}(h:vF s):mO s=true:=@w4 _ (zk _) h
def Tc(s:Cp):Bool:=Hg s&&decide (s.length<=20)&&C1 s&&decide ((Bg s).natAbs<1000000000)
end Go.Sp
namespace Go.Pe
open Sp
open Go.Det
def AbW:Sh:=.pair i64<|.pair .str i64
def QR:An:=⟨[i64,i64,i64],fun _=>true,[i64],fun i=>B2 i.1 i.2.1 i.2.2,false⟩
def zV:An:=⟨[AL,i64],fun i=>pG i.1 i.2,[AL],fun i=>((AbH i.1 i.2,AcI i.1 i.2),(AbY i.1 i.2,Acr i.1 i.2)),false⟩
def lM:An:=⟨[AL],fun a=>Sp.okV a,[i64],fun a=>eB a,false⟩
def wV:An:=⟨[.str,i64,.str,i64],fun i=>decide (zf (α:=UInt8) i.1<=1000000)&&decide (zf (α:=UInt8) i.2.2.1<=1000000),[i64,i64],fun i=>(J9 i.1 i.2.1 i.2.2.1 i.2.2.2,LQ i.1 i.2.1 i.2.2.1 i.2.2.2),false⟩
def wC:An:=⟨[i64,i64],fun _=>true,[i64,i64],fun i=>(P6 i.1 i.2,Kb i.1 i.2),false⟩
def pV:An:=⟨[.str],fun s=>Tc s,[i64,.bool],fun s=>(Bg s,true),false⟩
def Abo:An:=⟨[.str],fun s=>mO s,[i64],fun s=>Bp<|AJ s,false⟩
def Ec:AX:=X7 []
def Abs:AX:=X7 [(42,Xf),(43,cF),(44,Qp),(46,Q1),(165,dZ),(97,TK),(95,cV)]
def Abz:AX:=X7 [(99,zV),(100,jS)]
def Aar:AX:=X7 [(61,FZ),(41,YE),(43,cF),(64,fH),(59,JK)]
def AaS:AX:=X7 [(59,JK)]
def AaL:AX:=X7 [(39,aB),(40,QR),(38,GB),(41,YE),(43,cF),(42,Xf),(44,Qp),(46,Q1),(47,uC),(45,lM)]
def Abw:AX:=X7 [(40,QR),(38,GB),(43,cF),(44,Qp),(45,lM)]
def AbD:AX:=X7 [(48,FZ),(49,bW),(50,bX)]
def Aai:AX:=X7 [(68,R4),(69,pV)]
def AaR:AX:=X7 [(122,sT),(26,Pq),(121,Yq),(51,QB)]
def AaH:AX:=X7 [(109,Jw),(108,S2)]
def fC:AX:=X7 [(123,Rm),(124,Nv)]
end Go.Pe
namespace Go.Sp
def Et(lo h n:Int):Bool:=decide (n<lo)||decide (h<n)
def DD(l:List Int)(lo h:Int):Int:=if l=[]then 12 else if 200<l.length then 5 else if l.any (Et lo h)=true then 3 else 0
def CT(l:List Int):Int:=l.foldl Go.Pe.B5<|l.headD 0
def DK(l:List Int):List Int:=l.map (· - CT l)
def H6(l:List Int):List Int:=if DD l (-99) 99≠0 then[]else DK l
def CB(l p:List Int):Int:=((l.zip p).map fun x=>x.1*x.2).sum
def GD(l p:List Int):Int:=first [DD l (-99) 99,DD p 0 100,BO ((↑(zf l):Int) !=(↑(zf p):Int)) 2]
def Q4(l p:List Int):Int:=if GD l p≠0 then 0 else Bp<|(CB l p:Int)/100
end Go.Sp
namespace Go.Pe
open Sp
open Go.Det
def sV:An:=⟨[Hv],fun l=>decide (0<zf (α:=Int) l)&&decide (zf (α:=Int) l<=1000000),[i64],fun l=>CT l,false⟩
def X9:An:=⟨[Hv],fun l=>decide (zf (α:=Int) l<=1000000),[Hv,i64],fun l=>(H6 l,DD l (-99) 99),false⟩
def ZH:An:=⟨[Hv,Hv],fun i=>decide (zf (α:=Int) i.1<=1000000)&&decide (zf (α:=Int) i.2<=1000000),[i64,i64],fun i=>(Q4 i.1 i.2,GD i.1 i.2),false⟩
def sI:An:=⟨[Hv,i64,i64],fun i=>decide (zf (α:=Int) i.1<=1000000),[i64],fun i=>DD i.1 i.2.1 i.2.2,false⟩
def sM:An:=⟨[Hv],fun l=>decide (DD l (-99) 99=0),[Hv],fun l=>DK l,false⟩
def Aa9:An:=⟨[Hv,Hv],fun i=>decide (GD i.1 i.2=0),[i64],fun i=>Q4 i.1 i.2,false⟩
def SP:An:=⟨[Hv,.str,AbW],fun _=>true,[.bool],fun _=>true,false⟩
def JB:AX:=X7 [(6,Ry),(17,sI),(25,cD),(9,aB),(15,X9),(13,wC),(16,ZH),(7,wV),(26,Pq)]
def Sm:AX:=X7 [(40,QR),(38,GB),(59,JK),(58,sV)]
def JC:AX:=X7 [(40,QR),(38,GB),(59,JK),(43,cF),(44,Qp),(45,lM)]
def qH:AX:=X7 [(52,XX),(53,Abo)]
section
open List Int Prod
namespace T17
def T(l:List Int)(lo h:Int):Tr:=tree Ec false 9 17<|Ae ([zr i64,yz zq,yz zq]) (l,lo,h)
def L1(v0:List Int)(v1 v2 a:Int):Tr:=re ((T [] 0 0).R.R)<|AE 27 [(0,.dat (zr i64) v0),(1,.dat i64 v1),(2,.dat i64 v2),(7,.dat i64 a)] [] 0
theorem Aj(l:List Int)(lo h:Int):T l lo h=.ite ((length l:Int)==0) (.leaf (.dat i64 (12:Int)) []) (.di ((length l:Int)>200) (.leaf (.dat i64 (5:Int)) [])<|L1 l lo h 0):=by kernel_rfl
theorem Am(v0:List Int)(v1 v2 a:Int):stepT Ec (L1 v0 v1 v2 a)=let c:=decide (a<(length v0:Int));let b':Tr:=.leaf (.dat i64 (3:Int)) [];.ite c (.ck (decide (0<=a)&&c)<|.di (getD v0 (toNat a) 0<v1) b'<|.di (getD v0 (toNat a) 0>v2) b'<|L1 v0 v1 v2<|zg .i64<|a+1) (.leaf (.dat i64 (0:Int)) []):=by kernel_rfl
end T17
namespace T19
def T(l:List Int):Tr:=tree Ec false 9 19<|Ae ([zr i64]) l
def L1(v0:List Int)(v3 v4:Int):Tr:=re ((T []).L)<|AE 38 [(0,.dat (zr i64) v0),(3,.dat i64 v3),(4,.dat i64 v4)] [] 0
theorem Aj(l:List Int):T l=.cd (0<(length l:Int)) (L1 l (getD l 0 0) 0):=by kernel_rfl
def L2(v0:List Int)(v3 a:Int):Tr:=re ((stepT Ec<|L1 [] 0 0).R)<|AE 38 [(0,.dat (zr i64) v0),(3,.dat i64 v3),(5,.nil),(6,.dat i64 a)] [] 0
theorem Am(v0:List Int)(v3 v4:Int):stepT Ec (L1 v0 v3 v4)=let a:=decide (v4<(length v0:Int));.ite a (.ck (decide (0<=v4)&&a)<|L1 v0 (B5 v3<|getD v0 (toNat v4) 0)<|zg .i64<|v4+1) (L2 v0 v3 0):=by kernel_rfl
def L3(v0:List Int)(v3:Int)(a:Nat)(c:Int)(d:List Int):Tr:=re ((stepT Ec<|L2 [] 0 0).L.L.L)<|AE 38 [(0,.dat (zr i64) v0),(3,.dat i64 v3),(5,.sl 0 1 0 a none),(6,.dat i64 c)] [(0,.arr false 3 i64 d)] 1
theorem AU(v0:List Int)(v3 a:Int):stepT Ec (L2 v0 v3 a)=let c:=decide (a<(length v0:Int));.ite c (.ck (decide (0<=a)&&c)<|.ck (aa 8)<|L3 v0 v3 1 (zg .i64<|a+1)<|[zg .i64<|getD v0 (toNat a) 0-v3]) (.leaf .nil []):=by kernel_rfl
theorem BH(v0:List Int)(v3:Int)(a:Nat)(c:Int)(d:List Int):stepT Ec (L3 v0 v3 a c d)=let e:=decide (c<(length v0:Int));.ite e (.ck (decide (0<=c)&&e)<|.ck (ac a (length d) 8)<|L3 v0 v3 (Nat.add a 1) (zg .i64<|c+1)<|d++[zg .i64<|getD v0 (toNat c) 0-v3]) (.leaf (.sl 0 1 0 a none)<|[(0,.arr false 3 i64 d)]):=by kernel_rfl
end T19
namespace T21
def T(l p:List Int):Tr:=tree qH false 9 21<|Ae ([zr i64,zr i64]) (l,p)
def L1(v0 v1:List Int)(v5 a:Int):Tr:=re ((T [] []))<|AE 27 [(0,.dat (zr i64) v0),(1,.dat (zr i64) v1),(5,.dat i64 v5),(6,.dat i64 a)] [] 0
theorem Aj(l p:List Int):T l p=L1 l p 0 0:=by kernel_rfl
theorem Am(v0 v1:List Int)(v5 a:Int):stepT qH (L1 v0 v1 v5 a)=let c:=decide (a<(length v0:Int));.ite c (.ck (decide (0<=a)&&c)<|.ck (decide (0<=a)&&decide (a<(length v1:Int)))<|L1 v0 v1 (zg .i64<|v5+zg .i64 (getD v0 (toNat a) 0*getD v1 (toNat a) 0))<|zg .i64<|a+1) (.ck (Cx v5&&Cx 100&&decide (100≠0))<|.ck (mO<|Cv v5 100)<|.leaf (.dat i64<|Bp<|AJ<|Cv v5 100) []):=by kernel_rfl
end T21
namespace T58
def T(l:List Int):Tr:=tree Ec false 9 58<|Ae ([zr i64]) l
def L1(v0:List Int)(v3 v4:Int):Tr:=re ((T []).R.L)<|AE 25 [(0,.dat (zr i64) v0),(3,.dat i64 v3),(4,.dat i64 v4)] [] 0
theorem Aj(l:List Int):T l=.di ((length l:Int)<1) .fail (.cd (0<(length l:Int))<|L1 l (getD l 0 0) 1):=by kernel_rfl
theorem Am(v0:List Int)(v3 v4:Int):stepT Ec (L1 v0 v3 v4)=let a:=decide (v4<(length v0:Int));.ite a (.ck (decide (0<=v4)&&a)<|L1 v0 (B5 v3<|getD v0 (toNat v4) 0)<|zg .i64<|v4+1) (.leaf (.dat i64 v3) []):=by kernel_rfl
end T58
namespace T15
def T(l:List Int):Tr:=tree Sm false 9 15<|Ae ([zr i64]) l
def L1(v5:Int)(a:List Int)(c d:Int):Tr:=re ((T []).L.L.L.L.R.L)<|AE 30 [(5,.dat i64 v5),(6,.nil),(16,.dat (zr i64) a),(17,.dat i64 c),(18,.dat i64 d)] [] 0
def L2(l c:List Int)(a d:Int):Tr:=re ((T l).L.L.L.R)<|AE 35 [(1,PV.fn (q9 55) [] []),(22,.dat (zr i64) c),(23,.dat i64 a),(24,.dat i64 d)] [] 0
theorem Aj(l:List Int):T l=let a:=(length l:Int);let b':=zh [BO (a==0) 12,BO (decide (a>200)) 5] !=0;.ck true (.ck true<|.ck (decide (2<=2)&&true&&decide (2<=1000000))<|.ite b' (.ite b' (.leaf (.tup [.nil,.dat i64<|zh [BO (a==0) 12,BO (decide (a>200)) 5]]) [])<|.ck (decide (0<length l)&&decide (length l<=1000000))<|L1 (CT l) l a 0)<|L2 l l a 0):=by kernel_rfl
def L3(v5:Int)(d:Nat)(a:List Int)(c e:Int)(f:List Int):Tr:=re ((stepT Sm<|L1 0 [] 0 0).L.L.L)<|AE 30 [(5,.dat i64 v5),(6,.sl 0 1 0 d none),(16,.dat (zr i64) a),(17,.dat i64 c),(18,.dat i64 e)] [(0,.arr false 3 i64 f)] 1
theorem Am(v5:Int)(c:List Int)(d a:Int):stepT Sm (L1 v5 c d a)=.di (a<d) (.ck (decide (0<=a)&&decide (a<(length c:Int)))<|.ck (aa 8)<|L3 v5 1 c d (zg .i64<|a+1)<|[zg .i64<|getD c (toNat a) 0-v5]) (.leaf (.tup [.nil,.dat i64 (0:Int)]) []):=by kernel_rfl
theorem AU(l c:List Int)(d a:Int):stepT Sm (L2 l c d a)=let e:Tr:=.ck (decide (0<length l)&&decide (length l<=1000000))<|L1 (CT l) l ((length l:Int)) 0;let f:=getD c (toNat a) 0;let b':=B2 f (-99) 99 !=0;.di (a<d) (.ck (decide (0<=a)&&decide (a<(length c:Int)))<|.ck true<|.ite b' (.ite b' (.leaf (.tup [.nil,.dat i64<|B2 f (-99) 99]) []) e)<|L2 l c d<|zg .i64<|a+1) (.ite false (.leaf (.tup [.nil,.dat i64 (0:Int)]) []) e):=by kernel_rfl
theorem BH(v5:Int)(c:Nat)(d:List Int)(e a:Int)(f:List Int):stepT Sm (L3 v5 c d e a f)=.di (a<e) (.ck (decide (0<=a)&&decide (a<(length d:Int)))<|.ck (ac c (length f) 8)<|L3 v5 (Nat.add c 1) d e (zg .i64<|a+1)<|f++[zg .i64<|getD d (toNat a) 0-v5]) (.leaf (.tup [.sl 0 1 0 c none,.dat i64 (0:Int)])<|[(0,.arr false 3 i64 f)]):=by kernel_rfl
end T15
namespace T16
def T(l p:List Int):Tr:=tree JC false 9 16<|Ae ([zr i64,zr i64]) (l,p)
def L1(v1:List Int)(e:Int)(c:List Int)(a d:Int):Tr:=re ((T [] []).L.L.L.L.L.L.L.L.L.L.R)<|AE 46 [(1,.dat (zr i64) v1),(7,.dat i64 e),(25,.dat (zr i64) c),(26,.dat i64 a),(27,.dat i64 d)] [] 0
def L2(l p a:List Int)(c d:Int)(e:List Int):Tr:=re ((T l p).L.L.L.L.L.L.L.R)<|AE 35 [(1,PV.fn (q9 56) [] []),(22,.dat (zr i64) a),(23,.dat i64 c),(24,.dat i64 d)] [(0,.arr false 27 i64 e)] 1
def L3(l p a:List Int)(c d:Int):Tr:=re ((T l p).L.L.L.R)<|AE 35 [(1,PV.fn (q9 55) [] []),(22,.dat (zr i64) a),(23,.dat i64 c),(24,.dat i64 d)] [] 0
theorem Aj(l p:List Int):T l p=let a:=(length l:Int);let b':=(length p:Int);let e:=decide (2<=2)&&true&&decide (2<=1000000);let c:=decide (a>200);let d:=decide (b'>200);.ck true (.ck true<|.ck e<|.ite (zh [BO (a==0) 12,BO c 5] !=0) (.ck true<|.ck true<|.ck e<|.ite (zh [BO (b'==0) 12,BO d 5] !=0) (.ck true<|.ck (decide (3<=3)&&true&&decide (3<=1000000))<|.ite (zh [zh [BO (a==0) 12,BO c 5],zh [BO (b'==0) 12,BO d 5],BO (a !=b') 2] !=0) (.leaf (.tup [.dat i64 (0:Int),.dat i64<|zh [zh [BO (a==0) 12,BO c 5],zh [BO (b'==0) 12,BO d 5],BO (a !=b') 2]]) [])<|L1 p 0 l a 0)<|L2 l p p b' 0<|[BO (a==0) 12,BO c 5])<|L3 l p l a 0):=by kernel_rfl
theorem Am(v1:List Int)(e:Int)(c:List Int)(d a:Int):stepT JC (L1 v1 e c d a)=let b':=((100,BV 100),1,BV 1);let g:=((e,BV e),1,BV 1);let f:=Hu g b';.di (a<d) (.ck (decide (0<=a)&&decide (a<(length c:Int)))<|.ck (decide (0<=a)&&decide (a<(length v1:Int)))<|L1 v1 (zg .i64<|e+zg .i64 (getD c (toNat a) 0*getD v1 (toNat a) 0)) c d<|zg .i64<|a+1) (.ck true<|.ck true<|.ck (qc g&&qc b'&&decide (jf (100,BV 100)≠0))<|.ck (Sp.okV f)<|.leaf (.tup [.dat i64<|eB f,.dat i64 (0:Int)]) []):=by kernel_rfl
theorem AU(l p c:List Int)(e a:Int)(i:List Int):stepT JC (L2 l p c e a i)=let d:=(length l:Int);let g:=getD c (toNat a) 0;let j:=decide (3<=3)&&true&&decide (3<=1000000);let b':=d !=(length p:Int);let f:=decide (d>200);.di (a<e) (.ck (decide (0<=a)&&decide (a<(length c:Int)))<|.ck true<|.ite (B2 g 0 100 !=0) (.ck true<|.ck j<|.ite (zh [zh [BO (d==0) 12,BO f 5],B2 g 0 100,BO b' 2] !=0) (.leaf (.tup [.dat i64 (0:Int),.dat i64<|zh [zh [BO (d==0) 12,BO f 5],B2 g 0 100,BO b' 2]]) [])<|L1 p 0 l d 0)<|L2 l p c e (zg .i64<|a+1) i) (.ck true<|.ck j<|.ite (zh [zh [BO (d==0) 12,BO f 5],0,BO b' 2] !=0) (.leaf (.tup [.dat i64 (0:Int),.dat i64<|zh [zh [BO (d==0) 12,BO f 5],0,BO b' 2]]) [])<|L1 p 0 l d 0):=by kernel_rfl
def L4(l p e:List Int)(f g:Int)(d:List Int)(a:Int)(c:Int):Tr:=re ((stepT JC<|L3 l p e f g).L.L.L.L.L.L.L.R)<|AE 35 [(1,PV.fn (q9 56) [] []),(22,.dat (zr i64) d),(23,.dat i64 a),(24,.dat i64 c)] [] 0
def L5(l p e:List Int)(f g:Int)(d:List Int)(a:Int)(c:Int):Tr:=re ((stepT JC<|L3 l p e f g).R.L.L.L.R)<|AE 35 [(1,PV.fn (q9 56) [] []),(22,.dat (zr i64) d),(23,.dat i64 a),(24,.dat i64 c)] [] 0
theorem BH(l p c:List Int)(e a:Int):stepT JC (L3 l p c e a)=let d:=(length p:Int);let f:=(length l:Int);let g:=getD c (toNat a) 0;let k:=decide (2<=2)&&true&&decide (2<=1000000);let i:=decide (3<=3)&&true&&decide (3<=1000000);let b':=decide (d>200);let j:=zh [BO (d==0) 12,BO b' 5] !=0;.di (a<e) (.ck (decide (0<=a)&&decide (a<(length c:Int)))<|.ck true<|.ite (B2 g (-99) 99 !=0) (.ck true<|.ck true<|.ck k<|.ite j (.ck true<|.ck i<|.ite (zh [B2 g (-99) 99,zh [BO (d==0) 12,BO b' 5],BO (f !=d) 2] !=0) (.leaf (.tup [.dat i64 (0:Int),.dat i64<|zh [B2 g (-99) 99,zh [BO (d==0) 12,BO b' 5],BO (f !=d) 2]]) [])<|L1 p 0 l f 0)<|L4 l p c e a p d 0)<|L3 l p c e<|zg .i64<|a+1) (.ck true<|.ck true<|.ck k<|.ite j (.ck true<|.ck i<|.ite (zh [0,zh [BO (d==0) 12,BO b' 5],BO (f !=d) 2] !=0) (.leaf (.tup [.dat i64 (0:Int),.dat i64<|zh [0,zh [BO (d==0) 12,BO b' 5],BO (f !=d) 2]]) [])<|L1 p 0 l f 0)<|L5 l p c e a p d 0):=by kernel_rfl
theorem CA(l p e:List Int)(g f:Int)(c:List Int)(d:Int)(a:Int):stepT JC (L4 l p e g f c d a)=let i:=(length l:Int) !=(length p:Int);let b':=getD e (toNat f) 0;let j:=getD c (toNat a) 0;let k:=decide (3<=3)&&true&&decide (3<=1000000);let m:=L1 p 0 l ((length l:Int)) 0;.di (a<d) (.ck (decide (0<=a)&&decide (a<(↑(length c):Int)))<|.ck true<|.ite (B2 j 0 100 !=0) (.ck true<|.ck k<|.ite (zh [B2 b' (-99) 99,B2 j 0 100,BO i 2] !=0) (.leaf (.tup [.dat i64 (0:Int),.dat i64<|zh [B2 b' (-99) 99,B2 j 0 100,BO i 2]]) []) m)<|L4 l p e g f c d<|zg .i64<|a+1) (.ck true<|.ck k<|.ite (zh [B2 b' (-99) 99,0,BO i 2] !=0) (.leaf (.tup [.dat i64 (0:Int),.dat i64<|zh [B2 b' (-99) 99,0,BO i 2]]) []) m):=by kernel_rfl
theorem FO(l p e:List Int)(g f:Int)(c:List Int)(d:Int)(a:Int):stepT JC (L5 l p e g f c d a)=let i:=(length l:Int) !=(length p:Int);let b':=getD c (toNat a) 0;let k:=decide (3<=3)&&true&&decide (3<=1000000);let j:=L1 p 0 l ((length l:Int)) 0;.di (a<d) (.ck (decide (0<=a)&&decide (a<(↑(length c):Int)))<|.ck true<|.ite (B2 b' 0 100 !=0) (.ck true<|.ck k<|.ite (zh [0,B2 b' 0 100,BO i 2] !=0) (.leaf (.tup [.dat i64 (0:Int),.dat i64<|zh [0,B2 b' 0 100,BO i 2]]) []) j)<|L5 l p e g f c d<|zg .i64<|a+1) (.ck true<|.ck k<|.ite (zh [0,0,BO i 2] !=0) (.leaf (.tup [.dat i64 (0:Int),.dat i64<|zh [0,0,BO i 2]]) []) j):=by kernel_rfl
end T16
namespace T7
def T(a:Rd)(s:Int)(r:Rd)(p:Int):Tr:=tree AaL false 9 7<|Ae ([Sh.str,yz zq,Sh.str,yz zq]) (a,s,r,p)
theorem Aj(a:Rd)(s:Int)(r:Rd)(p:Int):T a s r p=let d:=((s,BV s),1,BV 1);let f:=((100,BV 100),1,BV 1);let e:=((p,BV p),1,BV 1);let c:=Hu (JD (Js a) d) f;let b':=Ta (Gt c<|Js r) e;.ck (decide (length a<=1000000)&&U3 (-20)&&U3 60) (.ck true<|.ck (decide (length r<=1000000)&&U3 1&&U3 200)<|.ck true<|.ck (decide (4<=4)&&true&&decide (4<=1000000))<|.ite (zh [GU a (-20) 60,B2 s 55 155,GU r 1 200,B2 p 1 200] !=0) (.leaf (.tup [.dat i64 (0:Int),.dat i64<|zh [GU a (-20) 60,B2 s 55 155,GU r 1 200,B2 p 1 200]]) [])<|.ck (H5 a)<|.ck true<|.ck (qc (Js a)&&qc d)<|.ck true<|.ck (qc (JD (Js a) d)&&qc f&&decide (jf (100,BV 100)≠0))<|.ck (H5 r)<|.ck (qc c&&qc (Js r))<|.ck true<|.ck (qc (Gt c<|Js r)&&qc e)<|.ck (Sp.okV b')<|.leaf (.tup [.dat i64<|eB b',.dat i64 (0:Int)]) []):=by kernel_rfl
end T7
namespace T13
def T(c p:Int):Tr:=tree Abw false 9 13<|Ae ([yz zq,yz zq]) (c,p)
theorem Aj(c p:Int):T c p=let a:=((zg .i64<|c*p,BV<|zg .i64<|c*p),1,BV 1);let b':=((100,BV 100),1,BV 1);.ck true (.ck true<|.ck (decide (2<=2)&&true&&decide (2<=1000000))<|.ite (zh [B2 c (-99) 99,B2 p 0 100] !=0) (.leaf (.tup [.dat i64 (0:Int),.dat i64<|zh [B2 c (-99) 99,B2 p 0 100]]) [])<|.ck true<|.ck true<|.ck (qc a&&qc b'&&decide (jf (100,BV 100)≠0))<|.ck (Sp.okV<|Hu a b')<|.leaf (.tup [.dat i64<|eB<|Hu a b',.dat i64 (0:Int)]) []):=by kernel_rfl
end T13
namespace T99
def T(a:Ah)(p:Int):Tr:=tree Abs false 9 99<|Ae ([AL,yz zq]) (a,p)
theorem Aj(a:Ah)(p:Int):T a p=let b':=Hu ((1,BV 1),1,BV 1) ((2,BV 2),1,BV 1);let d:=((p,BV p),1,BV 1);let e:=Sh.nlist<|yz IntKind.u64;let c:=Gt (JD a d) b';.ck true (.ck (qc a&&qc d)<|.ck true<|.ck true<|.ck true<|.ck (qc (JD a d)&&qc b')<|.ck (qc c)<|.ck true<|.ck (JZ (zR c,zI c) (p,BV p))<|.leaf (PV.agg [.dat i64<|lQ (zR c,zI c) (p,BV p),.dat e<|cU (zR c,zI c) (p,BV p),.dat i64<|lK (zR c,zI c) (p,BV p),.dat e<|aZ (zR c,zI c) (p,BV p)]) []):=by kernel_rfl
end T99
namespace T45
def T(a:Ah):Tr:=tree Abz false 9 45<|Ae ([AL]) a
theorem Aj(a:Ah):T a=.ck (pG a 1) (.ck true<|.leaf (.dat i64<|AbH a 1) []):=by kernel_rfl
end T45
namespace T39
def T(a:Rd)(lo h:Int):Tr:=tree Aar false 9 39<|Ae ([Sh.str,yz zq,yz zq]) (a,lo,h)
theorem Aj(a:Rd)(lo h:Int):T a lo h=let c:=((lo,BV lo),1,BV 1);let b':=((h,BV h),1,BV 1);.cd (length a<=1000000) (.ite (AH a !=0) (.leaf (.dat i64<|AH a) [])<|.ck (H5 a)<|.ck true<|.ck (Sp.D2 (Js a)&&Sp.D2 c)<|.di (Iq (Js a) c<0) (.ck true<|.leaf (.dat i64<|BO true 3) [])<|.ck true<|.ck (Sp.D2 (Js a)&&Sp.D2 b')<|.ck true<|.leaf (.dat i64<|BO (decide (Iq (Js a) b'>0)) 3) []):=by kernel_rfl
end T39
namespace T40
def T(n lo h:Int):Tr:=tree AaS false 9 40<|Ae ([yz zq,yz zq,yz zq]) (n,lo,h)
theorem Aj(n lo h:Int):T n lo h=.di (n<lo) (.ck true<|.leaf (.dat i64<|BO true 3) []) (.ck true<|.leaf (.dat i64<|BO (decide (n>h)) 3) []):=by kernel_rfl
end T40
namespace T59
def T(c:Bool)(e:Int):Tr:=tree Ec false 9 59<|Ae ([Sh.bool,yz zq]) (c,e)
theorem Aj(c:Bool)(e:Int):T c e=.ite c (.leaf (.dat i64 e) []) (.leaf (.dat i64 (0:Int)) []):=by kernel_rfl
end T59
namespace T38
def T(l:List Int):Tr:=tree Ec false 9 38<|Ae ([zr i64]) l
def L1(v5:List Int)(a c:Int):Tr:=re ((T []))<|AE 15 [(5,.dat (zr i64) v5),(6,.dat i64 a),(7,.dat i64 c)] [] 0
theorem Aj(l:List Int):T l=L1 l ((length l:Int)) 0:=by kernel_rfl
theorem Am(v5:List Int)(c a:Int):stepT Ec (L1 v5 c a)=.di (a<c) (.ck (decide (0<=a)&&decide (a<(length v5:Int)))<|.ite (getD v5 (toNat a) 0 !=0) (.leaf (.dat i64<|getD v5 (toNat a) 0) [])<|L1 v5 c<|zg .i64<|a+1) (.leaf (.dat i64 (0:Int)) []):=by kernel_rfl
end T38
namespace T100
def T(a:Int×List Int):Tr:=tree Ec false 9 100<|Ae ([A0]) a
theorem Aj(a:Int×List Int):T a=.leaf (.tup [.dat i64<|fst a,.dat Sh.bool !decide (0<length (snd a))]) []:=by kernel_rfl
end T100
end
end Go.Pe
namespace Go.Sp
theorem cP(n:Int):F6 (rN n,rW n)=AT ((n:Int):Rat):=by rw[Kp,Qm]
theorem NZ{n:Int}{k:Nat}(h:n.natAbs<10^k)(a:1<=k):Nu k (AT (n:Rat)) (n:Rat):=by
 have c:10^1<=10^k:=ql af a;refine⟨rfl,?_,?_⟩
 ·rw[jc];exact h
 ·rw[Rat.den_intCast];omega
theorem Nu.nz{k:Nat}{s:Rd}{q:Rat}(h:Nu k s q)(a:k<=1400)(h0:q≠0):Zj s=true:=vL (h.E1 a) fun e=>h0 ((h.KK ae).1 e)
theorem Ge{a:Cp}{lo c:Int}(h:AH a=0):GU a lo c=if AJ a<(lo:Rat)\/(c:Rat)<AJ a then 3 else 0:=by
 unfold GU;rw[wc<|by rw[h];decide]
theorem NY{a:Cp}{lo c:Int}(h:AH a≠0):GU a lo c=AH a:=by
 unfold GU;rw[wd h]
theorem SI{n:Int}(h:U3 n=true):n.natAbs<10^6:=by
 unfold U3 at h;rw[zj,w5,w5]at h;have:(10:Nat)^6=1000000:=rfl;omega
theorem YZ{v:Int}(h0:0<v)(h:v<1000000000):BA v=[v]:=by
 have d:Av B9 [v]:=fun x a=>by rw[qu.1 a];exact⟨by omega,h⟩
 have t:=EI d;have e:Ak [v]=v:=by show v+(B9:Int)*0=v;omega
 rw[e]at t;rw[<-t];show(if v=0 then[]else[v])=[v];rw[wc ae]
theorem Nu.E7{k:Nat}{s:Rd}{q:Rat}(h:Nu k s q):Nu k (E7 s) (q.floor:Rat):=⟨by unfold Sp.E7;rw[h.rat,Qm],Pa h.z⟩
theorem J0{n:Int}{q:Rat}(h:(n:Rat)<=q):n<=Bp q:=by
 unfold Bp;exact qy.2 ah
theorem JX{n:Int}{q:Rat}(h:q<=(n:Rat)):Bp q<=n:=by
 refine Int.not_lt.1 fun x=>?_
 have y:((n+1:Int):Rat)<=q+1/2:=qy.1 x;rw[Rat.intCast_add]at y;have:((1:Int):Rat)=1:=rfl;grind
theorem XK(n:Int):Bp (n:Rat)=n:=Int.le_antisymm (JX Rat.le_refl)<|J0 Rat.le_refl
theorem dF{p q:Rat}(h:p<=q):Bp p<=Bp q:=by
 unfold Bp;refine qy.2 ?_;have:=Rat.floor_le<|p+1/2;grind
theorem XT(q:Rat)(n:Int):Bp (q+(n:Rat))=Bp q+n:=by
 unfold Bp;rw[show q+(n:Rat)+1/2=q+1/2+(n:Rat)by grind,Rat.floor_add_intCast]
theorem HC:∀ {l:List Int},first l=0->∀x∈l,x=0
 |[],_,x,a=>by cases a
 |y::l,h,x,a=>by
  unfold first at h
  split at h
  ·next c=>exact wh h c
  ·next c=>
   rcases List.mem_cons.1 a with rfl|a
   ·exact Classical.not_not.1 c
   ·exact HC h x a
theorem Ng{a:Cp}{lo e:Int}(h:GU a lo e=0):AH a=0/\(lo:Rat)<=AJ a/\AJ a<=(e:Rat):=by
 by_cases c:AH a=0
 ·rw[Ge c]at h;split at h
  ·cases h
  ·next d=>
   rw[not_or,qz,qz]at d;exact⟨c,d⟩
 ·rw[NY c]at h;exact wh h c
theorem Jf{n lo a:Int}(h:B2 n lo a=0):lo<=n/\n<=a:=by
 unfold B2 at h;split at h
 ·cases h
 ·omega
structure Aas(a:Cp)(s:Int)(r:Cp)(p:Int):Prop where
 ca:AH a=0
 a1:(-20:Rat)<=AJ a
 a2:AJ a<=60
 s:55<=s/\s<=155
 cr:AH r=0
 r1:(1:Rat)<=AJ r
 r2:AJ r<=200
 p:1<=p/\p<=200
theorem X5{a:Cp}{s:Int}{r:Cp}{p:Int}(h:LQ a s r p=0):Aas a s r p:=by
 have z:=HC h;obtain⟨a1,a2,a3⟩:=Ng<|z _<|zi ..;have s1:=Jf<|z _<|zm _<|zi ..;obtain⟨r1,r2,r3⟩:=Ng<|z _<|zm _<|zm _<|zi ..;have c:=Jf<|z _<|zm _<|zm _<|zm _<|zi ..;exact⟨a1,a2,a3,s1,r1,r2,r3,c⟩
theorem tK{a:Cp}{s:Int}{r:Cp}{p:Int}(h:Aas a s r p): -1000<=Bp (U8 a s r p)/\Bp (U8 a s r p)<=1000:=by
 have s1:((55:Int):Rat)<=(s:Rat):=zp.2 h.s.1;have s2:(s:Rat)<=((155:Int):Rat):=zp.2 h.s.2;have e:((1:Int):Rat)<=(p:Rat):=zp.2 h.p.1;have d:(p:Rat)<=((200:Int):Rat):=zp.2 h.p.2;have e1:((55:Int):Rat)=55:=rfl;have e2:((155:Int):Rat)=155:=rfl;have e3:((1:Int):Rat)=1:=rfl;have e4:((200:Int):Rat)=200:=rfl;have f:((1000:Int):Rat)=1000:=rfl;have c:((-1000:Int):Rat)= -1000:=rfl;have a1:=h.a1;have a2:=h.a2;have r1:=h.r1;have r2:=h.r2;have i:0<=(AJ a+20)*(s:Rat):=Rat.mul_nonneg ah ah;have g:0<=(60-AJ a)*(s:Rat):=Rat.mul_nonneg ah ah;unfold U8;refine⟨J0 ?_,JX ?_⟩<;>grind
end Go.Sp
namespace Go.Pe
open Sp
open Go.Det
open Go.Sp (Ah)
theorem sL:RS 3 (Hu (Sp.iF 1)<|Sp.iF 2) (1/2):=by
 have o:RS 1 (Sp.iF 1) ((1:Int):Rat):=CW af af af;have t:RS 1 (Sp.iF 2) ((2:Int):Rat):=CW af af af;have d:=o.div t af af (by decide+kernel);have e:((1:Int):Rat)/((2:Int):Rat)=1/2:=by decide+kernel
 rw[e]at d;exact d.mono af
structure Rnd(k:Nat)(a:Ah)(q:Rat)(p:Int):Prop where
 P:RS 2 (Sp.iF p) (p:Rat)
 m:RS (k+2) (JD a (Sp.iF p)) (q*p)
 s:RS (k+6) (Gt (JD a (Sp.iF p)) (Hu (Sp.iF 1) (Sp.iF 2))) (q*p+1/2)
 j:Bi (xK a p)=true
 v:jf (xK a p)=Bp (q*p)
 om:JZ (xK a p) (p,BV p)=true
 r:RS (k+10) (xF a p) (Sp.rdQ q p)
theorem uF{k:Nat}{a:Ah}{q:Rat}{p:Int}(h:RS k a q)(d:k<=3000)(e:1<=p)(f:p<=10):Rnd k a q p:=by
 have P:RS 2 (Sp.iF p) (p:Rat):=CW ae af af;have m:=h.mul P ae af;have s:=m.add sL ae af;obtain⟨b,c⟩:=Zu s.r s.z ae;have i:Cx p=true:=ad ae ae;obtain⟨b1,b2⟩:=Rf i;have p0:(p:Rat)≠0:=fun x=>by have:=Rat.intCast_eq_zero_iff.1 x;omega
 have j:Bi (xK a p)=true:=b;have v:jf (xK a p)=Bp (q*p):=c;refine⟨P,m,s.mono ae,j,v,Ad (Ad j b1) (w4<|by rw[b2];omega),?_,?_⟩
 ·have r:=Kq j b1 (by rw[b2];omega);rw[b2,v,Rat.divInt_eq_div]at r;exact r
 ·exact((Pa s.z).div P.z p0).mono ae
theorem dV{n:AF}(h:Du n=true)(a:(jf n).natAbs<9223372036854775808):n.1=jf n:=by
 by_cases c:n.2=[]
 ·unfold jf;rw[wd c]
 ·exfalso;unfold Du at h;simp only[zj,je,w5,c,false_or]at h;obtain⟨_,⟨_,d⟩,e⟩:=h;unfold jf at a;rw[wc c]at a;split at a<;>omega
theorem W5{k:Nat}{a:Ah}{q:Rat}(h:RS k a q)(c:k<=3000)(d:(Bp q).natAbs<9223372036854775808):eB a=Bp q:=by
 have R:=uF (p:=1) h c af af;have e:q*((1:Int):Rat)=q:=by
  have:((1:Int):Rat)=1:=rfl;rw[this];grind
 have v:=R.v;rw[e]at v;have ok:Du (xK a 1)=true:=((zj _ _).mp R.j).1;rw[<-dV ok (by rw[v];exact d)]at v;rw[<-v];unfold eB xF U5 LI;rw[wc af,wd af]
end Go.Pe
namespace Go.Sp
def leB(a b:Rat):Bool:=decide (a<=b)
def HY(l:List Rat):List Rat:=l.mergeSort leB
theorem Qd(l:List Rat):List.Perm (HY l) l:=List.mergeSort_perm ..
theorem UJ(l:List Rat):(HY l).length=l.length:=List.length_mergeSort ..
theorem Xj(l:List Rat):(HY l).Pairwise fun a b=>a<=b:=by
 have:=List.pairwise_mergeSort (le:=leB) (fun a b c d e=>w4<|Rat.le_trans (w6 d)<|w6 e) (fun a b=>by
  rcases Rat.le_total (a:=a) (b:=b)with h|h
  ·rw[je];exact .inl<|w4 h
  ·rw[je];exact .inr<|w4 h) l
 exact this.imp fun h=>w6 h
theorem QJ:∀ {a b:List Rat},a.Pairwise (fun x y=>x<=y)->b.Pairwise (fun x y=>x<=y)->List.Perm a b->a=b:=fun c f d=>
 List.Perm.eq_of_pairwise (fun _ _ _ _ g e=>Rat.le_antisymm g e) c f d
def xI(s:List Rat):Rat:=(s.getD ((s.length-1)/2) 0+s.getD (s.length/2) 0)/2
def cC(l:List Rat):Rat:=xI<|HY l
def zeF:Ah:=((0,[]),0,[])
def mdF(l:List Ah):Ah:=Hu (Gt ((E2 l).getD ((l.length-1)/2) zeF)<|(E2 l).getD (l.length/2) zeF)<|iF 2
def Lh(x:Ah):Rat:=Rat.divInt (vI x.1)<|vI x.2
end Go.Sp
namespace Go.Pe
open Sp
open Go.Det
open Go.Sp (Ah)
theorem RS.val{k:Nat}{x:Ah}{X:Rat}(h:RS k x X):X=Lh x:=by
 unfold Lh;rw[h.r.vn,h.r.vd];exact(Rat.num_divInt_den X).symm
theorem Ko{l:List Ah}(h0:0<l.length)(h:∀x∈l,kL x):(E2 l).Perm l:=by
 have p:=(FL h0 h).1.map<|QA l;have e:(qh l.length).map (QA l)=l:=by
  refine qi (by rw[zw,z6]) fun i c a=>?_
  rw[yu,List.getElem_range];unfold QA ix;rw[wd a,ze,zd a,zt]
 rw[e]at p;exact p
theorem qZ{l:List Ah}{K:Nat}(m:K<=4000)(h0:0<l.length)(h:∀x∈l,RS K x<|Lh x):(E2 l).map Lh=HY (l.map Lh):=by
 have ok:∀x∈l,kL x:=fun x t=>⟨_,(h x t).mono m⟩
 have p:=Ko h0 ok;obtain⟨u,s⟩:=FL h0 ok;have il:(Dt l).length=l.length:=by rw[u.length_eq,z6]
 refine QJ ?_ (Xj _)<|(p.map _).trans (Qd _).symm;rw[List.pairwise_map,List.pairwise_iff_getElem];intro i j e d c;have v:(E2 l).length=l.length:=p.length_eq;have g:∀k (f:k<(E2 l).length),(E2 l)[k]=QA l ((Dt l).getD k 0):=fun k f=>by
  simp only[E2,yu];rw[ze,zd ae];rfl
 have q:=s i j c ae;rw[<-g i e, <-g j d]at q;have a:=h _<|p.mem_iff.1<|zy e;have b:=h _<|p.mem_iff.1<|zy d;rw[b.LC a]at q;exact qz.1 q
theorem Abp{l:List Ah}{K:Nat}(i:K<=1500)(h0:0<l.length)(h:∀x∈l,RS K x<|Lh x):RS (K+K+2) (Sp.mdF l) (cC<|l.map Lh):=by
 have ok:∀x∈l,kL x:=fun x f=>⟨_,(h x f).mono ae⟩
 have p:=Ko h0 ok;have v:=qZ ae h0 h;have j:(E2 l).length=l.length:=p.length_eq;have c:∀k,k<l.length->RS K ((E2 l).getD k Sp.zeF) ((HY<|l.map Lh).getD k 0):=fun k g=>by
  have d:k<(E2 l).length:=ae
  rw[<-v,ze,ze,qg,zd d];exact h _<|p.mem_iff.1<|zy d
 have a:=c ((l.length-1)/2) ae;have b:=c (l.length/2) ae;have t:RS 1 (Sp.iF 2) ((2:Int):Rat):=CW af af af;have r:=(a.add b ae ae).div t ae af (by decide+kernel);have e:cC (l.map Lh)=((HY<|l.map Lh).getD ((l.length-1)/2) 0+(HY<|l.map Lh).getD (l.length/2) 0)/((2:Int):Rat):=by
  unfold cC xI;rw[UJ,zw];rfl
 rw[e];exact r
open Go.Sp (Ah Cp)
theorem Dy:Dn Ec:=fun g sp h=>by cases h
namespace T38
theorem loop{Q:PV->Ob->Prop}(l:List Int)(j:l.length<=1000000)(a:∀ob,Q (.dat i64<|zh l) ob):∀(r:List Int) (i:Nat),l.drop i=r->i<=l.length->zh l=zh r->Ends Ec (L1 l ((l.length:Int)) (i:Int)) Q
 |[],i,h,f,e=>by
  have q:=drop_nil h f;refine yo (Am ..) (yk (w8 ae)<|zn ?_);rw[e]at a;exact a _
 |x::r,i,h,f,e=>by
  obtain⟨m,g,k⟩:=drop_cons (d:=0) h;refine yo (Am ..) ?_;conv=>zeta
  have e1:=wn (i:=i) ae;rw[e1,z7,g];refine zc (w4 ae) (zc (ad ae ae) ?_);by_cases c:x=0
  ·subst c;refine yk rfl (loop l j a r (i+1) k m ?_);rw[e];rfl
  ·have ex:zh (x::r)=x:=by unfold zh;rw[wd c]
   refine zc (by simpa using c)<|zn ?_;rw[e,ex]at a;exact a _
theorem ok:Af Bb 38 GB:=by
 refine BL Dy<|fun(l:List Int) hl=>?_;exact yh (Aj l)<|loop l (w6 hl) (fun ob=>qf rfl rfl rfl) l 0 rfl (yb _) rfl
end T38
theorem T59.ok:Af Bb 59 JK:=by
 refine BL Dy<|fun⟨c,e⟩ _=>?_;refine yh (T59.Aj c e)<|qt (fun h=>zn<|qf rfl rfl ?_)<|fun h=>zn<|qf rfl rfl ?_
 ·show e=BO c e;rw[h];rfl
 ·show(0:Int)=BO c e;rw[h];rfl
theorem T100.ok:Af Bb 100 jS:=by
 refine BL Dy<|fun(a:AF) _=>?_;refine yh (T100.Aj a)<|zn<|qf rfl rfl ?_;show(a.1,!decide (0<a.2.length))=(a.1,decide (a.2=[]));cases a.2<;>rfl
theorem T97.ok:Af Bb 97 TK:=T97n.ok
theorem fY:Dn Abs:=Aa T42.ok<|Aa T43.ok<|Aa T44.ok<|Aa T46.ok<|Aa T165.ok<|Aa T97.ok<|Aa T95.ok AO
theorem T99.ok:Af Bb 99 zV:=by
 refine BL fY<|fun(i:Ah×Int) hi=>?_;obtain⟨a,p⟩:=i;obtain⟨⟨q,h⟩,p1,p2⟩:=rV hi;have R:=uF h af p1 p2;have o:RS 1 (Sp.iF 1) ((1:Int):Rat):=CW af af af;have t:RS 1 (Sp.iF 2) ((2:Int):Rat):=CW af af af;exact yh (T99.Aj a p) (zc rfl (zc (h.vO R.P af af)<|zc rfl (zc rfl (zc (o.ok3 t af af<|by decide+kernel)<|zc (R.m.vO sL af af)<|zc (R.s.CZ af)<|zc rfl (zc R.om<|zn<|qf rfl rfl rfl)))))
theorem kG:Dn Abz:=Aa T99.ok<|Aa T100.ok AO
theorem T45.ok:Af Bb 45 lM:=by
 refine BL kG<|fun(a:Ah) ha=>?_;exact yh (T45.Aj a) (zc (pN ⟨yQ ha,by decide,by decide⟩)<|zc rfl (zn<|qf rfl rfl rfl))
theorem dU:Dn Aar:=Aa T61.ok<|Aa T41.ok<|Aa T43.ok<|Aa T64.ok<|Aa T59.ok AO
theorem T39.ok:Af Bb 39 aB:=by
 refine BL dU<|fun(i:Cp×Int×Int) f=>?_;obtain⟨a,lo,h⟩:=i;have f:(decide (a.length<=1000000)&&U3 lo&&U3 h)=true:=f;rw[zj,zj,w5]at f;obtain⟨⟨hl,h1⟩,h2⟩:=f;have g:∀e ob,e=GU a lo h->Ac aB (a,lo,h) (.dat i64 e) ob:=fun e ob x=>qf rfl rfl x
 have L:=CW (n:=lo) (SI h1) af af;have H:=CW (n:=h) (SI h2) af af;refine yh (T39.Aj a lo h)<|zc (w4 hl)<|qt (fun c=>zn<|g _ _ ?_)<|fun c=>?_
 ·have c:AH a≠0:=by simpa using c
  exact(NY c).symm
 ·have c:AH a=0:=by simpa using c
  obtain⟨o1,j⟩:=Rx c;have A:=fV c;refine zc j (zc rfl (zc (Ad o1<|L.D2 af)<|qt (fun d=>zc rfl (zn<|g _ _ ?_))<|fun d=>zc rfl (zc (Ad o1<|H.D2 af)<|zc rfl (zn<|g _ _ ?_))))
  ·rw[Ge c,wd<|.inl<|(A.LC L).1<|w6 d];rfl
  ·have d:=w7 d;rw[Ge c];by_cases e:Iq (Js a) ((h,BV h),(1,BV 1))>0
   ·rw[wd<|.inr<|(A.iT H).1 e];exact wi (fun b=>BO b 3)<|w4 e
   ·rw[wc<|not_or.2 ⟨fun x=>d<|(A.LC L).2 x,fun x=>e<|(A.iT H).2 x⟩];exact wi (fun b=>BO b 3)<|w8 e
theorem fW:Dn AaS:=Aa T59.ok AO
theorem T40.ok:Af Bb 40 QR:=by
 refine BL fW<|fun(i:Int×Int×Int) _=>?_;obtain⟨n,lo,h⟩:=i;have a:∀e ob,e=B2 n lo h->Ac QR (n,lo,h) (.dat i64 e) ob:=fun e ob x=>qf rfl rfl x
 refine yh (T40.Aj n lo h)<|qt (fun c=>zc rfl (zn<|a _ _ ?_))<|fun c=>zc rfl (zn<|a _ _ ?_)
 ·unfold B2;rw[wd<|.inl<|w6 c];rfl
 ·have c:=w7 c;unfold B2 BO;by_cases d:h<n
  ·rw[wd<|.inr d,w4 ae];rfl
  ·rw[wc ae,w8 ae];rfl
end Go.Pe
namespace Go.Sp
theorem Aby{c p:Int}(h:Kb c p=0): -9900<=c*p/\c*p<=9900/\ -99<=Bp ((c*p:Int)/100)/\Bp ((c*p:Int)/100)<=99:=by
 have z:=HC h;have e:=Jf<|z _<|zi ..;have d:=Jf<|z _<|zm _<|zi ..;have j:c*p<=99*p:=zo e.2 d.1;have g: -99*p<=c*p:=zo e.1 d.1;have f: -9900<=c*p:=ae
 have a:c*p<=9900:=ae
 have q1:((-9900:Int):Rat)<=((c*p:Int):Rat):=zp.2 f;have i:((c*p:Int):Rat)<=((9900:Int):Rat):=zp.2 a;have e1:((-9900:Int):Rat)= -9900:=rfl;have e2:((9900:Int):Rat)=9900:=rfl;have e3:((-99:Int):Rat)= -99:=rfl;have e4:((99:Int):Rat)=99:=rfl;refine⟨f,a,J0 ?_,JX ?_⟩<;>grind
end Go.Sp
namespace Go.Pe
open Sp
open Go.Det
open Go.Sp (Ah Cp)
theorem Oh:((100:Int):Rat)=100:=rfl
theorem gY:Dn AaL:=Aa T39.ok<|Aa T40.ok<|Aa T38.ok<|Aa T41.ok<|Aa T43.ok<|Aa T42.ok<|Aa T44.ok<|Aa T46.ok<|Aa T47.ok<|Aa T45.ok AO
theorem T7.ok:Af Bb 7 wV:=by
 refine BL gY<|fun(i:Cp×Int×Cp×Int) d=>?_;obtain⟨a,s,r,p⟩:=i;have d:(decide (a.length<=1000000)&&decide (r.length<=1000000))=true:=d;rw[zj]at d;have f:∀v e ob,(v,e)=(J9 a s r p,LQ a s r p)->Ac wV (a,s,r,p) (.tup [.dat i64 v,.dat i64 e]) ob:=fun v e ob h=>qf rfl rfl h
 refine yh (T7.Aj a s r p)<|zc (Ad (Ad d.1 rfl) rfl)<|zc rfl (zc (Ad (Ad d.2 rfl) rfl)<|zc rfl (zc rfl (qt (fun c=>zn<|f _ _ _ ?_)<|fun c=>?_)))
 ·have c:LQ a s r p≠0:=by
   have c:(LQ a s r p !=0)=true:=c;simpa using c
  unfold J9;rw[wd c];rfl
 ·have c:LQ a s r p=0:=by
   have c:(LQ a s r p !=0)=false:=c;simpa using c
  have k:=X5 c;have A:RS 600 (Js a) (AJ a):=⟨IM (Bn k.ca).1,(Bn k.ca).2⟩;have R:RS 600 (Js r) (AJ r):=⟨IM (Bn k.cr).1,(Bn k.cr).2⟩;have S:RS 3 (Sp.iF s) (s:Rat):=CW (by have:=k.s;omega) af af;have H:RS 3 (Sp.iF 100) ((100:Int):Rat):=CW af af af;have P:RS 3 (Sp.iF p) (p:Rat):=CW (by have:=k.p;omega) af af;have h0:((100:Int):Rat)≠0:=by decide+kernel
  have M:=A.mul S af af;have D:=M.div H af af h0;have G:=D.add R af af;have B:=G.sub P af af;have g:=tK k;have v:=W5 B af (by
   show(Bp<|U8 a s r p).natAbs<_;omega)
  have v:eB (Ta (Gt (Hu (JD (Js a)<|Sp.iF s)<|Sp.iF 100)<|Js r)<|Sp.iF p)=Bp (U8 a s r p):=v;refine zc (Rx k.ca).2 (zc rfl (zc (A.vO S af af)<|zc rfl (zc (M.ok3 H af af h0)<|zc (Rx k.cr).2<|zc (D.vO R af af)<|zc rfl (zc (G.vO P af af)<|zc (RY ⟨_,B.mono af⟩)<|zn<|f _ _ _ ?_))));unfold J9;rw[c,wc af];exact wi (·,(0:Int)) v
theorem eO:Dn Abw:=Aa T40.ok<|Aa T38.ok<|Aa T43.ok<|Aa T44.ok<|Aa T45.ok AO
theorem T13.ok:Af Bb 13 wC:=by
 refine BL eO<|fun(i:Int×Int) _=>?_;obtain⟨c,p⟩:=i;have a:∀v e ob,(v,e)=(P6 c p,Kb c p)->Ac wC (c,p) (.tup [.dat i64 v,.dat i64 e]) ob:=fun v e ob h=>qf rfl rfl h
 refine yh (T13.Aj c p)<|zc rfl (zc rfl (zc rfl (qt (fun k=>zn<|a _ _ _ ?_)<|fun k=>?_)))
 ·have k:Kb c p≠0:=by
   have k:(Kb c p !=0)=true:=k;simpa using k
  unfold P6;rw[wd k];rfl
 ·have k:Kb c p=0:=by
   have k:(Kb c p !=0)=false:=k;simpa using k
  obtain⟨j,d,f,g⟩:=Aby k;rw[wr _ ae ae];have N:RS 4 (Sp.iF<|c*p) ((c*p:Int):Rat):=CW ae af af;have H:RS 3 (Sp.iF 100) ((100:Int):Rat):=CW af af af;have h0:((100:Int):Rat)≠0:=by decide+kernel
  have D:=N.div H af af h0;have v:=W5 D af (by
   show(Bp<|(c*p:Int)/100).natAbs<_;omega)
  have v:eB (Hu (Sp.iF<|c*p)<|Sp.iF 100)=Bp ((c*p:Int)/100):=v;refine zc rfl (zc rfl (zc (N.ok3 H af af h0)<|zc (RY ⟨_,D.mono af⟩)<|zn<|a _ _ _ ?_));unfold P6;rw[k,wc af];exact wi (·,(0:Int)) v
end Go.Pe
namespace Go.Sp
open Go.Pe
theorem WX{l:List Int}{lo h:Int}(e:(l=[]\/200<l.length)):DD l lo h=if l=[]then 12 else 5:=by
 unfold DD;by_cases a:l=[]
 ·rw[wd a,wd a]
 ·rw[wc a,wc a,wd<|e.resolve_left a]
theorem HA{l:List Int}(lo h:Int)(a:l≠[])(b:l.length<=200):DD l lo h=if l.any (Et lo h)=true then 3 else 0:=by
 unfold DD;rw[wc a,wc ae]
theorem Ee{l:List Int}{lo h:Int}(e:DD l lo h=0):l≠[]/\l.length<=200/\∀n∈l,lo<=n/\n<=h:=by
 unfold DD at e;by_cases a:l=[]
 ·rw[wd a]at e;cases e
 ·rw[wc a]at e;by_cases b:200<l.length
  ·rw[wd b]at e;cases e
  ·rw[wc b]at e;refine⟨a,by omega,fun n d=>?_⟩;by_cases c:l.any (Et lo h)=true
   ·rw[wd c]at e;cases e
   ·have x:=ye.2 fun x:Et lo h n=true=>c<|List.any_eq_true.2 ⟨n,d,x⟩
    unfold Et at x;rw[Bool.or_eq_false_iff,w9,w9]at x;omega
theorem Ro(l:List Int):first [BO ((↑(zf l):Int)==(0:Int)) (12:Int),BO (decide ((↑(zf l):Int)>(200:Int))) (5:Int)]=if l=[]then 12 else if 200<l.length then 5 else 0:=by
 cases l with
 |nil=>rfl
 |cons x t=>
  rw[wc<|List.cons_ne_nil x t];have h0:(((x::t).length:Int)==0)=false:=by
   have:(x::t).length=t.length+1:=rfl;exact beq_eq_false_iff_ne.2 ae
  rw[h0];by_cases b:200<(x::t).length
  ·rw[w4 (show((x::t).length:Int)>200 by omega),wd b];rfl
  ·rw[w8 (show ¬((x::t).length:Int)>200 by omega),wc b];rfl
theorem KS{lo h n:Int}(e:Et lo h n=true):B2 n lo h=3:=by
 unfold Et at e;unfold B2;rw[wd<|by simpa using e]
theorem Sr{lo h n:Int}(e:Et lo h n=false):B2 n lo h=0:=by
 unfold Et at e;unfold B2;rw[wc<|by simpa using e]
theorem Zn(x:Int):B5 x x=x:=by unfold B5;split<;>rfl
theorem Tv:∀(r:List Int) (m:Int),r.foldl B5 m=m\/r.foldl B5 m∈r
 |[],m=>.inl rfl
 |x::r,m=>by
  have h:=Tv r<|B5 m x;have e:B5 m x=m\/B5 m x=x:=by
   unfold B5;split
   ·exact .inr rfl
   ·exact .inl rfl
  rw[List.foldl_cons];rcases h with h|h
  ·rw[h];rcases e with e|e
   ·exact .inl e
   ·rw[e];exact .inr<|zi ..
  ·exact .inr<|zm _ h
theorem Mo(x:Int)(t:List Int):CT (x::t)=t.foldl B5 x:=by
 show(t.foldl B5<|B5 x x)=_;rw[Zn]
theorem G1{l:List Int}(h:l≠[]):CT l∈l:=by
 cases l with
 |nil=>exact wh rfl h
 |cons x t=>
  rw[Mo];rcases Tv t x with e|e
  ·rw[e];exact zi ..
  ·exact zm _ e
end Go.Sp
namespace Go.Pe
open Sp
open Go.Det
theorem eK{ob:Ob}{e:Int}:JL [Hv,i64] (.tup [.nil,.dat i64 e]) ob=some (true,(([]:List Int),e)):=by rfl
namespace T58
theorem loop{Q:PV->Ob->Prop}(l:List Int)(g:l.length<=1000000)(a:∀ob,Q (.dat i64<|CT l) ob):∀(r:List Int) (i:Nat) (m:Int),l.drop i=r->i<=l.length->r.foldl B5 m=CT l->Ends Ec (L1 l m (i:Int)) Q
 |[],i,m,h,c,e=>by
  have q:=drop_nil h c;refine yo (Am ..) (yk (w8 ae)<|zn ?_);rw[<-e]at a;exact a _
 |x::r,i,m,h,c,e=>by
  obtain⟨k,f,j⟩:=drop_cons (d:=(0:Int)) h;have e1:=wn (i:=i) ae;refine yo (Am ..) ?_;conv=>zeta
  rw[e1,z7,f];exact zc (w4 ae) (zc (ad ae ae)<|loop l g a r (i+1) (B5 m x) j k e)
theorem ok:Af Bb 58 sV:=by
 refine BL Dy<|fun(l:List Int) a=>?_;have a:(decide (0<l.length)&&decide (l.length<=1000000))=true:=a;rw[zj]at a;obtain⟨h0,c⟩:=a;have h0:=w6 h0;have c:=w6 c;refine yh (Aj l) (yk (w8 ae) (zc (w4 ae) ?_));cases l with
 |nil=>cases h0
 |cons x t=>exact loop (x::t) c (fun ob=>qf rfl rfl rfl) t 1 x rfl (by simp) (Mo x t).symm
end T58
theorem gZ:Dn Sm:=Aa T40.ok<|Aa T38.ok<|Aa T59.ok<|Aa T58.ok AO
namespace T15
variable {Q:PV->Ob->Prop}{l:List Int}
theorem out(k:DD l (-99) 99=0)(a:Q (.tup [.sl 0 1 0 (DK l).length none,.dat i64 0]) [(0,Obj.arr false 3 i64<|DK l)]):∀(r:List Int) (i:Nat) (o:List Int),l.drop i=r->i<=l.length->o.length=i->o++r.map (· - CT l)=DK l->Ends Sm (L3 (CT l) o.length l (l.length:Int) (i:Int) o) Q
 |[],i,o,h,c,lo,e=>by
  have q:=drop_nil h c;refine yo (BH ..) (yk (w8 ae)<|zn ?_);rw[<-e,List.map_nil,List.append_nil]at a;exact a
 |x::r,i,o,h,c,lo,e=>by
  obtain⟨m,g,j⟩:=drop_cons (d:=(0:Int)) h;obtain⟨k1,k2,k3⟩:=Ee k;have t:=k3 _<|G1 k1;have s: -99<=x/\x<=99:=k3 x (by
   have:x∈l.drop i:=by rw[h];exact zi ..
   exact yf this)
  have e1:=wn (i:=i) ae;have e2:zg .i64 (x-CT l)=x-CT l:=wr _ ae ae;have cap:(decide ((1:Nat)<=(1:Nat))&&true&&decide (o.length=o.length)&&decide ((3*(o.length+1)+2000)*8<=562949953421312))=true:=by
   rw[w4 (show(1:Nat)<=1 by omega),w4 rfl,w4 ae];rfl
  refine yo (BH ..) ?_;conv=>zeta
  rw[e1,z7,g,e2];refine zc (w4 ae) (zc (ad ae ae)<|zc cap ?_);have nx:=out k a r (i+1) (o++[x-CT l]) j m (by simp[lo]) (by rw[<-e];simp);have f:(o++[x-CT l]).length=Nat.add o.length 1:=by simp
  rw[f]at nx;exact nx
theorem rel(k:DD l (-99) 99=0)(d:Q (.tup [.sl 0 1 0 (DK l).length none,.dat i64 0]) [(0,Obj.arr false 3 i64<|DK l)]):Ends Sm (L1 (CT l) l (l.length:Int) 0) Q:=by
 obtain⟨c,e,a⟩:=Ee k;cases l with
 |nil=>exact wh rfl c
 |cons x t=>
  have g:=a _<|G1 c;have f:=a x<|zi ..;have e1:zg .i64 ((0:Int)+1)=((1:Nat):Int):=rfl;have e2:zg .i64 (x-CT (x::t))=x-CT (x::t):=wr _ ae ae;refine yo (Am ..) ?_;conv=>zeta
  rw[e1,show qo (x::t) (qp 0) (0:Int)=x from rfl,e2];refine zc (w4<|by simp only[zx];omega) (zc (Ad rfl (w4<|by simp only[zx];omega))<|zc rfl ?_);exact out k d t 1 [x-CT (x::t)] rfl (by simp) rfl rfl
theorem loop(a:l≠[])(f:l.length<=200)(g:DD l (-99) 99≠0->Q (.tup [.nil,.dat i64<|DD l (-99) 99]) [])(j:DD l (-99) 99=0->Q (.tup [.sl 0 1 0 (DK l).length none,.dat i64 0]) [(0,Obj.arr false 3 i64<|DK l)]):∀(r:List Int) (i:Nat),l.drop i=r->i<=l.length->l.any (Et (-99) 99)=r.any (Et (-99) 99)->Ends Sm (L2 l l (l.length:Int) (i:Int)) Q
 |[],i,h,m,e=>by
  have u:=drop_nil h m;have k:DD l (-99) 99=0:=by rw[HA _ _ a f,e];rfl
  have lp:=yy.2 a;exact yo (AU ..) (yk (w8 ae) (yk rfl (zc (Ad (w4 lp)<|w4 ae)<|rel k<|j k)))
 |x::r,i,h,m,e=>by
  obtain⟨t,q,s⟩:=drop_cons (d:=(0:Int)) h;have e1:=wn (i:=i) ae;refine yo (AU ..) ?_;conv=>zeta
  rw[e1,z7,q];refine zc (w4 ae) (zc (ad ae ae)<|zc rfl ?_);by_cases c:Et (-99) 99 x=true
  ·have k:DD l (-99) 99=3:=by rw[HA _ _ a f,e,qd,c];rfl
   rw[KS c];rw[k]at g;exact zc rfl (zc rfl (zn<|g af))
  ·have c:=ye.2 c;rw[Sr c];exact yk rfl (loop a f g j r (i+1) s t<|by rw[e,qd,c,ji])
theorem ok:Af Bb 15 X9:=by
 refine BL gZ<|fun(l:List Int) _=>?_;have g:=Ro l;refine yh (Aj l)<|zc rfl (zc rfl (zc rfl ?_));rw[g];have c:DD l (-99) 99≠0->∀e,e=DD l (-99) 99->Ac X9 l (.tup [.nil,.dat i64 e]) []:=fun k e d=>qf eK rfl (by
  show([],e)=(H6 l,DD l (-99) 99);unfold H6;rw[wd k,d])
 by_cases a:l=[]\/200<l.length
 ·have k:=WX (lo:= -99) (h:=99) a;have f:(if l=[]then(12:Int)else if 200<l.length then 5 else 0)=if l=[]then 12 else 5:=by
   by_cases b:l=[]
   ·rw[wd b,wd b]
   ·rw[wc b,wc b,wd<|a.resolve_left b]
  have nz:(if l=[]then(12:Int)else 5)≠0:=by split<;>decide
  rw[f];exact zc (by simpa using nz) (zc (by simpa using nz)<|zn<|c (by rw[k];exact nz) _ k.symm)
 ·have a1:l≠[]:=fun x=>a<|.inl x
  have a2:¬200<l.length:=fun x=>a<|.inr x
  rw[wc a1,wc a2];refine yk rfl (loop a1 ae (fun k=>c k _ rfl) (fun k=>qf (fK rfl rfl) rfl ?_) l 0 rfl (yb _) rfl);show(DK l,(0:Int))=(H6 l,DD l (-99) 99);unfold H6;rw[k,wc af]
end T15
end Go.Pe
namespace Go.Sp
theorem Jx(x y:Int)(r u:List Int):CB (x::r) (y::u)=x*y+CB r u:=by
 unfold CB;rw[List.zip_cons_cons,List.map_cons,List.sum_cons]
structure gM(l p:List Int):Prop where
 a:DD l (-99) 99=0
 b:DD p 0 100=0
 n:l.length=p.length
theorem WZ{l p:List Int}(h:GD l p=0):gM l p:=by
 have z:=HC h;refine⟨z _<|zi ..,z _<|zm _<|zi ..,?_⟩;have w:=z _<|zm _<|zm _<|zi ..;by_cases c:l.length=p.length
 ·exact c
 ·have:((↑(zf l):Int) !=(↑(zf p):Int))=true:=bne_iff_ne.2 ae;rw[this]at w;cases w
theorem fI{l p:List Int}(h:gM l p):∀(r u:List Int) (i:Nat),l.drop i=r->p.drop i=u->(CB r u).natAbs<=9900*r.length
 |[],u,i,e,c=>by
  have:CB [] u=0:=by unfold CB;rw[List.zip_nil_left];rfl
  rw[this];exact yb _
 |x::r,[],i,e,c=>by
  have:CB (x::r) []=0:=by unfold CB;rw[List.zip_nil_right];rfl
  rw[this];exact yb _
 |x::r,y::u,i,e,c=>by
  have a:=(Ee h.a).2.2 x (yf (i:=i)<|by rw[e];exact zi ..);have b:=(Ee h.b).2.2 y (yf (i:=i)<|by rw[c];exact zi ..);obtain⟨_,_,f⟩:=Go.Pe.drop_cons (d:=(0:Int)) e;obtain⟨_,_,g2⟩:=Go.Pe.drop_cons (d:=(0:Int)) c;have n:=fI h r u (i+1) f g2;have j:x*y<=99*y:=zo a.2 b.1;have g: -99*y<=x*y:=zo a.1 b.1;rw[Jx,zx];omega
theorem tI{l p:List Int}(h:gM l p):(CB l p).natAbs<=1980000/\(Bp<|(CB l p:Int)/100).natAbs<=19800:=by
 have n:=fI h l p 0 rfl rfl;have k:=(Ee h.a).2.1;have c: -1980000<=CB l p:=ae
 have d:CB l p<=1980000:=ae
 have q1:((-1980000:Int):Rat)<=((CB l p:Int):Rat):=zp.2 c;have e:((CB l p:Int):Rat)<=((1980000:Int):Rat):=zp.2 d;have e1:((-1980000:Int):Rat)= -1980000:=rfl;have e2:((1980000:Int):Rat)=1980000:=rfl;have e3:((-19800:Int):Rat)= -19800:=rfl;have e4:((19800:Int):Rat)=19800:=rfl;have r1: -19800<=Bp ((CB l p:Int)/100):=J0 ah;have r2:Bp ((CB l p:Int)/100)<=19800:=JX ah;exact⟨by omega,by omega⟩
end Go.Sp
namespace Go.Pe
open Sp
open Go.Det
theorem lH:Dn JC:=Aa T40.ok<|Aa T38.ok<|Aa T59.ok<|Aa T43.ok<|Aa T44.ok<|Aa T45.ok AO
namespace T16
variable {Q:PV->Ob->Prop}{l p:List Int}
theorem sum(k:gM l p)(f:∀ob,Q (.tup [.dat i64<|Bp<|(CB l p:Int)/100,.dat i64 0]) ob):∀(r u:List Int) (i:Nat) (s:Int),l.drop i=r->p.drop i=u->i<=l.length->s+CB r u=CB l p->s.natAbs<=9900*i->Ends JC (L1 p s l (l.length:Int) (i:Int)) Q
 |[],u,i,s,h,g,j,e,b=>by
  have z:=drop_nil h j;have:CB [] u=0:=by unfold CB;rw[List.zip_nil_left];rfl
  rw[this,Int.add_zero]at e;obtain⟨A,B⟩:=tI k;subst e;have N:RS 7 (Sp.iF<|CB l p) ((CB l p:Int):Rat):=CW ae af af;have H:RS 3 (Sp.iF 100) ((100:Int):Rat):=CW af af af;have h0:((100:Int):Rat)≠0:=by decide+kernel
  have D:=N.div H af af h0;have v:=W5 D af (by
   show(Bp<|(CB l p:Int)/100).natAbs<_;omega)
  have v:eB (Hu (Sp.iF<|CB l p)<|Sp.iF 100)=Bp ((CB l p:Int)/100):=v;refine yo (Am ..) (yk (w8 ae)<|zc rfl (zc rfl (zc (N.ok3 H af af h0)<|zc (RY ⟨_,D.mono af⟩)<|zn ?_)));rw[<-v]at f;exact f _
 |x::r,[],i,s,h,g,j,e,b=>by
  obtain⟨m,q,t⟩:=drop_cons (d:=(0:Int)) h;have n:=k.n;have:=wi zf g;rw[yq]at this;simp only[List.length_nil]at this;omega
 |x::r,y::u,i,s,h,g,j,e,b=>by
  obtain⟨m,q,t⟩:=drop_cons (d:=(0:Int)) h;obtain⟨g1,g2,g3⟩:=drop_cons (d:=(0:Int)) g;have E:=(Ee k.a).2.1;have a:=(Ee k.a).2.2 x (yf (i:=i)<|by rw[h];exact zi ..);have c:=(Ee k.b).2.2 y (yf (i:=i) (by rw[g];exact zi ..));have F:x*y<=99*y:=zo a.2 c.1;have C: -99*y<=x*y:=zo a.1 c.1;have e1:=wn (i:=i) ae;refine yo (Am ..) ?_;conv=>zeta
  rw[e1,z7,q,g2,wr (x*y) ae ae,wr (s+x*y) ae ae];refine zc (w4 ae) (zc (ad ae ae)<|zc (ad ae ae) ?_);refine sum k f r u (i+1) (s+x*y) t g3 m ?_ ae;rw[<-e,Jx,Int.add_assoc]
def fn(l p:List Int)(e1 e2:Int):Tr:=.ite true
 (.ite (decide ((3:Nat)<=(3:Nat))&&true&&decide ((3:Nat)<=(1000000:Nat)))
  (.ite (zh [e1,e2,BO ((↑(zf l):Int) !=(↑(zf p):Int)) (2:Int)] !=(0:Int))
  (.leaf (PV.tup [PV.dat (yz zq) (0:Int),PV.dat (yz zq)<|zh [e1,e2,BO ((↑(zf l):Int) !=(↑(zf p):Int)) (2:Int)]])<|[])
  (L1 p ((0:Int)) l ((↑(zf l):Int))<|(0:Int)))
  (.fail))
 (.fail)
theorem fin{e1 e2:Int}(e:e1=DD l (-99) 99)(c:e2=DD p 0 100)(d:GD l p≠0->Q (.tup [.dat i64 0,.dat i64<|GD l p]) [])(a:GD l p=0->∀ob,Q (.tup [.dat i64<|Bp<|(CB l p:Int)/100,.dat i64 0]) ob):Ends JC (fn l p e1 e2) Q:=by
 subst e c;refine zc rfl (zc rfl (qt (fun k=>zn<|d ?_)<|fun k=>?_))
 ·have k:(GD l p !=0)=true:=k;simpa using k
 ·have k:(GD l p !=0)=false:=k;have k:GD l p=0:=by simpa using k
  have h:=WZ k;exact sum h (a k) l p 0 0 rfl rfl (yb _) (Int.zero_add _) (yb _)
theorem second{Lx:Int->Tr}{e1:Int}(q:e1=DD l (-99) 99)(m:p≠[])(f:p.length<=200)
  (a:∀i,stepT JC (Lx i)=.ite (decide (i<(↑(zf p):Int))) (.ite (decide ((0:Int)<=i)&&decide (i<(↑(zf p):Int))) (.ite true (.ite (B2 (qo p (qp i) (0:Int)) (0:Int) (100:Int) !=(0:Int)) (fn l p e1<|B2 (qo p (qp i) (0:Int)) (0:Int) (100:Int))<|Lx<|zg zq<|i+(1:Int)) .fail) .fail) (fn l p e1 0))
  (j:GD l p≠0->Q (.tup [.dat i64 0,.dat i64<|GD l p]) []) (g:GD l p=0->∀ob,Q (.tup [.dat i64<|Bp<|(CB l p:Int)/100,.dat i64 0]) ob):∀(r:List Int) (i:Nat),p.drop i=r->i<=p.length->p.any (Et 0 100)=r.any (Et 0 100)->Ends JC (Lx (i:Int)) Q
 |[],i,h,s,e=>by
  have y:=drop_nil h s;have k:DD p 0 100=0:=by rw[HA _ _ m f,e];rfl
  exact yo (a _) (yk (w8 ae)<|fin q k.symm j g)
 |x::r,i,h,s,e=>by
  obtain⟨u,v,t⟩:=drop_cons (d:=(0:Int)) h;have e1:=wn (i:=i) ae;refine yo (a _) ?_;conv=>zeta
  rw[e1,z7,v];refine zc (w4 ae) (zc (ad ae ae)<|zc rfl ?_);by_cases c:Et 0 100 x=true
  ·have k:DD p 0 100=3:=by rw[HA _ _ m f,e,qd,c];rfl
   rw[KS c];exact zc rfl (fin q k.symm j g)
  ·have c:=ye.2 c;rw[Sr c];exact yk rfl (second q m f a j g r (i+1) t u<|by rw[e,qd,c,ji])
theorem Ub{l:List Int}{lo h:Int}(a:l=[]\/200<l.length):zh [BO ((↑(zf l):Int)==(0:Int)) (12:Int),BO (decide ((↑(zf l):Int)>(200:Int))) (5:Int)]=DD l lo h/\DD l lo h≠0:=by
 rw[Ro,WX a];by_cases b:l=[]
 ·rw[wd b,wd b];exact⟨rfl,by decide⟩
 ·rw[wc b,wc b,wd<|a.resolve_left b];exact⟨rfl,by decide⟩
theorem XM{l:List Int}(a:¬(l=[]\/200<l.length)):zh [BO ((↑(zf l):Int)==(0:Int)) (12:Int),BO (decide ((↑(zf l):Int)>(200:Int))) (5:Int)]=0/\l≠[]/\l.length<=200:=by
 have a1:l≠[]:=fun x=>a<|.inl x
 have a2:¬200<l.length:=fun x=>a<|.inr x
 rw[Ro,wc a1,wc a2];exact⟨rfl,a1,by omega⟩
theorem behind{Lx:Int->Tr}{e1:Int}(f:e1=DD l (-99) 99)
  (c:∀i,stepT JC (Lx i)=.ite (decide (i<(↑(zf p):Int))) (.ite (decide ((0:Int)<=i)&&decide (i<(↑(zf p):Int))) (.ite true (.ite (B2 (qo p (qp i) (0:Int)) (0:Int) (100:Int) !=(0:Int)) (fn l p e1<|B2 (qo p (qp i) (0:Int)) (0:Int) (100:Int))<|Lx<|zg zq<|i+(1:Int)) .fail) .fail) (fn l p e1 0))
  (e:GD l p≠0->Q (.tup [.dat i64 0,.dat i64<|GD l p]) []) (d:GD l p=0->∀ob,Q (.tup [.dat i64<|Bp<|(CB l p:Int)/100,.dat i64 0]) ob):
  Ends JC (.ite true (.ite true (.ite (decide ((2:Nat)<=(2:Nat))&&true&&decide ((2:Nat)<=(1000000:Nat))) (.ite (zh [BO ((↑(zf p):Int)==(0:Int)) (12:Int),BO (decide ((↑(zf p):Int)>(200:Int))) (5:Int)] !=(0:Int)) (fn l p e1<|zh [BO ((↑(zf p):Int)==(0:Int)) (12:Int),BO (decide ((↑(zf p):Int)>(200:Int))) (5:Int)])<|Lx 0) .fail) .fail) .fail) Q:=by
 refine zc rfl (zc rfl (zc rfl ?_));by_cases a:p=[]\/200<p.length
 ·obtain⟨x,y⟩:=Ub (lo:=0) (h:=100) a;rw[x];exact zc (by simpa using y)<|fin f rfl e d
 ·obtain⟨x,y,z⟩:=XM a;rw[x];exact yk rfl (second f y z c e d p 0 rfl (yb _) rfl)
theorem loop(q:l≠[])(f:l.length<=200)(m:GD l p≠0->Q (.tup [.dat i64 0,.dat i64<|GD l p]) [])(g:GD l p=0->∀ob,Q (.tup [.dat i64<|Bp<|(CB l p:Int)/100,.dat i64 0]) ob):∀(r:List Int) (i:Nat),l.drop i=r->i<=l.length->l.any (Et (-99) 99)=r.any (Et (-99) 99)->Ends JC (L3 l p l (l.length:Int) (i:Int)) Q
 |[],i,h,s,e=>by
  have y:=drop_nil h s;have k:DD l (-99) 99=0:=by rw[HA _ _ q f,e];rfl
  exact yo (BH ..) (yk (w8 ae)<|behind (Lx:=fun j=>L5 l p l (l.length:Int) (i:Int) p (p.length:Int) j) k.symm (fun j=>FO ..) m g)
 |x::r,i,h,s,e=>by
  obtain⟨u,v,t⟩:=drop_cons (d:=(0:Int)) h;have e1:=wn (i:=i) ae;refine yo (BH ..) (zc (w4 ae)<|zc (ad ae ae)<|zc rfl ?_);have a:qo l (qp (i:Int)) (0:Int)=x:=by rw[z7,v]
  by_cases c:Et (-99) 99 x=true
  ·have k:B2 (qo l (qp (i:Int)) (0:Int)) (-99) 99=DD l (-99) 99:=by rw[a,HA _ _ q f,e,qd,c,KS c];rfl
   refine zc ?_<|behind (Lx:=fun j=>L4 l p l (l.length:Int) (i:Int) p (p.length:Int) j) k (fun j=>CA ..) m g;rw[a,KS c];rfl
  ·have c:=ye.2 c;refine yk ?_ ?_
   ·rw[a,Sr c];rfl
   ·rw[e1];exact loop q f m g r (i+1) t u (by rw[e,qd,c,ji])
theorem ok:Af Bb 16 ZH:=by
 refine BL lH<|fun(i:List Int×List Int) _=>?_;obtain⟨l,p⟩:=i;have c:∀v e ob,(v,e)=(Q4 l p,GD l p)->Ac ZH (l,p) (.tup [.dat i64 v,.dat i64 e]) ob:=fun v e ob h=>qf rfl rfl h
 have f:GD l p≠0->Ac ZH (l,p) (.tup [.dat i64 0,.dat i64<|GD l p]) []:=fun k=>c _ _ _ (by unfold Q4;rw[wd k])
 have d:GD l p=0->∀ob,Ac ZH (l,p) (.tup [.dat i64<|Bp<|(CB l p:Int)/100,.dat i64 0]) ob:=fun k ob=>c _ _ _ (by unfold Q4;rw[k,wc af])
 refine yh (Aj l p)<|zc rfl (zc rfl (zc rfl ?_));by_cases a:l=[]\/200<l.length
 ·obtain⟨x,y⟩:=Ub (lo:= -99) (h:=99) a;refine zc (by rw[x];simpa using y)<|behind (Lx:=fun j=>L2 l p p (p.length:Int) j [BO ((↑(zf l):Int)==(0:Int)) (12:Int),BO (decide ((↑(zf l):Int)>(200:Int))) (5:Int)]) x (fun j=>AU ..) f d
 ·obtain⟨x,y,z⟩:=XM a;exact yk (by rw[x];rfl)<|loop y z f d l 0 rfl (yb _) rfl
end T16
end Go.Pe
