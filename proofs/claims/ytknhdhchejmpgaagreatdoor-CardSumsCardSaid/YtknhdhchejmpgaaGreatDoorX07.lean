import Derived.Test.YtknhdhchejmpgaaGreatDoorX04
import Derived.Test.YtknhdhchejmpgaaGreatDoorX05
import Derived.Shelf.Strings.OnBuilder
import Derived.Shelf.Strconv.Itoa3
import Derived.Lib.LaidTab
import Derived.Test.YtknhdhchejmpgaaGreatDoorX06
import Derived.Shelf.Strings.Repeat
import Derived.Lib.AppendIntMem
import Derived.Shelf.Sort.Plain
/- A part of a proof (no law is stated here). Made by program out of texts by AI agents. -/
noncomputable section
set_option maxRecDepth 100000
open Nat renaming eq_of_beq_eq_true -> zc, le_of_ble_eq_true -> zd, beq -> zh, ble -> zu, lt_of_lt_of_le -> yd, mul_le_mul_right -> ql, succ_mul -> qn, le_refl -> jf, blt -> kf, add -> kg, mul_one -> kx
open List renaming getElem?_take_of_lt -> ze, mem_singleton -> zf, getElem?_eq_getElem -> zi, length_map -> zk, getElem?_drop -> zl, getElem?_eq_some_iff -> zq, getElem?_eq_none -> zr, length_take -> zt, length_append -> yc, mem_of_mem_drop -> yj, take_of_length_le -> yr, mem_of_mem_take -> qk, length_drop -> jk, getElem?_append_right -> kj, drop_take -> kk, getElem?_append_left -> km, getElem?_map -> ko, ext_getElem? -> ky, all_eq_true -> xk, length -> xx
open Bool renaming and_eq_true -> zg
open Option.some renaming injEq -> zj
open Option renaming map_eq_some_iff -> zo
open Go.Proofs.Tryz renaming prog -> zw, underlying0 -> z6, underlying3 -> z7, underlying4 -> z8, underlying9 -> ya, zeroValue0 -> yf, zeroValue3 -> yg, zeroValue4 -> yh, zeroValue9 -> yi, sizeOf0 -> yn, sizeOf3 -> yo, sizeOf4 -> yp, sizeOf9 -> yq, underlying220 -> yt, underlying216 -> yu, underlying259 -> yv, underlying130 -> yw, isAgg0 -> yy, isAgg3 -> yz, isAgg4 -> y7, isAgg9 -> y8, underlying20 -> y9, zeroValue220 -> qc, zeroValue216 -> qd, zeroValue259 -> qe, zeroValue130 -> qf, zeroValue20 -> qg, underlying5 -> qh, underlying5 -> qm, zeroValue5 -> qo, prog -> qq, sizeOf220 -> qt, sizeOf216 -> qu, sizeOf259 -> qv, sizeOf130 -> qw, underlying292 -> qx, sizeOf20 -> qy, isAgg220 -> qz, isAgg216 -> q9, isAgg259 -> jc, isAgg130 -> jd, isAgg20 -> jg, sizeOf5 -> jh, isAgg5 -> ji, underlying9 -> jj, underlying219 -> jl, underlying222 -> jm, underlying225 -> jn, underlying226 -> jo, underlying262 -> jt, underlying296 -> jz, zeroValue5 -> j0, zeroValue219 -> j5, zeroValue222 -> j6, zeroValue225 -> j7, zeroValue226 -> j8, zeroValue262 -> j9, zeroValue296 -> ke, underlying130 -> kh, underlying220 -> ki, zeroValue130 -> kr, sizeOf219 -> kz, sizeOf222 -> k9, sizeOf225 -> xa, sizeOf226 -> xb, sizeOf262 -> xc, sizeOf296 -> xd, isAgg219 -> xe, isAgg222 -> xf, isAgg225 -> xg, isAgg226 -> xh, isAgg262 -> xi, isAgg296 -> xj, func194 -> xm, func195 -> xn, func196 -> xo, func235 -> xp, func236 -> xq, func283 -> xr, func284 -> xt, func247 -> xu, sizeOf5 -> xw
open Array renaming getElem?_eq_some_iff -> yb, getElem?_toList -> ye, toList_inj -> yk, getElem?_append_left -> qi, size_replicate -> qj, getElem?_eq_getElem -> qp, size_append -> kq
open Go.Value renaming int -> ym
open Go.Lib renaming decDigits -> yx, nDigits -> je, zeros24 -> ku
open Go.Shelf renaming Ren -> xl
open Go.Det.V renaming ok -> xy
open Go.Det renaming Ct -> xz
namespace Go.Det
open Go.Proofs
def MJ:xl:=⟨fun|156=>126|165=>194|166=>195|169=>196|240=>235|241=>236|276=>283|277=>284|n=>n,fun|31=>150|9=>9|3=>3|4=>4|0=>0|20=>20|72=>222|76=>226|70=>219|37=>220|75=>225|127=>262|164=>296|5=>5|80=>228|n=>n,fun|n=>n⟩
theorem XJ:Go.Proofs.Lays.n156 qq MJ:=
  { mixed:=by kernel_rfl,f156:=Go.Proofs.Tryz.func126.trans (wi some (by kernel_rfl)),f165:=xm.trans (wi some (by kernel_rfl)),f166:=xn.trans (wi some (by kernel_rfl)),f169:=xo.trans (wi some (by kernel_rfl)),f240:=xp.trans (wi some (by kernel_rfl)),f241:=xq.trans (wi some (by kernel_rfl)),f276:=xr.trans (wi some (by kernel_rfl)),f277:=xt.trans (wi some (by kernel_rfl)),t0:=z6,a0:=yy,z0:=yn,v0:=yf,t3:=z7,a3:=yz,z3:=yo,v3:=yg,t4:=z8,a4:=y7,z4:=yp,v4:=yh,t9:=ya,a9:=y8,z9:=yq,v9:=yi,t20:=y9,a20:=jg,z20:=qy,v20:=qg,t31:=Go.Proofs.Tryz.underlying150,a31:=Go.Proofs.Tryz.isAgg150,z31:=Go.Proofs.Tryz.sizeOf150,v31:=Go.Proofs.Tryz.zeroValue150,t37:=yt,a37:=qz,z37:=qt,v37:=qc,t70:=jl,a70:=xe,z70:=kz,v70:=j5,t72:=jm,a72:=xf,z72:=k9,v72:=j6,t75:=jn,a75:=xg,z75:=xa,v75:=j7,t76:=jo,a76:=xh,z76:=xb,v76:=j8,t127:=jt,a127:=xi,z127:=xc,v127:=j9,t164:=jz,a164:=xj,z164:=xd,v164:=ke }
def Gd:xl:=⟨fun|171=>124|243=>192|246=>233|283=>279|284=>280|285=>281|286=>282|129=>247|317=>310|318=>311|319=>312|320=>313|337=>324|338=>325|n=>n,fun|3=>3|9=>9|2=>2|4=>4|171=>292|0=>0|53=>130|37=>220|5=>5|173=>294|212=>317|51=>259|20=>20|213=>318|46=>216|232=>338|233=>339|n=>n,fun|17=>3|18=>8|19=>9|n=>n⟩
theorem Hm:Go.Proofs.LaysM.n171 qq Gd:=
  { mixed:=by kernel_rfl,f129:=xu.trans (wi some (by kernel_rfl)),f171:=Go.Proofs.Tryz.func124.trans (wi some (by kernel_rfl)),f243:=Go.Proofs.Tryz.func192.trans (wi some (by kernel_rfl)),f246:=Go.Proofs.Tryz.func233.trans (wi some (by kernel_rfl)),f283:=Go.Proofs.Tryz.func279.trans (wi some (by kernel_rfl)),f284:=Go.Proofs.Tryz.func280.trans (wi some (by kernel_rfl)),f285:=Go.Proofs.Tryz.func281.trans (wi some (by kernel_rfl)),f286:=Go.Proofs.Tryz.func282.trans (wi some (by kernel_rfl)),f317:=Go.Proofs.Tryz.func310.trans (wi some (by kernel_rfl)),f318:=Go.Proofs.Tryz.func311.trans (wi some (by kernel_rfl)),f319:=Go.Proofs.Tryz.func312.trans (wi some (by kernel_rfl)),f320:=Go.Proofs.Tryz.func313.trans (wi some (by kernel_rfl)),f337:=Go.Proofs.Tryz.func324.trans (wi some (by kernel_rfl)),f338:=Go.Proofs.Tryz.func325.trans (wi some (by kernel_rfl)),t0:=z6,a0:=yy,z0:=yn,v0:=yf,t2:=Go.Proofs.Tryz.underlying2,a2:=Go.Proofs.Tryz.isAgg2,z2:=Go.Proofs.Tryz.sizeOf2,v2:=Go.Proofs.Tryz.zeroValue2,t3:=z7,a3:=yz,z3:=yo,v3:=yg,t4:=z8,a4:=y7,z4:=yp,v4:=yh,t5:=qh,a5:=ji,z5:=jh,v5:=qo,t9:=ya,a9:=y8,z9:=yq,v9:=yi,t20:=y9,a20:=jg,z20:=qy,v20:=qg,t37:=yt,a37:=qz,z37:=qt,v37:=qc,t46:=yu,a46:=q9,z46:=qu,v46:=qd,t51:=yv,a51:=jc,z51:=qv,v51:=qe,t53:=yw,a53:=jd,z53:=qw,v53:=qf,t171:=Go.Proofs.Tryz.underlying292,a171:=Go.Proofs.Tryz.isAgg292,z171:=Go.Proofs.Tryz.sizeOf292,v171:=Go.Proofs.Tryz.zeroValue292,t173:=Go.Proofs.Tryz.underlying294,a173:=Go.Proofs.Tryz.isAgg294,z173:=Go.Proofs.Tryz.sizeOf294,v173:=Go.Proofs.Tryz.zeroValue294,t212:=Go.Proofs.Tryz.underlying317,a212:=Go.Proofs.Tryz.isAgg317,z212:=Go.Proofs.Tryz.sizeOf317,v212:=Go.Proofs.Tryz.zeroValue317,t213:=Go.Proofs.Tryz.underlying318,a213:=Go.Proofs.Tryz.isAgg318,z213:=Go.Proofs.Tryz.sizeOf318,t232:=Go.Proofs.Tryz.underlying338,a232:=Go.Proofs.Tryz.isAgg338,z232:=Go.Proofs.Tryz.sizeOf338,v232:=Go.Proofs.Tryz.zeroValue338,t233:=Go.Proofs.Tryz.underlying339,a233:=Go.Proofs.Tryz.isAgg339,z233:=Go.Proofs.Tryz.sizeOf339,v233:=Go.Proofs.Tryz.zeroValue339,g17:=by kernel_rfl,g18:=by kernel_rfl,g19:=by kernel_rfl,i0:=by kernel_rfl,i2:=by kernel_rfl,i3:=by kernel_rfl,i4:=by kernel_rfl,i5:=by kernel_rfl,i9:=by kernel_rfl,i20:=by kernel_rfl,i37:=by kernel_rfl,i46:=by kernel_rfl,i51:=by kernel_rfl,i53:=by kernel_rfl,i171:=by kernel_rfl,i173:=by kernel_rfl,i212:=by kernel_rfl,i232:=by kernel_rfl,i233:=by kernel_rfl,m17:=by kernel_rfl,m18:=by kernel_rfl,m19:=by kernel_rfl }
theorem rY:Builder.Extra zw MJ:=
  { sizeBuilder:=by kernel_rfl,liesBuilder:=by kernel_rfl,t5:=qm,a5:=Tryz.isAgg5,z5:=xw,v5:=j0,infoByte:=by kernel_rfl,cellsByte:=by kernel_rfl,sizeByte:=by kernel_rfl,neB5:=by decide }
open Go.Proofs.Tryz (prog)
def Sj:List V->Option (List (List UInt8))
  |[]=>some []
  | .str s::l=>(Sj l).map (s:: ·)
  |_=>none
def sG:List V->H->Option (V×H)
  |[.nils,.str _],h=>some (.str [],h)
  |[.sl b off len _ _,.str sep],h=>match h.get b with
    |some (.cells cs _ _)=>match Sj (Rb len (HK off cs))with
      |some xs=>bif zh (Dj xs) len&&(zu len 140737488355328&&zu (Dj (Lib.join xs sep)) 140737488355328)then some (.str (Lib.join xs sep),h)else none
      |none=>none
    |_=>none
  |_,_=>none
theorem PS:∀ {l:List V} {xs:List (List UInt8)},Sj l=some xs->∀(j:Nat) x,xs[j]?=some x->l[j]?=some (.str x)
  |[],xs,h,j,x,hx=>by cases h;simp at hx
  | .str s::l,xs,h,j,x,hx=>by
    simp only[Sj,zo]at h
    obtain⟨ys,h1,rfl⟩:=h
    cases j with
    |zero=>simp at hx;subst hx;rfl
    |succ j=>simp at hx;simpa using PS h1 j x hx
  | .bool _::_,_,h,_,_,_| .int _ _::_,_,h,_,_,_| .nilp::_,_,h,_,_,_| .ptr _ _::_,_,h,_,_,_| .nils::_,_,h,_,_,_| .sl _ _ _ _ _::_,_,h,_,_,_| .esl::_,_,h,_,_,_| .es0::_,_,h,_,_,_
  | .junk::_,_,h,_,_,_| .nilm::_,_,h,_,_,_| .map _::_,_,h,_,_,_| .fn _ _ _::_,_,h,_,_,_| .yld _::_,_,h,_,_,_| .nilf::_,_,h,_,_,_| .iface _ _::_,_,h,_,_,_| .nili::_,_,h,_,_,_| .agg _::_,_,h,_,_,_| .tup _::_,_,h,_,_,_=>by cases h
theorem Hi(s:List UInt8):(bytesOf s).data.toList=s:=by simp[bytesOf]
theorem Qx(xs:List (List UInt8)):(xs.map bytesOf).map (·.data.toList)=xs:=by
  rw[List.map_map]
  conv=>rhs;rw[<-List.map_id xs]
  exact List.map_congr_left fun x _=>Hi x
def Yb:U6:=fun f=>bif zh f 126 then some sG else none
theorem Ti:Jv prog Yb:=by
  intro f q hq p h w args args' v h' hr _ ha hd
  unfold Yb at hq
  cases hf:zh f 126 with
  |false=>rw[hf]at hq;cases hq
  |true=>
    rw[hf]at hq;cases hq
    cases zc hf
    unfold sG at hd
    split at hd
    case h_3=>cases hd
    case h_1=>
      rename_i sep
      cases hd
      obtain⟨x,y,hl,h1,h2⟩:=ha.two
      have:args'= #[x,y]:=yk.1 hl
      subst this
      simp only[Ab]at h1 h2;subst h1 h2
      refine(Any.strings_Join_none XJ rY none 0 (bytesOf sep) w).mono ?_
      rintro e w' ⟨rfl,rfl⟩
      exact⟨_,p,rfl,by simp[Ab,bytesOf],Ext.refl hr⟩
    case h_2=>
      rename_i b off len cap o sep
      split at hd
      case h_2=>cases hd
      rename_i cs t fz hg
      split at hd
      case h_2=>cases hd
      rename_i xs hxs
      cases hb:(zh (Dj xs) len&&(zu len 140737488355328&&zu (Dj (Lib.join xs sep)) 140737488355328))with
      |false=>rw[hb]at hd;cases hd
      |true=>
        rw[hb]at hd;cases hd
        simp only[zg]at hb
        obtain⟨hb1,hb2,hb3⟩:=hb
        have hb1:=zc hb1
        have hb2:=zd hb2
        have hb3:=zd hb3
        rw[Cj]at hb1 hb3
        obtain⟨x,y,hl,h1,h2⟩:=ha.two
        have:args'= #[x,y]:=yk.1 hl
        subst this
        simp only[Ab]at h1 h2;subst h2
        obtain⟨r,n,c,k1,rfl,k3,k4,_,_⟩:=h1
        obtain⟨r',n',ob,g1,g2,g3⟩:=hr.obj b _ hg
        rw[k1]at g1;cases g1
        simp only[FX]at g3
        obtain⟨ca,fz',rfl,_,g5,g6,_⟩:=g3
        have hcells:∀(j:Nat) x,(xs.map bytesOf)[j]?=some x->w.cell? ⟨r,off+j,none⟩=some (.string x):=by
          intro j x hx
          rw[ko,zo]at hx
          obtain⟨s,hs,rfl⟩:=hx
          have h3:=PS hxs j s hs
          rw[GQ,GR]at h3
          have hj:j<len:=by
            have:=(zq.1 h3).1
            simp at this;omega
          rw[ze hj,zl]at h3
          have hlt:=(zq.1 h3).1
          have hlen:=g6.1
          have hlt2:off+j<(ca.toList.take cs.length).length:=by omega
          have h4:=g6.2 (off+j) _ _ h3 (zi hlt2) rfl
          simp only[Ab]at h4
          have h5:ca[off+j]?=some (.string (bytesOf s)):=by
            rw[<-h4]
            rw[List.getElem_take, <-ye]
            exact zi _
          unfold World.cell?
          rw[g2]
          exact h5
        have hJ:=Any.strings_Join XJ rY r off c (xs.map bytesOf) (bytesOf sep) w hcells (yb.1 g2).1 (by rw[zk];omega) (by rw[zk];omega) (by rw[Qx,Hi];exact hb3)
        rw[zk,hb1,Qx,Hi]at hJ
        refine hJ.mono ?_
        rintro e w' ⟨rfl,hbw⟩
        exact⟨_,p,rfl,by simp[Ab,bytesOf],G1 hr hbw⟩
end Go.Det
namespace Go.Det
section
open Go.Proofs.Tryz (prog)
def C72:Ctx:=X8 C7 (oG Yb S72)
theorem vZ:C72.Ok prog:=Tf YN (JS Ti uO)
theorem YW:F8 C72:=Mv Kr _
def A7:GV:=[(17,[],.bool true)]
theorem tL:BZ C72 1000 A7=true:=by kernel_rfl
theorem spA:Jv prog (Gw A7):=Sg vZ YW S5 tL
end
open Go.Proofs
open Go.Proofs.Tryz (prog)
def vV:List V->List Int->Bool
 |[],[]=>true
 | .int .u64 n::l,m::r=>bif decide (n=m)then vV l r else false
 |_,_=>false
theorem X9{p:Pl}:∀ {cs:List V} {r:List Int} {vs:List Value},vV cs r=true->Aq p cs vs->vs=r.map fun z=>ym .u64 z
 |[],[],vs,_,h=>by simpa using h
 | .int .u64 n::l,m::r,vs,he,h=>by
  unfold vV at he;cases hd:decide (n=m)with
  |false=>rw[hd]at he;cases he
  |true=>
   rw[hd]at he;have e:=w6 hd;subst e;cases vs with
   |nil=>simp at h
   |cons v vs=>
    simp only[Bd,Ab]at h;rw[h.1,X9 he h.2];rfl
def Ru(h:H):Bool:=match h.get 3 with
 |some (.cells cs _ _)=>vV cs Lib.pow10Tab
 |_=>false
def Xc:List V->H->Option (V×H)
 |[.int .i64 n],h=>bif Ru h&&decide (-9223372036854775808<=n)&&decide (n<=9223372036854775807)then some (.str (Lib.itoa n),h)else none
 |_,_=>none
def iT:U6:=fun f=>bif zh f 124 then some Xc else none
theorem cI:∀ {cs:List V} {r:List Int},vV cs r=true->cs.length=r.length/\∀d∈cs,d.ok=true
 |[],[],_=>⟨rfl,fun d hd=>by cases hd⟩
 | .int .u64 n::l,m::r,he=>by
  unfold vV at he;cases hd:decide (n=m)with
  |false=>rw[hd]at he;cases he
  |true=>
   rw[hd]at he;obtain⟨h1,h2⟩:=cI (cs:=l) (r:=r) he;refine⟨by simp[h1],fun d hd=>?_⟩;rcases List.mem_cons.1 hd with rfl|hd
   ·rfl
   ·exact h2 d hd
theorem tI : prog.globalNamed "internal/strconv.uint64pow10" = some 3 := by kernel_rfl
theorem at5{p:Pl}(hg:Gp p):p[3]?=some (3,20):=hg _ (List.mem_cons_self ..)
theorem X2 {p : Pl} {h : H} {w : World} (hr : R p h w) (hg : Gp p) (ht : Ru h = true) : Lib.TabIs prog w "internal/strconv.uint64pow10" .u64 Lib.pow10Tab := by
 unfold Ru at ht;split at ht
 case h_2=>cases ht
 rename_i cs t fz hb;obtain⟨r,n,x,h1,h2,c,fz',rfl,h4,h5,h6,_⟩:=hr.obj 3 _ hb;rw[at5 hg]at h1;cases h1;obtain⟨e1,e2⟩:=cI ht;have hl:cs.length=20:=e1.trans rfl;have htk:c.toList.take cs.length=c.toList:=yr (by simp;omega);rw[htk]at h6;have hv:=X9 ht (h6.M8 e2);unfold Lib.TabIs World.var?;rw[tI];show(match w.heap[3]? with
  |some (.cells cs _ _)=>some cs
  |_=>none)=_
 rw[h2];show some c=_;rw[<-hv]
theorem bM:Jv prog iT:=by
 intro f q hq p h w args args' v h' hr hg ha hd;unfold iT at hq;cases hf:zh f 124 with
 |false=>rw[hf]at hq;cases hq
 |true=>
  rw[hf]at hq;cases hq;cases zc hf;unfold Xc at hd;split at hd
  case h_2=>cases hd
  rename_i n;cases hb:(Ru h&&decide (-9223372036854775808<=n)&&decide (n<=9223372036854775807))with
  |false=>rw[hb]at hd;cases hd
  |true=>
   rw[hb]at hd;cases hd;rw[zg,zg,w5,w5]at hb;obtain⟨x,hl,h1⟩:=ha.one;have:args'= #[x]:=yk.1 hl;subst this;simp only[Ab]at h1;subst h1;refine(Any.strconv_Itoa Hm n hb.1.2 hb.2 w (X2 hr hg hb.1.1)).mono ?_;rintro e w' ⟨rfl,k,os,rfl⟩;exact⟨_,p,rfl,by simp only[Ab];rfl,G1 hr ⟨rfl,rfl,rfl,by show w.heap.size<=(w.heap++os).size;rw[kq];omega,fun j hj=>by show(w.heap++os)[j]?=_;exact qi hj⟩⟩
end Go.Det
namespace Go.Det
open Go.Proofs
def Jz:xl:=⟨fun|105=>250|212=>193|99=>213|165=>194|166=>195|170=>292|169=>196|263=>234|264=>223|206=>256|240=>235|241=>236|276=>283|277=>284|n=>n,fun|9=>9|3=>3|4=>4|20=>20|0=>0|46=>216|109=>217|5=>5|72=>222|76=>226|51=>259|146=>260|53=>130|148=>246|70=>219|37=>220|75=>225|127=>262|164=>296|80=>228|n=>n,fun|n=>n⟩
theorem Zp:Go.Proofs.Lays.n105 qq Jz:=
  { mixed:=by kernel_rfl,f99:=Go.Proofs.Tryz.func213.trans (wi some (by kernel_rfl)),f105:=Go.Proofs.Tryz.func250.trans (wi some (by kernel_rfl)),f165:=xm.trans (wi some (by kernel_rfl)),f166:=xn.trans (wi some (by kernel_rfl)),f169:=xo.trans (wi some (by kernel_rfl)),f170:=Go.Proofs.Tryz.func292.trans (wi some (by kernel_rfl)),f206:=Go.Proofs.Tryz.func256.trans (wi some (by kernel_rfl)),f212:=Go.Proofs.Tryz.func193.trans (wi some (by kernel_rfl)),f240:=xp.trans (wi some (by kernel_rfl)),f241:=xq.trans (wi some (by kernel_rfl)),f263:=Go.Proofs.Tryz.func234.trans (wi some (by kernel_rfl)),f264:=Go.Proofs.Tryz.func223.trans (wi some (by kernel_rfl)),f276:=xr.trans (wi some (by kernel_rfl)),f277:=xt.trans (wi some (by kernel_rfl)),t0:=z6,a0:=yy,z0:=yn,v0:=yf,t3:=z7,a3:=yz,z3:=yo,v3:=yg,t4:=z8,a4:=y7,z4:=yp,v4:=yh,t5:=qh,a5:=ji,z5:=jh,v5:=qo,t9:=ya,a9:=y8,z9:=yq,v9:=yi,t20:=y9,a20:=jg,z20:=qy,v20:=qg,t37:=yt,a37:=qz,z37:=qt,v37:=qc,t46:=yu,a46:=q9,z46:=qu,v46:=qd,t51:=yv,a51:=jc,z51:=qv,v51:=qe,t53:=yw,a53:=jd,z53:=qw,v53:=qf,t70:=jl,a70:=xe,z70:=kz,v70:=j5,t72:=jm,a72:=xf,z72:=k9,v72:=j6,t75:=jn,a75:=xg,z75:=xa,v75:=j7,t76:=jo,a76:=xh,z76:=xb,v76:=j8,t109:=Go.Proofs.Tryz.underlying217,a109:=Go.Proofs.Tryz.isAgg217,z109:=Go.Proofs.Tryz.sizeOf217,v109:=Go.Proofs.Tryz.zeroValue217,t127:=jt,a127:=xi,z127:=xc,v127:=j9,t146:=Go.Proofs.Tryz.underlying260,a146:=Go.Proofs.Tryz.isAgg260,z146:=Go.Proofs.Tryz.sizeOf260,v146:=Go.Proofs.Tryz.zeroValue260,t148:=Go.Proofs.Tryz.underlying246,a148:=Go.Proofs.Tryz.isAgg246,z148:=Go.Proofs.Tryz.sizeOf246,v148:=Go.Proofs.Tryz.zeroValue246,t164:=jz,a164:=xj,z164:=xd,v164:=ke }
theorem oY:Builder.Extra zw Jz:=
  { sizeBuilder:=by kernel_rfl,liesBuilder:=by kernel_rfl,t5:=qm,a5:=Tryz.isAgg5,z5:=xw,v5:=j0,infoByte:=by kernel_rfl,cellsByte:=by kernel_rfl,sizeByte:=by kernel_rfl,neB5:=by decide }
open Go.Proofs.Tryz (prog)
def SJ:List V->H->Option (V×H)
  |[.str s,.int .i64 (.ofNat c)],h=>bif zu c 9223372036854775807&&zu (Dj s*c) 140737488355328 then some (.str (Lib.repeatL s c),h)else none
  |_,_=>none
def Sz:U6:=fun f=>bif zh f 250 then some SJ else none
theorem VT:Jv prog Sz:=by
  intro f q hq p h w args args' v h' hr hg ha hd
  unfold Sz at hq
  cases hf:zh f 250 with
  |false=>rw[hf]at hq;cases hq
  |true=>
    rw[hf]at hq;cases hq
    cases zc hf
    unfold SJ at hd
    split at hd
    case h_2=>cases hd
    rename_i s c
    cases hb:(zu c 9223372036854775807&&zu (Dj s*c) 140737488355328)with
    |false=>rw[hb]at hd;cases hd
    |true=>
      rw[hb]at hd;cases hd
      rw[zg]at hb
      have h1:=zd hb.1
      have h2:=zd hb.2
      rw[Cj]at h2
      obtain⟨x,y,hl,g1,g2⟩:=ha.two
      have:args'= #[x,y]:=yk.1 hl
      subst this
      simp only[Ab]at g1 g2;subst g1 g2
      refine(Any.strings_Repeat Zp oY (bytesOf s) c w h1 (by rw[By];exact h2)).mono ?_
      rintro e w' ⟨rfl,hbl⟩
      exact⟨_,p,rfl,by simp only[Ab];rw[Hi];rfl,G1 hr hbl⟩
end Go.Det
namespace Go.Proofs
open Go.Shelf Go.RowKit Go.Sort Go.Lib Go.Det
namespace FmtU
set_option maxHeartbeats 6400000 in
theorem small(i:Nat)(hi:i<100)(w:World):Calls zw 291 #[.int .u64 i,.int .i64 10] w fun e w'=>e=.returned (.string ⟨(yx i).toArray⟩)/\w'=w:=by
 have mixed:=Hm.mixed;have t3:=Tryz.underlying3;have a3:=Tryz.isAgg3;have z3:=Tryz.sizeOf3;have v3:=Tryz.zeroValue3;have t9:=jj;have a9:=Tryz.isAgg9;have z9:=Tryz.sizeOf9;have v9:=Tryz.zeroValue9;have t4:=Tryz.underlying4;have a4:=Tryz.isAgg4;have z4:=Tryz.sizeOf4;have v4:=Tryz.zeroValue4;have t130:=kh;have a130:=Tryz.isAgg130;have z130:=Tryz.sizeOf130;have v130:=kr;have t292:=qx;have a292:=Tryz.isAgg292;have z292:=Tryz.sizeOf292;have v292:=Tryz.zeroValue292;have t0:=Tryz.underlying0;have a0:=Tryz.isAgg0;have z0:=Tryz.sizeOf0;have v0:=Tryz.zeroValue0;have t220:=ki;have a220:=Tryz.isAgg220;have z220:=Tryz.sizeOf220;have v220:=Tryz.zeroValue220;have t5:=qm;have a5:=Tryz.isAgg5;have z5:=xw;have v5:=j0;have e279:∀args w,(callFunc 279 args).run zw w=.ok (.enter 279 args) w:=enters_of Tryz.func279 (by kernel_rfl) rfl;go_enter Tryz.func291,Tryz.ntmps291
 go_wp2_with (go_at_fn 279;refine(Any.internal_strconv_small (ρ:=Gd) { Hm with } i hi _).mono ?_;rintro e w' ⟨rfl,rfl⟩)
 go_ret
 exact⟨rfl,rfl⟩
set_option maxHeartbeats 6400000 in
theorem xM (u : Nat) (hu : 100 <= u) (hu64 : u < 18446744073709551616) (w : World) (htab : Lib.TabIs Tryz.prog w "internal/strconv.uint64pow10" .u64 Lib.pow10Tab) :
  Calls zw 291 #[.int .u64 u,.int .i64 10] w fun e w'=>e=.returned (.string ⟨(yx u).toArray⟩)/\∃k os,w'=grow (w.drewN k) os:=by
 have mixed:=Hm.mixed;have t3:=Tryz.underlying3;have a3:=Tryz.isAgg3;have z3:=Tryz.sizeOf3;have v3:=Tryz.zeroValue3;have t9:=jj;have a9:=Tryz.isAgg9;have z9:=Tryz.sizeOf9;have v9:=Tryz.zeroValue9;have t4:=Tryz.underlying4;have a4:=Tryz.isAgg4;have z4:=Tryz.sizeOf4;have v4:=Tryz.zeroValue4;have t130:=kh;have a130:=Tryz.isAgg130;have z130:=Tryz.sizeOf130;have v130:=kr;have t292:=qx;have a292:=Tryz.isAgg292;have z292:=Tryz.sizeOf292;have v292:=Tryz.zeroValue292;have t0:=Tryz.underlying0;have a0:=Tryz.isAgg0;have z0:=Tryz.sizeOf0;have v0:=Tryz.zeroValue0;have t220:=ki;have a220:=Tryz.isAgg220;have z220:=Tryz.sizeOf220;have v220:=Tryz.zeroValue220;have t5:=qm;have a5:=Tryz.isAgg5;have z5:=xw;have v5:=j0;have e280:∀args w,(callFunc 280 args).run zw w=.ok (.enter 280 args) w:=enters_of Tryz.func280 (by kernel_rfl) rfl;have e281:∀args w,(callFunc 281 args).run zw w=.ok (.enter 281 args) w:=enters_of Tryz.func281 (by kernel_rfl) rfl;have hu1:1<=u:=by omega
 have hnd20:je u<=20:=by have:=Lib.numDigits_eq u hu1 hu64;split at this<;>omega
 have hal:zw.arrayLen 292=24:=by simp[Program.arrayLen,qx]
 have hsl:∀W,(Instr.sliceAt 292 (.pointer (some ⟨w.heap.size,0,none⟩)) none (some (.int .i64 (je u:Int))) none).run zw W=.ok (.slice (some ⟨w.heap.size,0,none⟩) (je u) 24) W:=fun W=>by
  rw[run_sliceAt_array_h W 292 ⟨w.heap.size,0,none⟩ (by simp[Program.arrayLen,Program.elem,qx]) .i64 (je u:Int) (by omega) (by rw[hal];omega)];go_simp
 have hH0:=Lib.holds_zero0 w 292 (je u) (by omega);have hfmt:=Any.internal_strconv_formatBase10 (ρ:=Gd) (P:=zw) { Hm with } w.heap.size 0 24 u (Array.replicate (je u) 0) (w.alloc (.cells ku 292)) hH0 (by rw[qj];exact Lib.lt_pow_nDigits u) hu64 (by rw[qj];omega);rw[qj]at hfmt;have HH0:=Lib.hid hH0;have iu:(100:Int)<=(u:Int):=by omega
 clear hH0 hal;go_enter Tryz.func291,Tryz.ntmps291
 go_wp2_with (first
  |(go_at_fn 280;refine(Any.internal_strconv_numDigits (ρ:=Gd) { Hm with } u hu1 hu64 _ (Lib.tabIs_alloc htab _)).mono ?_;rintro e w' ⟨rfl,rfl⟩))
 go_at_fn 281
 refine hfmt.mono ?_;rintro e w' ⟨rfl,k,v',dk,rfl,hF⟩;have hcv:(convert 220 9 (.slice (some ⟨w.heap.size,0,none⟩) (je u) 24)).run zw ((putRow (fun(b:UInt8)=>ym .u8 (b.toNat:Int)) (w.alloc (.cells ku 292)) w.heap.size 0 dk).drewN k)=.ok (.string ⟨(yx u).toArray⟩) ((putRow (fun(b:UInt8)=>ym .u8 (b.toNat:Int)) (w.alloc (.cells ku 292)) w.heap.size 0 dk).drewN k):=by
  have h:=run_convert_bytes_back (P:=zw) ((putRow (fun(b:UInt8)=>ym .u8 (b.toNat:Int)) (w.alloc (.cells ku 292)) w.heap.size 0 dk).drewN k) 220 9 5 ⟨w.heap.size,0,none⟩ 24 (yx u) ki qm jj (fun j hj=>by
   rw[Lib.row_is_numeral hF j hj,Lib.add_plain,World.cell?_drewN];exact cell?_putRow (fun(b:UInt8)=>ym .u8 (b.toNat:Int)) _ w.heap.size 0 _ dk HH0.out (by rw[hF.size,qj]) j (by rw[hF.size];rw[Lib.decDigits_length]at hj;exact hj))
  rw[Lib.decDigits_length]at h;exact h
 go_wp2
 go_ret
 obtain⟨os,eo⟩:=Lib.fin_at w (.cells ku 292) dk k 0;exact⟨rfl,k,os,eo⟩
theorem all (u : Nat) (hu64 : u < 18446744073709551616) (w : World) (htab : Lib.TabIs Tryz.prog w "internal/strconv.uint64pow10" .u64 Lib.pow10Tab) :
  Calls zw 291 #[.int .u64 u,.int .i64 10] w fun e w'=>e=.returned (.string ⟨(yx u).toArray⟩)/\∃k os,w'=grow (w.drewN k) os:=by
 by_cases h:u<100
 ·exact(small u h w).mono fun e w' ⟨h1,h2⟩=>⟨h1,0, #[],by rw[h2];simp[World.drewN_zero]⟩
 ·exact xM u (by omega) hu64 w htab
theorem outer (u : Nat) (hu64 : u < 18446744073709551616) (w : World) (htab : Lib.TabIs Tryz.prog w "internal/strconv.uint64pow10" .u64 Lib.pow10Tab) :
  Calls zw 249 #[.int .u64 u,.int .i64 10] w fun e w'=>e=.returned (.string ⟨(yx u).toArray⟩)/\∃k os,w'=grow (w.drewN k) os:=by
 have mixed:=Hm.mixed;have t3:=Tryz.underlying3;have a3:=Tryz.isAgg3;have z3:=Tryz.sizeOf3;have v3:=Tryz.zeroValue3;have t9:=jj;have a9:=Tryz.isAgg9;have z9:=Tryz.sizeOf9;have v9:=Tryz.zeroValue9;have t130:=kh;have a130:=Tryz.isAgg130;have z130:=Tryz.sizeOf130;have v130:=kr;have e291:∀args w,(callFunc 291 args).run zw w=.ok (.enter 291 args) w:=enters_of Tryz.func291 (by kernel_rfl) rfl;go_enter Tryz.func249,Tryz.ntmps249
 go_wp2_with (go_at_fn 291;refine(all u hu64 _ htab).mono ?_;rintro e w' ⟨rfl,k,os,rfl⟩)
 go_ret
 exact⟨rfl,k,os,rfl⟩
end FmtU
end Go.Proofs
namespace Go.Det
open Go.Proofs
open Go.Proofs.Tryz (prog)
def fmtQ:List V->H->Option (V×H)
 |[.int .u64 (.ofNat n),.int .i64 (.ofNat b)],h=>bif Ru h&&(zu n 18446744073709551615&&zh b 10)then some (.str (yx n),h)else none
 |_,_=>none
def fmtS:U6:=fun f=>bif zh f 249 then some fmtQ else none
theorem nU:Jv prog fmtS:=by
 intro f q hq p h w args args' v h' hr hg ha hd;unfold fmtS at hq;cases hf:zh f 249 with
 |false=>rw[hf]at hq;cases hq
 |true=>
  rw[hf]at hq;cases hq;cases zc hf;unfold fmtQ at hd;split at hd
  case h_2=>cases hd
  rename_i n b;cases hb:(Ru h&&(zu n 18446744073709551615&&zh b 10))with
  |false=>rw[hb]at hd;cases hd
  |true=>
   rw[hb]at hd;cases hd;rw[zg,zg]at hb;obtain⟨h1,h2,h3⟩:=hb;have h2:=zd h2;cases zc h3;obtain⟨x,y,hl,g1,g2⟩:=ha.two;have:args'= #[x,y]:=yk.1 hl;subst this;simp only[Ab]at g1 g2;subst g1 g2;refine(FmtU.outer n (by omega) w (X2 hr hg h1)).mono ?_;rintro e w' ⟨rfl,k,os,rfl⟩;exact⟨_,p,rfl,by simp only[Ab];rfl,G1 hr ⟨rfl,rfl,rfl,by show w.heap.size<=(w.heap++os).size;rw[kq];omega,fun j hj=>by show(w.heap++os)[j]?=_;exact qi hj⟩⟩
end Go.Det
namespace Go.Det
open Go.Proofs Go.Sort
def UT:xl:=⟨fun|189=>129|125=>198|257=>197|128=>246|129=>247|294=>237|295=>238|296=>239|297=>240|298=>241|299=>242|216=>243|300=>244|301=>245|328=>285|329=>286|330=>287|331=>288|332=>289|215=>290|343=>314|n=>n,fun|28=>96|3=>3|46=>216|0=>0|51=>259|53=>130|4=>4|183=>265|182=>264|131=>208|5=>5|9=>9|218=>299|222=>303|228=>319|229=>320|n=>n,fun|n=>n⟩
theorem pL:Go.Proofs.Lays.n189 qq UT:=
  { mixed:=by kernel_rfl,f125:=Go.Proofs.Tryz.func198.trans (wi some (by kernel_rfl)),f128:=Go.Proofs.Tryz.func246.trans (wi some (by kernel_rfl)),f129:=xu.trans (wi some (by kernel_rfl)),f189:=Go.Proofs.Tryz.func129.trans (wi some (by kernel_rfl)),f215:=Go.Proofs.Tryz.func290.trans (wi some (by kernel_rfl)),f216:=Go.Proofs.Tryz.func243.trans (wi some (by kernel_rfl)),f257:=Go.Proofs.Tryz.func197.trans (wi some (by kernel_rfl)),f294:=Go.Proofs.Tryz.func237.trans (wi some (by kernel_rfl)),f295:=Go.Proofs.Tryz.func238.trans (wi some (by kernel_rfl)),f296:=Go.Proofs.Tryz.func239.trans (wi some (by kernel_rfl)),f297:=Go.Proofs.Tryz.func240.trans (wi some (by kernel_rfl)),f298:=Go.Proofs.Tryz.func241.trans (wi some (by kernel_rfl)),f299:=Go.Proofs.Tryz.func242.trans (wi some (by kernel_rfl)),f300:=Go.Proofs.Tryz.func244.trans (wi some (by kernel_rfl)),f301:=Go.Proofs.Tryz.func245.trans (wi some (by kernel_rfl)),f328:=Go.Proofs.Tryz.func285.trans (wi some (by kernel_rfl)),f329:=Go.Proofs.Tryz.func286.trans (wi some (by kernel_rfl)),f330:=Go.Proofs.Tryz.func287.trans (wi some (by kernel_rfl)),f331:=Go.Proofs.Tryz.func288.trans (wi some (by kernel_rfl)),f332:=Go.Proofs.Tryz.func289.trans (wi some (by kernel_rfl)),f343:=Go.Proofs.Tryz.func314.trans (wi some (by kernel_rfl)),t0:=z6,a0:=yy,z0:=yn,v0:=yf,t3:=z7,a3:=yz,z3:=yo,v3:=yg,t4:=z8,a4:=y7,z4:=yp,v4:=yh,t5:=qh,a5:=ji,z5:=jh,v5:=qo,t9:=ya,a9:=y8,z9:=yq,v9:=yi,t28:=Go.Proofs.Tryz.underlying96,a28:=Go.Proofs.Tryz.isAgg96,z28:=Go.Proofs.Tryz.sizeOf96,v28:=Go.Proofs.Tryz.zeroValue96,t46:=yu,a46:=q9,z46:=qu,v46:=qd,t51:=yv,a51:=jc,z51:=qv,v51:=qe,t53:=yw,a53:=jd,z53:=qw,v53:=qf,t131:=Go.Proofs.Tryz.underlying208,a131:=Go.Proofs.Tryz.isAgg208,z131:=Go.Proofs.Tryz.sizeOf208,v131:=Go.Proofs.Tryz.zeroValue208,t182:=Go.Proofs.Tryz.underlying264,a182:=Go.Proofs.Tryz.isAgg264,z182:=Go.Proofs.Tryz.sizeOf264,v182:=Go.Proofs.Tryz.zeroValue264,t183:=Go.Proofs.Tryz.underlying265,a183:=Go.Proofs.Tryz.isAgg265,z183:=Go.Proofs.Tryz.sizeOf265,v183:=Go.Proofs.Tryz.zeroValue265,t218:=Go.Proofs.Tryz.underlying299,a218:=Go.Proofs.Tryz.isAgg299,z218:=Go.Proofs.Tryz.sizeOf299,v218:=Go.Proofs.Tryz.zeroValue299,t222:=Go.Proofs.Tryz.underlying303,a222:=Go.Proofs.Tryz.isAgg303,z222:=Go.Proofs.Tryz.sizeOf303,v222:=Go.Proofs.Tryz.zeroValue303,t228:=Go.Proofs.Tryz.underlying319,a228:=Go.Proofs.Tryz.isAgg319,z228:=Go.Proofs.Tryz.sizeOf319,v228:=Go.Proofs.Tryz.zeroValue319,t229:=Go.Proofs.Tryz.underlying320,a229:=Go.Proofs.Tryz.isAgg320,z229:=Go.Proofs.Tryz.sizeOf320,v229:=Go.Proofs.Tryz.zeroValue320 }
open Go.Proofs.Tryz (prog)
def Lw:List V->Option (List Int)
  |[]=>some []
  | .int .i64 n::l=>(Lw l).map (n:: ·)
  |_=>none
theorem Ow:∀ {l:List V} {zs:List Int},Lw l=some zs->l=zs.map (V.int .i64)
  |[],zs,h=>by cases h;rfl
  | .int .i64 n::l,zs,h=>by
    simp only[Lw,zo]at h
    obtain⟨ys,h1,rfl⟩:=h
    rw[Ow h1];rfl
def sorted(zs:List Int):List Int:=zs.mergeSort fun x y=>decide (x<=y)
def UG:List V->H->Option (V×H)
  |[.sl b off len _ _],h=>match h.get b with
    |some (.cells cs t fz)=>match Lw (Rb len (HK off cs))with
      |some zs=>bif zh (Dj zs) len&&(zu len 140737488355328&&zu fz.2 fz.1)then some (.tup [],h.put b (.cells (cs.take off++((sorted zs).map (V.int .i64)++cs.drop (off+len))) t fz))else none
      |none=>none
    |_=>none
  |_,_=>none
def dX:U6:=fun f=>bif zh f 129 then some UG else none
theorem Rt(enc:Int->Value)(off:Nat)(d:Array Int)(c:Array Value)(i:Nat):(putCells enc off d c)[i]?=c[i]?.map fun x=>if off<=i/\i<off+d.size then enc d[i-off]! else x:=by
  unfold putCells
  rw[Array.getElem?_mapIdx]
theorem UX{w:World}{r off:Nat}{d:Array Int}{c:Array Value}{t:TypeId}{fz:Nat×Nat}(h:w.heap[r]?=some (.cells c t fz)):(putRow (ym .i64) w r off d).heap=w.heap.setIfInBounds r (.cells (putCells (ym .i64) off d c) t fz):=by
  apply Array.ext_getElem?
  intro k
  show(w.heap.modify r _)[k]?=_
  rw[Array.getElem?_modify,Array.getElem?_setIfInBounds]
  by_cases e:r=k
  · subst e
    have hlt:r<w.heap.size:=(yb.1 h).1
    rw[wd rfl,wd rfl,wd hlt,h];rfl
  · rw[wc e,wc e]
theorem cT:Jv prog dX:=by
  intro f q hq p h w args args' v h' hr hgp ha hd
  unfold dX at hq
  cases hf:zh f 129 with
  |false=>rw[hf]at hq;cases hq
  |true=>
    rw[hf]at hq;cases hq
    cases zc hf
    unfold UG at hd
    split at hd
    case h_2=>cases hd
    rename_i b off len cap o
    split at hd
    case h_2=>cases hd
    rename_i cs t fz hg
    split at hd
    case h_2=>cases hd
    rename_i zs hz
    cases hb:(zh (Dj zs) len&&(zu len 140737488355328&&zu fz.2 fz.1))with
    |false=>rw[hb]at hd;cases hd
    |true=>
      rw[hb]at hd;cases hd
      simp only[zg]at hb
      obtain⟨hb1,hb2,hb3⟩:=hb
      have hb1:=zc hb1
      have hb2:=zd hb2
      have hb3:=zd hb3
      rw[Cj]at hb1
      obtain⟨x,hl,h1⟩:=ha.one
      have:args'= #[x]:=yk.1 hl
      subst this
      simp only[Ab]at h1
      obtain⟨r,n,c,k1,rfl,k3,k4,_,_⟩:=h1
      obtain⟨r',n',ob,g1,g2,g3⟩:=hr.obj b _ hg
      rw[k1]at g1;cases g1
      simp only[FX]at g3
      obtain⟨ca,fz',rfl,hsz,g5,g6,g7⟩:=g3
      have hcs:=Ow hz
      rw[GQ,GR]at hcs
      have hlen:(cs.drop off).length>=len:=by
        have:=wi xx hcs
        rw[zt,zk]at this
        omega
      rw[jk]at hlen
      have hcell:∀j,j<len->cs[off+j]?=some (.int .i64 (zs[j]?.getD 0)):=by
        intro j hj
        have h2:=wi (fun l=>l[j]?) hcs
        simp only[ko]at h2
        rw[ze hj,zl]at h2
        rw[h2,zi (by omega)];rfl
      have hca:∀j,j<len->ca[off+j]?=some (.int .i64 (zs[j]?.getD 0)):=by
        intro j hj
        have h3:=hcell j hj
        have hlt2:off+j<(ca.toList.take cs.length).length:=by rw[<-g6.1];exact(zq.1 h3).1
        have h4:=g6.2 (off+j) _ _ h3 (zi hlt2) rfl
        simp only[Ab]at h4
        rw[List.getElem_take]at h4
        rw[<-ye,zi (by rw[zt]at hlt2;omega),h4]
      have hH:Holds (ym .i64) w r off zs.toArray:=by
        intro j hj
        have hj:j<zs.length:=by simpa using hj
        refine⟨?_,?_⟩
        · unfold World.cell?
          rw[g2]
          show ca[off+j]?=_
          rw[hca j (by omega),zi hj]
          simp[hj]
        · unfold World.frozen?
          rw[g2]
          obtain⟨lo,hi⟩:=fz'
          show(decide (lo<=off+j)&&decide (off+j<hi))=false
          rw[Bool.and_eq_false_iff,w9,w9]
          have hin:off+j<n:=by
            have:=(yb.1 (hca j (by omega))).1
            omega
          by_cases e1:lo<=off+j
          · refine .inr fun e2=>?_
            have:=g7 (off+j) hin e1 e2
            omega
          · exact .inl e1
      have hJ:=Any.slices_Sort_int (P:=prog) pL r off c zs w hH (yb.1 g2).1 (by omega)
      rw[hb1]at hJ
      refine hJ.mono ?_
      rintro e w' ⟨rfl,m,os,rfl⟩
      have hsl:(sorted zs).length=zs.length:=List.length_mergeSort ..
      have hput:Ext p h w p (h.put b (.cells (cs.take off++((sorted zs).map (V.int .i64)++cs.drop (off+len))) t fz)) (putRow (ym .i64) (Go.Sort.ahead w m) r off (sorted zs).toArray):=by
        have hh:(Go.Sort.ahead w m).heap[r]?=some (.cells ca t fz'):=g2
        refine Ext.put hr hg k1 (x':=Obj.cells (putCells (ym .i64) off (sorted zs).toArray ca) t fz') ?_ (UX hh) rfl rfl rfl ?_
        · refine⟨_,fz',rfl,by simp[putCells,hsz],?_,⟨?_,?_⟩,g7⟩
          · simp only[yc,zt,zk,jk];omega
          · simp only[yc,zt,zk,jk,Array.length_toList]
            have:(putCells (ym .i64) off (sorted zs).toArray ca).size=n:=by simp[putCells,hsz]
            omega
          · intro i d v e1 e2 hok
            have hi:i<cs.length:=by
              have:=(zq.1 e1).1
              simp only[yc,zt,zk,jk]at this
              omega
            have e2:(putCells (ym .i64) off (sorted zs).toArray ca)[i]?=some v:=by
              rw[List.getElem?_take]at e2
              split at e2
              · rw[<-ye];exact e2
              · cases e2
            rw[Rt]at e2
            have hci:i<ca.size:=by omega
            rw[qp hci]at e2
            simp only[Option.map_some,zj]at e2
            by_cases c1:i<off
            · rw[km (by rw[zt];omega),ze c1]at e1
              rw[wc (by omega)]at e2
              subst e2
              refine g6.2 i d _ e1 ?_ hok
              rw[ze hi,ye,qp hci]
            · rw[kj (by rw[zt];omega),zt,Nat.min_eq_left (by omega)]at e1
              by_cases c2:i<off+len
              · rw[km (by rw[zk];omega),ko,zi (by omega)]at e1
                simp only[Option.map_some,zj]at e1
                subst e1
                rw[wd ⟨by omega,by simp;omega⟩]at e2
                simp only[Ab]
                rw[<-e2]
                congr 1
                simp[show i-off<(sorted zs).length by omega]
              · rw[kj (by rw[zk];omega),zk,zl]at e1
                rw[show off+len+(i-off-(sorted zs).length)=i by omega]at e1
                rw[wc (by simp;omega)]at e2
                subst e2
                refine g6.2 i d _ e1 ?_ hok
                rw[ze hi,ye,qp hci]
        · intro cs2 t2 fz2 he hk
          cases he
          unfold Lk at hk
          omega
      refine⟨_,p,rfl,by simp[Ab],hput.trans (G1 hput.rel ⟨rfl,rfl,rfl,by show _<=(Array.append _ os).size;exact Nat.le_trans (Nat.le_add_right _ _) (Nat.le_of_eq (kq ..).symm),fun j hj=>by show((putRow _ _ _ _ _).heap++os)[j]?=_;exact qi hj⟩)⟩
end Go.Det
namespace Go.Pe
open Go.Det
@[reducible] def Bz:List Sh->Sh
 |[]=>.unit
 |[a]=>a
 |a::b::l=>.pair a (Bz (b::l))
def Af:(l:List Sh)->(Bz l).T->List PV
 |[],_=>[]
 |[a],x=>[B8 a x]
 |a::b::l,x=>B8 a x.1::Af (b::l) x.2
structure Ao where
 ins:List Sh
 pre:(Bz ins).T->Bool
 outs:List Sh
 f:(Bz ins).T->(Bz outs).T
 nd:Bool:=false
def Sh.sc:Sh->Bool
 | .int _| .bool| .str| .unit| .fnv=>true
 | .list _| .nlist _=>false
 | .pair a b=>a.sc&&b.sc
structure Kv where
 ins:List Sh
 ty:TypeId
 el:Sh
 pre:(Bz ins).T->List el.T->Bool
 g:(Bz ins).T->List el.T->List el.T
structure A0 where
 C:Ctx
 sp:FuncId->Option Ao
 pl:FuncId->Nat->List Nat
 ct:FuncId->Nat->Bool
 fz:FuncId->Nat->List (Nat×Sh)
 ws:FuncId->Option Kv:=fun _=>none
 esc:List FuncId:=[]
 escOk:∀g∈esc,C.prim g=some PK.noEsc.run:=by intro g h;cases h
def H5(st:AI)(s:Sh)(p:PV):Option (Bool×s.T):=
 bif J8 p==s.P5 then
  match Es st p.cells with
  |some (c,cs)=>match C3 s (KW s.leaves cs).2 with
   |some x=>some ((KW s.leaves cs).1&&c,x)
   |none=>none
  |none=>none
 else none
def Ec(st:AI):(l:List Sh)->List PV->Option (Bool×(Bz l).T)
 |[],[]=>some (true,())
 |[a],[p]=>H5 st a p
 |a::b::l,p::ps=>match H5 st a p,Ec st (b::l) ps with
  |some (c,x),some (d,y)=>some (c&&d,(x,y))
  |_,_=>none
 |_,_=>none
def one:List PV->PV
 |[v]=>v
 |l=>.tup l
def eZ(sp:Ao)(args:List PV)(st:AI)(k:PV->AI->Tr):Tr:=
 match Ec st sp.ins args with
 |some (c,i)=>.ite (c&&sp.pre i) (k (one (Af sp.outs (sp.f i))) (bif sp.outs.all Sh.sc then st else Bn (args.flatMap PV.cells) st)) .fail
 |none=>.fail
def VO(w:Kv)(args:List PV)(st:AI)(k:PV->AI->Tr):Tr:=
 match args.reverse with
 | .sl id sz 0 n none::r=>match Ec st w.ins r.reverse,(Bn (r.reverse.flatMap PV.cells) st).obj id with
  |some (c,i),some (.arr false t s l)=>bif zh t w.ty then
    match DZ (.list s) (.list w.el) l with
    |some l'=>.ite (c&&w.pre i l'&&decide (n=xx (α:=w.el.T) l')&&zh sz w.el.sz) (k (.tup []) ((Bn (r.reverse.flatMap PV.cells) st).setObj id (.arr false w.ty w.el (w.g i l')))) .fail
    |none=>.fail
   else .fail
  |_,_=>.fail
 | .nil::r=>match Ec st w.ins r.reverse with
  |some (c,i)=>.ite (c&&w.pre i []) (k (.tup []) (Bn (r.reverse.flatMap PV.cells) st)) .fail
  |none=>.fail
 |_=>.fail
mutual
def AaR:PV->List Nat
 | .ptr id _| .eptr id _ _ _| .sl id _ _ _ _| .mp id| .yl id=>[id]
 | .agg l| .tup l=>Jx l
 | .fn _ a b=>Jx a++Jx b
 |_=>[]
def Jx:List PV->List Nat
 |[]=>[]
 |v::vs=>AaR v++Jx vs
end
def xI:Obj->List Nat
 | .box cs=>Jx cs
 | .tbox _ cs=>Jx cs
 | .lp _ _ _ _ _ _ _ sl=>Jx (sl.map (·.2))
 |_=>[]
def H2(st:AI)(base:Nat):Nat->List Nat->List Nat->List Nat
 |0,_,acc=>acc
 |_+1,[],acc=>acc
 |f+1,i::is,acc=>bif kf i base||acc.any (zh i)then H2 st base f is acc
  else match st.obj i with
   |some o=>H2 st base f (is++xI o) (acc++[i])
   |none=>H2 st base f is acc
def Oj(base:Nat):List Nat->Nat->Nat->Option Nat
 |[],_,i=>bif kf i base then some i else none
 |j::js,n,i=>bif zh i j then some n else Oj base js (kg n 1) i
mutual
def FZ(f:Nat->Option Nat):PV->PV
 | .ptr i o=>match f i with|some j=>.ptr j o|none=>.any
 | .eptr i a b c=>match f i with|some j=>.eptr j a b c|none=>.any
 | .sl i a b c d=>match f i with|some j=>.sl j a b c d|none=>.any
 | .mp i=>match f i with|some j=>.mp j|none=>.any
 | .yl i=>match f i with|some j=>.yl j|none=>.any
 | .agg l=>.agg (JG f l)
 | .tup l=>.tup (JG f l)
 | .fn g a b=>.fn g (JG f a) (JG f b)
 |v=>v
def JG(f:Nat->Option Nat):List PV->List PV
 |[]=>[]
 |v::vs=>FZ f v::JG f vs
end
def R2(f:Nat->Option Nat):Obj->Obj
 | .box cs=>.box (JG f cs)
 | .tbox t cs=>.tbox t (JG f cs)
 | .lp g r ps asg body s n sl=>.lp g r ps asg body s n (sl.map fun x=>(x.1,FZ f x.2))
 |o=>o
def low(f:Nat->Option Nat)(base:Nat):Ob->Ob
 |[]=>[]
 |(i,o)::l=>bif kf i base then(i,R2 f o)::low f base l else low f base l
def kept(st:AI)(f:Nat->Option Nat):List Nat->Nat->Ob->Ob
 |[],_,acc=>acc
 |j::js,n,acc=>match st.obj j with
  |some o=>kept st f js (kg n 1) ((n,R2 f o)::acc)
  |none=>kept st f js (kg n 1) acc
def PY(base:Nat):Ob->List Nat
 |[]=>[]
 |(i,o)::l=>bif kf i base then xI o++PY base l else PY base l
def AD(n:Nat)(vs:List (Nat×PV))(ob:Ob)(nx:Nat):AI:=⟨n,E7 vs,ob,nx⟩
def canon(base:Nat)(L:List Nat)(st:AI):AI:=
 let vs:=L.map fun t=>(t,st.get t)
 let ids:=H2 st base 100 (Jx (vs.map (·.2))++PY base st.ob) []
 let f:=Oj base ids base
 AD st.n (vs.map fun x=>(x.1,FZ f x.2)) (kept st f ids base (low f base st.ob)) (kg base ids.length)
def oM(base:Nat)(x:Nat×Sh)(st:AI):AI:=
 match st.get x.1 with
 | .nil=>st.set x.1 (.dat (.list x.2) [])
 | .sl id sz off len _=>match st.obj id with
  |some (.arr _ e s l)=>bif zh sz s.sz then(st.setObj id (.arr true e s l)).set x.1 (.dat (.list s) ((l.drop off).take len))else st
  |_=>st
 | .ptr id 0=>bif zu base id then match st.obj id with
   |some (.box ps)=>match C3 x.2 ps with
    |some v=>(st.Pz id).set x.1 (.FE x.2 v 0)
    |none=>st
   |_=>st
  else st
 |_=>st
def mD(base:Nat):List (Nat×Sh)->AI->AI
 |[],st=>st
 |x::l,st=>mD base l (oM base x st)
def Df:Code->Nat
 | .region id _ _=>id
 | .seq a _=>Df a
 | .block _ b=>Df b
 | .loop b=>Df b
 | .scope b=>Df b
 |_=>0
def OL(X:A0)(f:FuncId)(r:Nat)(base:Nat)(st:AI):AI:=canon base (X.pl f r) (mD base (X.fz f r) st)
inductive vW where
 |fn (g:FuncId)
 |rnd (id:Nat)
abbrev FM:=vW->List PV->AI->(PV->AI->Tr)->Tr
def Ov(d:Option Nat)(k:AI->Tr):PO->Tr
 | .bad=>.fail
 | .val v st=>match st.put d v with
  |some st'=>k st'
  |none=>.fail
 | .ite c a b=>.ite c (Ov d k a) (Ov d k b)
inductive CK where
 |no
 |bad
 |yes (g:vW) (args:List PV)
def JY(st:AI)(o:Op):CK:=
 match o with
 | .call c=>match c.callee with
  | .value f=>match Qe st f,LC st c.args.toList with
   |some (.fn (.func g) first cap),some args=>.yes (.fn g) (first++args++cap)
   |some (.yl id),some args=>.yes (.rnd id) args
   |_,_=>.bad
  |_=>.no
 |_=>.no
def HB(T:BW)(call:FM)(o:Oper)(st:AI)(k:AI->Tr):Tr:=
 match JY st o.op with
 | .yes g args=>call g args st fun v st=>match st.put o.dst v with
  |some st'=>k st'
  |none=>.fail
 | .bad=>.fail
 | .no=>Ov o.dst k (pop o.op T st)
def Se(T:BW)(st:AI)(o:Op):Option (PV×AI):=
 match o with
 | .convert s d x=>match T.und s,T.und d,Qe st x with
  |some .string,some (.slice e),some (.dat .str l)=>match T.und e with
   |some (.int .u8)=>some (.sl st.nx 1 0 (xx l) none,st.push (.arr false e (.int .u8) (List.map (fun b:UInt8=>(b.toNat:Int)) l)))
   |_=>none
  |_,_,_=>none
 |_=>none
def sY(T:BW)(st:AI)(o:Op):Option PV:=
 match o with
 | .convert s d x=>match T.und s,T.und d,Qe st x with
  |some (.pointer t),some .unsafePointer,some (.ptr id off)=>match T.inf t,st.obj id with
   |some i,some (.tbox _ cs)=>bif kf 0 i.size&&kf off (Dj cs)then some (.ptr id off)else none
   |_,_=>none
  |some .unsafePointer,some (.pointer u),some (.ptr id off)=>match T.inf u,st.obj id with
   |some i,some (.tbox e cs)=>bif kf 0 i.size&&zu i.size (Dj cs)&&zh e u&&zh off 0 then some (.ptr id 0)else none
   |_,_=>none
  |_,_,_=>none
 |_=>none
def VW(T:BW)(st:AI)(o:Op):Option (PV×AI):=
 match Se T st o with
 |some r=>some r
 |none=>match sY T st o with
  |some v=>some (v,st)
  |none=>none
def rZ(T:BW)(call:FM)(o:Oper)(st:AI)(k:AI->Tr):Tr:=
 match VW T st o.op with
 |some (v,st1)=>match st1.put o.dst v with
  |some st2=>k st2
  |none=>.fail
 |none=>HB T call o st k
def guarded(ops:Array Oper)(o:Oper)(st:AI)(yes no:AI->Tr):Tr:=
 match o.guard with
 |none=>yes st
 |some (j,want)=>match (ops[j]?).bind (·.dst)with
  |some t=>bif kf t st.n then(match st.get t with
   | .bl b=>bif b==want then yes st else no st
   | .dat .bool b=>bif want then .ite b (yes (st.set t (.bl true))) (no (st.set t (.bl false)))else .ite b (no (st.set t (.bl true))) (yes (st.set t (.bl false)))
   | .tup _=>no st
   | .ub=>.both (bif want then yes (st.set t (.bl true))else no (st.set t (.bl true))) (bif want then no (st.set t (.bl false))else yes (st.set t (.bl false)))
   |_=>.fail)else .fail
  |none=>.fail
def LX(o:Oper)(k:AI->Tr)(st:AI):Tr:=
 match st.put o.dst (.tup [])with
 |some st'=>k st'
 |none=>.fail
def prun(T:BW)(call:FM)(ops:Array Oper):List Oper->AI->(AI->Tr)->Tr
 |[],st,k=>k st
 |o::rest,st,k=>guarded ops o st
   (fun st=>rZ T call o st fun st'=>prun T call ops rest st' k)
   (fun st=>LX o (fun st'=>prun T call ops rest st' k) st)
def nX(st:AI)(o:Op):Option (List Nat):=
 match o with
 | .load _ x=>match Qe st x with
  |some (.ptr id _)|some (.eptr id _ _ _)=>some [id]
  |some (.FE _ _ _)=>some []
  |_=>none
 | .convert _ _ x=>match Qe st x with
  |some (.dat (.int _) _)|some (.dat .str _)=>some []
  |_=>none
 | .call c=>match c.callee,LC st c.args.toList with
  | .builtin .len,some [.dat _ _]| .builtin .len,some [.sl _ _ _ _ _]| .builtin .len,some [.nil]=>some []
  | .builtin .len,some [.mp id]=>some [id]
  |_,_=>none
 | .lookup _ x _ _=>match Qe st x with
  |some (.mp id)=>some [id]
  |some .nilm=>some []
  |_=>none
 |_=>none
def G4(sp:FuncId->Option Ao)(st:AI)(o:Op):Option (List Nat):=
 match o with
 | .store _ x _=>match Qe st x with
  |some (.ptr id _)|some (.eptr id _ _ _)=>some [id]
  |_=>none
 | .mapUpdate _ x _ _| .insert _ x _ _=>match Qe st x with
  |some (.mp id)=>some [id]
  |_=>none
 | .makeMap _ _| .makeSlice _ _ _=>some []
 | .call c=>match c.callee with
  | .value f=>match Qe st f with
   |some (.fn (.func g) _ _)=>match sp g with
    |some _=>some []
    |none=>none
   |_=>none
  | .builtin .append=>match LC st c.args.toList with
   |some (.sl id _ _ _ _::_)=>some [id]
   |some _=>some []
   |none=>none
  | .builtin .delete=>match LC st c.args.toList with
   |some (.mp id::_)=>some [id]
   |_=>none
  | .builtin .unsafeString=>match LC st c.args.toList with
   |some (.eptr id _ _ _::_)=>some [id]
   |_=>none
  |_=>none
 |_=>none
abbrev Rs:=List (Nat×Option (List Nat))
def ZB:Option (List Nat)->Option (List Nat)->Bool
 |some a,some b=>a.all fun i=> !(b.any (zh i))
 |some [],none=>true
 |_,_=>false
def K3(st:AI):Option (List Nat)->Bool
 |some l=>l.all fun i=>HU (st.obj i)
 |none=>false
def apart(anc:Nat->Nat->Bool)(i:Nat)(st:AI)(t:Option (List Nat))(rs:Rs):Bool:=rs.all fun r=>anc i r.1||(ZB r.2 t&&K3 st r.2)
def behind(st:AI)(t:Option (List Nat))(rs:Rs):Rs:=rs.map fun r=>bif ZB r.2 t&&K3 st r.2 then r else(r.1,none)
def jH(st:AI)(o:Op):Bool:=match JY st o with
 | .yes (.rnd _) _=>false
 |_=>true
def Jw(T:BW)(sp:FuncId->Option Ao)(call:FM)(ops:Array Oper)(anc:Nat->Nat->Bool):List Nat->AI->Rs->(AI->Tr)->Tr
 |[],st,_,k=>k st
 |i::is,st,rs,k=>match ops[i]? with
  |none=>.fail
  |some o=>guarded ops o st
    (fun st=>bif Eb o then HB T call o st (fun st'=>Jw T sp call ops anc is st' (bif O5 o then(i,nX st o.op)::rs else rs) k)
     else bif Co o then HB T call o st (fun st'=>Jw T sp call ops anc is st' rs k)
     else bif apart anc i st (G4 sp st o.op) rs&&jH st o.op then HB T call o st (fun st'=>Jw T sp call ops anc is st' (behind st (G4 sp st o.op) rs) k)else .fail)
    (fun st=>bif CC o then(bif apart anc i st (some []) rs then LX o (fun st'=>Jw T sp call ops anc is st' (behind st (some []) rs) k) st else .fail)
     else LX o (fun st'=>Jw T sp call ops anc is st' rs k) st)
def exec(X:A0)(call callD:FM)(nd ro:Bool)(d:Nat)(f:FuncId)(base:Nat):Code->AI->(DX->AI->Tr)->Tr
 | .skip,st,k| .label _,st,k=>k .normal st
 | .region _ ops dr,st,k=>bif dr then(bif !ro||HP ops (Er ops)then Jw X.C.T X.sp callD ops (Er ops).a (Er ops).ord st [] (k .normal)else .fail)else prun X.C.T call ops ops.toList st (k .normal)
 | .seq a b,st,k=>exec X call callD nd ro d f base a st fun e st'=>match e with
  | .normal=>bif X.ct f (Df b)then .cut nd ro d f base b (OL X f (Df b) base st') k else exec X call callD nd ro d f base b st' k
  |e=>k e st'
 | .cond x a b,st,k=>match Qe st x with
  |some (.bl t)=>bif t then exec X call callD nd ro d f base a st k else exec X call callD nd ro d f base b st k
  |some (.dat .bool t)=>match x with
   | .tmp s=>.ite t (exec X call callD nd ro d f base a (st.set s (.bl true)) k) (exec X call callD nd ro d f base b (st.set s (.bl false)) k)
   |_=>.ite t (exec X call callD nd ro d f base a st k) (exec X call callD nd ro d f base b st k)
  |some .ub=>match x with
   | .tmp s=>.both (exec X call callD nd ro d f base a (st.set s (.bl true)) k) (exec X call callD nd ro d f base b (st.set s (.bl false)) k)
   |_=>.fail
  |_=>.fail
 | .block id b,st,k=>exec X call callD nd ro d f base b st fun e st'=>match e with
  | .exit i=>bif zh i id then k .normal st' else k e st'
  |e=>k e st'
 | .loop b,st,k=>.loop nd ro d f base b (OL X f (Df b) base st) k
 | .exit i,st,k=>k (.exit i) st
 | .ret,st,k=>k .ret st
 | .scope b,st,k=>exec X call callD nd ro d f base b st k
 |_,_,_=>.fail
def kB(T:BW)(st:AI):ResultVar->Option PV
 | .tmp t=>some (st.get t)
 | .cell a t=>match My T st t (st.get a)with
  | .val v _=>some v
  | .FT _ v _=>some v
  |_=>none
def KX(T:BW)(st:AI):List ResultVar->List Bool
 |[]=>[]
 | .tmp _::rs=>KX T st rs
 | .cell a t::rs=>match My T st t (st.get a)with
  | .FT c _ _=>c::KX T st rs
  |_=>KX T st rs
def Pk:List Bool->Tr->Tr
 |[],t=>t
 |c::cs,t=>.ite c (Pk cs t) .fail
def cL(T:BW)(st:AI):List ResultVar->Option (List PV)
 |[]=>some []
 |r::rs=>match kB T st r,cL T st rs with
  |some v,some vs=>some (v::vs)
  |_,_=>none
def Ef:List PV->Nat->List (Nat×PV)
 |[],_=>[]
 |v::vs,i=>(i,v)::Ef vs (kg i 1)
def enter(X:A0)(call callD:FM)(nd:Bool)(d:Nat)(f:FuncId)(args:List PV)(st:AI)(k:PV->AI->Tr):Tr:=
 match X.C.fn f with
 |none=>.fail
 |some i=>bif i.cert then
   exec X call callD nd false d f st.nx i.body (AD (kg args.length (Nat.sub i.ntmps args.length)) (Ef args 0) st.ob st.nx) fun e s=>match e with
    | .exit _=>.fail
    |_=>match cL X.C.T s i.results.toList with
     |some vs=>Pk (KX X.C.T s i.results.toList) (k (one vs) ⟨st.n,st.fr,s.ob,s.nx⟩)
     |none=>.fail
  else .fail
def MH:List Tmp->List PV->AI->AI
 |t::ts,v::vs,st=>MH ts vs (bif kf t st.n then st.set t v else st)
 |_,_,st=>st
def iY(X:A0)(call callD:FM)(nd:Bool)(d:Nat)(id:Nat)(args:List PV)(st:AI)(k:PV->AI->Tr):Tr:=
 match st.obj id with
 |some (.lp f _ ps asg b .ready n sl)=>bif zh args.length ps.size then
   exec X call callD nd true d f st.nx asg (MH ps.toList args (AD n sl st.ob st.nx)) fun e s=>match e with
   | .normal=>match s.obj id with
    |some (.lp f1 r1 ps1 asg1 b1 .ready n1 sl1)=>
     exec X call callD nd true d f st.nx b (s.setObj id (.lp f1 r1 ps1 asg1 b1 .busy n1 sl1)) fun e2 s2=>
      match s2.obj id with
      |some (.lp f2 r2 ps2 asg2 b2 _ n2 sl2)=>match e2 with
       | .normal=>k (.bl true) ⟨st.n,st.fr,(s2.setObj id (.lp f2 r2 ps2 asg2 b2 .ready n2 sl2)).ob,s2.nx⟩
       | .ret=>k (.bl false) ⟨st.n,st.fr,(s2.setObj id (.lp f2 r2 ps2 asg2 b2 .ret n2 sl2)).ob,s2.nx⟩
       | .exit i=>k (.bl false) ⟨st.n,st.fr,(s2.setObj id (.lp f2 r2 ps2 asg2 b2 (.exit i) n2 sl2)).ob,s2.nx⟩
      |_=>.fail
    |_=>.fail
   |_=>.fail
  else .fail
 |_=>.fail
def xQ(args:List PV)(st:AI)(k:PV->AI->Tr):Tr:=
 match args with
 |[.ptr id off]=>bif HU (st.obj id)then k (.ptr id off) st else .fail
 |_=>.fail
def Cp(X:A0)(nd:Bool):Nat->FM
 |0=>fun _ _ _ _=>.fail
 |d+1=>fun c args st k=>match c with
  | .fn g=>match X.sp g with
   |some sp=>bif nd|| !sp.nd then eZ sp args st k else .fail
   |none=>match X.ws g with
    |some w=>VO w args st k
    |none=>bif X.esc.any (zh g)then xQ args st k else match X.C.prim g,X.C.spec g with
     |none,none=>enter X (Cp X nd d) (Cp X false d) nd d g args st k
     |_,_=>.fail
  | .rnd _=>.fail
def tree(X:A0)(nd:Bool)(d:Nat)(f:FuncId)(args:List PV):Tr:=
 enter X (Cp X nd d) (Cp X false d) nd d f args (AD 0 [] [] 0) fun v st=>.leaf v st.ob
def body(X:A0)(nd ro:Bool)(d:Nat)(f:FuncId)(base:Nat)(b:Code)(st:AI)(k:DX->AI->Tr):Tr:=
 exec X (Cp X nd d) (Cp X false d) nd ro d f base b st fun e st'=>match e with
  | .normal=>.loop nd ro d f base b (OL X f (Df b) base st') k
  |e=>k e st'
def AM(X:A0)(nd ro:Bool)(d:Nat)(f:FuncId)(base:Nat)(b:Code)(st:AI)(k:DX->AI->Tr):Tr:=exec X (Cp X nd d) (Cp X false d) nd ro d f base b st k
inductive Ev (X:A0) (Q:PV->Ob->Prop):Nat->Tr->Prop where
 |leaf {n:Nat} {v:PV} {ob:Ob}:Q v ob->Ev X Q n (.leaf v ob)
 |ite {n:Nat} {c:Bool} {a b:Tr}:(c=true->Ev X Q n a)->(c=false->Ev X Q n b)->Ev X Q n (.ite c a b)
 |both {n:Nat} {a b:Tr}:Ev X Q n a->Ev X Q n b->Ev X Q n (.both a b)
 |cut {n:Nat} {nd ro:Bool} {d:Nat} {f:FuncId} {base:Nat} {b:Code} {st:AI} {k:DX->AI->Tr}:Ev X Q n (AM X nd ro d f base b st k)->Ev X Q n (.cut nd ro d f base b st k)
 |alts {n m:Nat} {f:Nat->Tr}:(∀i,i<m->Ev X Q n (f i))->Ev X Q n (.alts m f)
 |loop {n:Nat} {nd ro:Bool} {d:Nat} {f:FuncId} {base:Nat} {b:Code} {st:AI} {k:DX->AI->Tr}:Ev X Q n (body X nd ro d f base b st k)->Ev X Q (n+1) (.loop nd ro d f base b st k)
abbrev Fz:=Nat->Option (List V)
abbrev D9:=Nat->Option (Nat×Nat)
def DC(F:Fz):(s:Sh)->s.T->List V->Prop
 | .int k,x,cs=>cs=[.int k x]
 | .bool,x,cs=>cs=[.bool x]
 | .str,x,cs=>cs=[.str x]
 | .list s,l,cs=>∃v,cs=[v]/\((l=[]/\(v=.nils\/v=.esl\/v=.es0))\/
   ∃b off cap o bs,v=.sl b off l.length cap o/\l.length<=cap/\F b=some bs/\off+l.length*s.sz<=bs.length/\(o=0\/o=s.sz)/\
    ∀i (h:i<l.length),DC F s l[i] ((bs.drop (off+i*s.sz)).take s.sz))
 | .pair a b,x,cs=>∃c d,cs=c++d/\DC F a x.1 c/\DC F b x.2 d
 | .unit,_,cs=>cs=[]
 | .fnv,x,cs=>cs=[match (x:Option Fn)with|some f=>.fn f [] []|none=>.nilf]
 | .nlist s,l,cs=>∃v,cs=[v]/\((l=[]/\v=.nils)\/(l≠[]/\
   ∃b off cap o bs,v=.sl b off l.length cap o/\l.length<=cap/\F b=some bs/\off+l.length*s.sz<=bs.length/\(o=0\/o=s.sz)/\
    ∀i (h:i<l.length),DC F s l[i] ((bs.drop (off+i*s.sz)).take s.sz)))
theorem DC.len{F:Fz}:∀ {s:Sh} {x:s.T} {cs:List V},DC F s x cs->cs.length=s.sz
 | .int _,_,_,h=>by simp only[DC]at h;subst h;rfl
 | .bool,_,_,h=>by simp only[DC]at h;subst h;rfl
 | .str,_,_,h=>by simp only[DC]at h;subst h;rfl
 | .list _,_,_,h=>by simp only[DC]at h;obtain⟨v,rfl,_⟩:=h;rfl
 | .pair a b,x,_,h=>by
  simp only[DC]at h;obtain⟨c,d,rfl,h1,h2⟩:=h;rw[yc,h1.len,h2.len];rfl
 | .unit,_,_,h=>by simp only[DC]at h;subst h;rfl
 | .nlist _,_,_,h=>by simp only[DC]at h;obtain⟨v,rfl,_⟩:=h;rfl
 | .fnv,_,_,h=>by simp only[DC]at h;subst h;rfl
theorem DC.ok{F:Fz}:∀ {s:Sh} {x:s.T} {cs:List V},DC F s x cs->∀v∈cs,v.ok=true
 | .int _,_,_,h=>by simp only[DC]at h;subst h;simp[xy]
 | .bool,_,_,h=>by simp only[DC]at h;subst h;simp[xy]
 | .str,_,_,h=>by simp only[DC]at h;subst h;simp[xy]
 | .list s,_,_,h=>by
  simp only[DC]at h;obtain⟨v,rfl,⟨_,rfl|rfl|rfl⟩|⟨b,off,cap,o,bs,rfl,_⟩⟩:=h<;>simp[xy]
 | .pair a b,x,_,h=>by
  simp only[DC]at h;obtain⟨c,d,rfl,h1,h2⟩:=h;intro v hv;rcases List.mem_append.1 hv with hv|hv
  ·exact h1.ok v hv
  ·exact h2.ok v hv
 | .unit,_,_,h=>by simp only[DC]at h;subst h;simp
 | .fnv,x,_,h=>by simp only[DC]at h;subst h;intro v hv;rw[zf.1 hv];cases (x:Option Fn)<;>rfl
 | .nlist s,_,_,h=>by
  simp only[DC]at h;obtain⟨v,rfl,⟨_,rfl⟩|⟨_,b,off,cap,o,bs,rfl,_⟩⟩:=h<;>simp[xy]
theorem DC.mono{F F':Fz}(hF:∀b cs,F b=some cs->F' b=some cs):∀ {s:Sh} {x:s.T} {cs:List V},DC F s x cs->DC F' s x cs
 | .int _,_,_,h=>by simpa only[DC]using h
 | .bool,_,_,h=>by simpa only[DC]using h
 | .str,_,_,h=>by simpa only[DC]using h
 | .list s,l,_,h=>by
  simp only[DC]at h ⊢;obtain⟨v,rfl,h⟩:=h;refine⟨v,rfl,?_⟩;rcases h with h|⟨b,off,cap,o,bs,h1,h2,h3,h4,h5,h6⟩
  ·exact .inl h
  ·exact .inr ⟨b,off,cap,o,bs,h1,h2,hF _ _ h3,h4,h5,fun i hi=>(h6 i hi).mono hF⟩
 | .pair a b,x,_,h=>by
  simp only[DC]at h ⊢;obtain⟨c,d,rfl,h1,h2⟩:=h;exact⟨c,d,rfl,h1.mono hF,h2.mono hF⟩
 | .unit,_,_,h=>by simpa only[DC]using h
 | .fnv,_,_,h=>by simpa only[DC]using h
 | .nlist s,l,_,h=>by
  simp only[DC]at h ⊢;obtain⟨v,rfl,h⟩:=h;refine⟨v,rfl,?_⟩;rcases h with h|⟨h0,b,off,cap,o,bs,h1,h2,h3,h4,h5,h6⟩
  ·exact .inl h
  ·exact .inr ⟨h0,b,off,cap,o,bs,h1,h2,hF _ _ h3,h4,h5,fun i hi=>(h6 i hi).mono hF⟩
theorem DC.nl{F:Fz}{s:Sh}{l:List s.T}{cs:List V}(h:DC F (.nlist s) l cs):DC F (.list s) l cs:=by
 simp only[DC]at h ⊢;obtain⟨v,rfl,h⟩:=h;rcases h with⟨rfl,rfl⟩|⟨_,h⟩
 ·exact⟨_,rfl,.inl ⟨rfl,.inl rfl⟩⟩
 ·exact⟨_,rfl,.inr h⟩
theorem DC.nl'{F:Fz}{s:Sh}{l:List s.T}{cs:List V}(h:DC F (.list s) l cs)(h0:0<l.length):DC F (.nlist s) l cs:=by
 have hne:l≠[]:=by rintro rfl;simp at h0
 simp only[DC]at h ⊢;obtain⟨v,rfl,h⟩:=h;rcases h with⟨rfl,_⟩|h
 ·exact wh rfl hne
 ·exact⟨_,rfl,.inr ⟨hne,h⟩⟩
mutual
def PR(F:Fz)(ρ:D9)(N:Nat):PV->V->Prop
 | .any,_=>True
 | .bl b,v=>v=.bool b
 | .ub,v=>∃b,v=.bool b
 | .dat s x,v=>DC F s x [v]
 | .nil,v=>v=.nils
 | .nilp,v=>v=.nilp
 | .nilm,v=>v=.nilm
 | .nilf,v=>v=.nilf
 | .nili,v=>v=.nili
 | .agg l,v=>∃cs,v=.agg cs/\Ba F ρ N l cs
 | .tup l,v=>∃cs,v=.tup cs/\Ba F ρ N l cs
 | .ptr id off,v=>id<N/\∀b n,ρ id=some (b,n)->v=.ptr b off
 | .eptr id sz i off,v=>id<N/\∀b n,ρ id=some (b,n)->v=.ptr b (i*sz+off)
 | .FE s x off,v=>∃b o cs,v=.ptr b (o+off)/\F b=some cs/\o+s.sz<=cs.length/\DC F s x ((cs.drop o).take s.sz)
 | .sl id sz off len cap,v=>id<N/\∀b n,ρ id=some (b,n)->
   (len<=cap.getD len/\off+cap.getD len<=n/\∃o,(o=0\/o=sz)/\v=.sl b (off*sz) len (cap.getD len) o)\/
   (len=0/\cap=some 0/\off<=n/\(v=.esl\/∃off',v=.sl b off' 0 0 0/\off'<=off*sz))
 | .mp id,v=>id<N/\∀b n,ρ id=some (b,n)->v=.map b
 | .fn f first captured,v=>∃a b,v=.fn f a b/\Ba F ρ N first a/\Ba F ρ N captured b
 | .yl id,v=>id<N/\∀b n,ρ id=some (b,n)->v=.yld b
def Ba(F:Fz)(ρ:D9)(N:Nat):List PV->List V->Prop
 |[],l=>l=[]
 |p::ps,l=>∃v vs,l=v::vs/\PR F ρ N p v/\Ba F ρ N ps vs
end
section
variable {F F':Fz}{ρ ρ':D9}{N N':Nat}
@[simp] theorem B3(l:List V):Ba F ρ N [] l↔l=[]:=by simp[Ba]
@[simp] theorem A1(p:PV)(ps:List PV)(v:V)(vs:List V):Ba F ρ N (p::ps) (v::vs)↔PR F ρ N p v/\Ba F ρ N ps vs:=by
 simp only[Ba];constructor
 ·rintro⟨_,_,h,h1,h2⟩;cases h;exact⟨h1,h2⟩
 ·rintro⟨h1,h2⟩;exact⟨v,vs,rfl,h1,h2⟩
theorem Ba.len:∀ {ps:List PV} {vs:List V},Ba F ρ N ps vs->ps.length=vs.length
 |[],vs,h=>by simp at h;simp[h]
 |p::ps,vs,h=>by
  simp only[Ba]at h;obtain⟨v,vs,rfl,_,h2⟩:=h;simp[h2.len]
theorem Ba.append:∀ {a:List PV} {x:List V} {b:List PV} {y:List V},Ba F ρ N a x->Ba F ρ N b y->Ba F ρ N (a++b) (x++y)
 |[],x,b,y,h,h'=>by simp at h;subst h;simpa using h'
 |p::ps,x,b,y,h,h'=>by
  simp only[Ba]at h;obtain⟨v,vs,rfl,h1,h2⟩:=h;simp only[List.cons_append,A1];exact⟨h1,h2.append h'⟩
theorem Ba.drop:∀ {a:List PV} {x:List V} (n:Nat),Ba F ρ N a x->Ba F ρ N (a.drop n) (x.drop n)
 |[],x,n,h=>by simp at h;subst h;simp
 |p::ps,x,0,h=>by simpa using h
 |p::ps,x,n+1,h=>by
  simp only[Ba]at h;obtain⟨v,vs,rfl,h1,h2⟩:=h;simpa using h2.drop n
theorem Ba.take:∀ {a:List PV} {x:List V} (n:Nat),Ba F ρ N a x->Ba F ρ N (a.take n) (x.take n)
 |[],x,n,h=>by simp at h;subst h;simp
 |p::ps,x,0,h=>by simp
 |p::ps,x,n+1,h=>by
  simp only[Ba]at h;obtain⟨v,vs,rfl,h1,h2⟩:=h;simpa using⟨h1,h2.take n⟩
theorem Ba.get:∀ {a:List PV} {x:List V},Ba F ρ N a x->∀ {i:Nat} {p:PV},a[i]?=some p->∃v,x[i]?=some v/\PR F ρ N p v
 |[],x,h,i,p,hp=>by simp at hp
 |q::ps,x,h,i,p,hp=>by
  simp only[Ba]at h;obtain⟨v,vs,rfl,h1,h2⟩:=h;cases i with
  |zero=>simp at hp;subst hp;exact⟨v,rfl,h1⟩
  |succ i=>simp at hp;simpa using h2.get hp
structure Le(F:Fz)(ρ:D9)(N:Nat)(F':Fz)(ρ':D9)(N':Nat):Prop where
 fz:∀b cs,F b=some cs->F' b=some cs
 rho:∀id,id<N->ρ' id=ρ id\/ρ' id=none
 n:N<=N'
theorem Le.refl:Le F ρ N F ρ N:=⟨fun _ _ h=>h,fun _ _=>.inl rfl,jf _⟩
theorem Le.trans{F'':Fz}{ρ'':D9}{N'':Nat}(a:Le F ρ N F' ρ' N')(b:Le F' ρ' N' F'' ρ'' N''):Le F ρ N F'' ρ'' N'':=
 ⟨fun c cs h=>b.fz c cs (a.fz c cs h),fun id h=>by
  rcases b.rho id (yd h a.n)with e|e
  ·rw[e];exact a.rho id h
  ·exact .inr e,Nat.le_trans a.n b.n⟩
theorem Le.at(hl:Le F ρ N F' ρ' N'){id:Nat}(h:id<N){x:Nat×Nat}(hx:ρ' id=some x):ρ id=some x:=by
 rcases hl.rho id h with e|e
 ·rw[<-e];exact hx
 ·rw[e]at hx;cases hx
mutual
theorem PR.mono(hl:Le F ρ N F' ρ' N'):∀ {p:PV} {v:V},PR F ρ N p v->PR F' ρ' N' p v
 | .any,_,_=>by simp[PR]
 | .bl _,_,h=>by simpa only[PR]using h
 | .ub,_,h=>by simpa only[PR]using h
 | .dat s x,_,h=>by simp only[PR]at h ⊢;exact h.mono hl.fz
 | .nil,_,h| .nilp,_,h| .nilm,_,h| .nilf,_,h| .nili,_,h=>by simpa only[PR]using h
 | .agg l,_,h=>by simp only[PR]at h ⊢;obtain⟨cs,rfl,h1⟩:=h;exact⟨cs,rfl,h1.mono hl⟩
 | .tup l,_,h=>by simp only[PR]at h ⊢;obtain⟨cs,rfl,h1⟩:=h;exact⟨cs,rfl,h1.mono hl⟩
 | .ptr _ _,_,h=>by simp only[PR]at h ⊢;exact⟨yd h.1 hl.n,fun b n hb=>h.2 b n (hl.at h.1 hb)⟩
 | .eptr _ _ _ _,_,h=>by simp only[PR]at h ⊢;exact⟨yd h.1 hl.n,fun b n hb=>h.2 b n (hl.at h.1 hb)⟩
 | .FE s x off,_,h=>by
  simp only[PR]at h ⊢;obtain⟨b,o,cs,h1,h2,h3,h4⟩:=h;exact⟨b,o,cs,h1,hl.fz _ _ h2,h3,h4.mono hl.fz⟩
 | .sl _ _ _ _ _,_,h=>by simp only[PR]at h ⊢;exact⟨yd h.1 hl.n,fun b n hb=>h.2 b n (hl.at h.1 hb)⟩
 | .mp _,_,h=>by simp only[PR]at h ⊢;exact⟨yd h.1 hl.n,fun b n hb=>h.2 b n (hl.at h.1 hb)⟩
 | .fn f a b,_,h=>by
  simp only[PR]at h ⊢;obtain⟨x,y,rfl,h1,h2⟩:=h;exact⟨x,y,rfl,h1.mono hl,h2.mono hl⟩
 | .yl _,_,h=>by simp only[PR]at h ⊢;exact⟨yd h.1 hl.n,fun b n hb=>h.2 b n (hl.at h.1 hb)⟩
theorem Ba.mono(hl:Le F ρ N F' ρ' N'):∀ {ps:List PV} {vs:List V},Ba F ρ N ps vs->Ba F' ρ' N' ps vs
 |[],_,h=>by simpa using h
 |p::ps,_,h=>by
  simp only[Ba]at h ⊢;obtain⟨v,vs,rfl,h1,h2⟩:=h;exact⟨v,vs,rfl,h1.mono hl,h2.mono hl⟩
end
theorem PR.lz:∀ {p:PV} {v:V},PR F ρ N p v->PR F ρ N (lz p) v:=by
 intro p v h;unfold Pe.lz;split
 ·simp only[PR]at h ⊢;exact h.nl
 ·exact h
theorem Ba.lz:∀ {ps:List PV} {vs:List V},Ba F ρ N ps vs->Ba F ρ N (ps.map Pe.lz) vs
 |[],_,h=>by simpa using h
 |p::ps,_,h=>by
  simp only[Ba]at h;obtain⟨v,vs,rfl,h1,h2⟩:=h;simp only[List.map_cons,A1];exact⟨h1.lz,h2.lz⟩
theorem ZU{s:Sh}{p:PV}{v:V}(h:PR F ρ N p v)(hc:(T5 s p).1=true):PR F ρ N (T5 s p).2 v:=by
 unfold T5 at hc ⊢;split
 ·rename_i s s' x;cases hb:(s==s')with
  |false=>exact h
  |true=>
   have hc:(bif s==s' then(decide (0<xx x),PV.dat s'.nlist x)else(true,PV.dat s'.list x)).1=true:=hc;rw[hb]at hc;simp only[we,w5]at hc;simp only[PR,we]at h ⊢;exact h.nl' hc
 ·rename_i s s' x;cases hb:(s==s')with
  |false=>exact h
  |true=>simp only[PR,we]at h ⊢;exact h.nl
 ·exact h
theorem QV:∀ {l:List Sh} {ps:List PV} {vs:List V},Ba F ρ N ps vs->(KW l ps).1=true->Ba F ρ N (KW l ps).2 vs
 |[],ps,vs,h,_=>h
 |s::l,[],vs,h,_=>h
 |s::l,p::ps,vs,h,hc=>by
  simp only[Ba]at h;obtain⟨v,vs,rfl,h1,h2⟩:=h;simp only[KW,zg]at hc;simp only[KW,A1];exact⟨ZU h1 hc.1,QV h2 hc.2⟩
def D6(F:Fz)(s:Sh)(l:List s.T)(cs:List V):Prop:=cs.length=l.length*s.sz/\∀i (h:i<l.length),DC F s l[i] ((cs.drop (i*s.sz)).take s.sz)
theorem D6.mono(hF:∀b cs,F b=some cs->F' b=some cs){s:Sh}{l:List s.T}{cs:List V}(h:D6 F s l cs):D6 F' s l cs:=⟨h.1,fun i hi=>(h.2 i hi).mono hF⟩
theorem D6.ok{F:Fz}{s:Sh}{l:List s.T}{cs:List V}(h:D6 F s l cs):∀v∈cs,v.ok=true:=by
 intro v hv;obtain⟨k,hk⟩:=List.mem_iff_getElem?.1 hv;have hkl:=(zq.1 hk).1;have hsz:0<s.sz:=by
  rcases Nat.eq_zero_or_pos s.sz with e|e
  ·rw[h.1,e,Nat.mul_zero]at hkl;omega
  ·exact e
 have hi:k/s.sz<l.length:=Nat.div_lt_of_lt_mul (by rw[Nat.mul_comm, <-h.1];exact hkl);refine(h.2 _ hi).ok v ?_;refine List.mem_iff_getElem?.2 ⟨k % s.sz,?_⟩;rw[ze (Nat.mod_lt _ hsz),zl,show k/s.sz*s.sz+k % s.sz=k from by rw[Nat.mul_comm];exact Nat.div_add_mod _ _];exact hk
def DV(F:Fz)(s:Sh)(x:s.T)(v:V):Prop:=(s.P5=true->∃cs,v=.agg cs/\DC F s x cs)/\(s.P5=false->DC F s x [v])
theorem DV.mono(hF:∀b cs,F b=some cs->F' b=some cs){s:Sh}{x:s.T}{v:V}(h:DV F s x v):DV F' s x v:=
 ⟨fun e=>by obtain⟨cs,h1,h2⟩:=h.1 e;exact⟨cs,h1,h2.mono hF⟩,fun e=>(h.2 e).mono hF⟩
inductive MR (F:Fz) (ks vs:Sh):List (ks.T×vs.T)->List (V×V×Nat)->Prop where
 |nil:MR F ks vs [] []
 |cons {k:ks.T} {v:vs.T} {l:List (ks.T×vs.T)} {a b:V} {n:Nat} {es:List (V×V×Nat)}:DV F ks k a->DV F vs v b->MR F ks vs l es->MR F ks vs ((k,v)::l) ((a,b,n)::es)
theorem MR.mono(hF:∀b cs,F b=some cs->F' b=some cs){ks vs:Sh}{l:List (ks.T×vs.T)}{es:List (V×V×Nat)}(h:MR F ks vs l es):MR F' ks vs l es:=by
 induction h with
 |nil=>exact .nil
 |cons h1 h2 _ ih=>exact .cons (h1.mono hF) (h2.mono hF) ih
def Ss(sl:List (Nat×PV))(t:Nat):PV:=((E7 sl).get t).getD .any
def LpR:LpS->LoopState->Option Code->Prop
 | .ready,st,pe=>st=.ready/\pe=none
 | .busy,st,_=>st=.busy
 | .ret,st,pe=>st=.done/\pe=some .ret
 | .exit i,st,pe=>st=.done/\pe=some (.exit i)
def Xp(F:Fz)(ρ:D9)(N n:Nat):Obj->O->Prop
 | .arr _ e s l,o=>∃cs fz,o=.cells cs e fz/\D6 F s l cs/\fz.2<=fz.1/\l.length=n
 | .box ps,o=>∃cs t fz,o=.cells cs t fz/\Ba F ρ N ps cs/\fz.2<=fz.1/\∀v∈cs,v.ok=true
 | .tbox t ps,o=>∃cs fz,o=.cells cs t fz/\Ba F ρ N ps cs/\fz.2<=fz.1/\∀v∈cs,v.ok=true
 | .map ks vs l,o=>∃es clk,o=.map es clk/\MR F ks vs l es
 | .siter s pos,o=>o=.siter s pos
 | .lp _ _ ps asg body s n' sl,o=>∃ls,o=.loop ls/\ls.ps=ps/\ls.asg=asg/\ls.body=body/\LpR s ls.st ls.pend/\ls.fr.n=n'/\∀t,PR F ρ N (Ss sl t) (ls.fr.get t)
theorem Xp.mono(hl:Le F ρ N F' ρ' N'){n:Nat}{x:Obj}{o:O}(h:Xp F ρ N n x o):Xp F' ρ' N' n x o:=by
 cases x with
 |arr fz e s l=>obtain⟨cs,f,h1,h2,h3⟩:=h;exact⟨cs,f,h1,h2.mono hl.fz,h3⟩
 |box ps=>obtain⟨cs,t,f,h1,h2,h3⟩:=h;exact⟨cs,t,f,h1,h2.mono hl,h3⟩
 |tbox t ps=>obtain⟨cs,f,h1,h2,h3⟩:=h;exact⟨cs,f,h1,h2.mono hl,h3⟩
 |map ks vs l=>obtain⟨es,clk,h1,h2⟩:=h;exact⟨es,clk,h1,h2.mono hl.fz⟩
 |siter s pos=>exact h
 |lp f r ps asg body s n sl=>obtain⟨ls,h1,h2,h3,h4,h5,h6,h7⟩:=h;exact⟨ls,h1,h2,h3,h4,h5,h6,fun t=>(h7 t).mono hl⟩
def Obj.frozen:Obj->Bool
 | .arr fz _ _ _=>fz
 |_=>false
structure H0 where
 h:H
 F:Fz
 pin:List Nat
 ex:Nat->Prop:=fun _=>False
def H0.pins(h0:H0)(ps:List Nat):H0:={ h0 with pin:=ps++h0.pin }
def H0.Zq(h0:H0)(B b:Nat):Prop:=B<=b\/h0.ex b
theorem NC{h0:H0}{B b c:Nat}(h:h0.Zq B b)(hc:c<B)(he:¬h0.ex c):c≠b:=by
 rintro rfl;rcases h with h|h
 ·omega
 ·exact he h
structure SR(B:Nat)(h0:H0)(F:Fz)(ρ:D9)(N:Nat)(ob:Ob)(h:H):Prop where
 obj:∀id o,AL ob id=some o->∃b n x,ρ id=some (b,n)/\h.get b=some x/\Xp F ρ N n o x/\(o.frozen=false->F b=none)/\
  (o.frozen=true->∃cs t fz,x=.cells cs t fz/\F b=some cs)
 inj:∀id id' o o' b n n',AL ob id=some o->AL ob id'=some o'->ρ id=some (b,n)->ρ id'=some (b,n')->id=id'
 frz:∀b cs,F b=some cs->∃t fz,h.get b=some (.cells cs t fz)
 own:∀id b n,ρ id=some (b,n)->id<N/\h0.Zq B b
 dead:∀id,AL ob id=none->ρ id=none
 old:∀b,b<B->¬h0.ex b->h.get b=h0.h.get b
 lt:∀b o,h.get b=some o->b<h.nx
 le:B<=h.nx
 fo:∀b cs,F b=some cs->h0.F b=some cs\/h0.Zq B b
 gl:∀x∈F4,x.1<B/\¬h0.ex x.1/\h0.h.get x.1=some x.2
 pn:∀b∈h0.pin,h.get b=some (.defd true)/\B<=b/\∀id n,ρ id≠some (b,n)
structure FP(F:Fz)(ρ:D9)(N:Nat)(st:AI)(fr:Fr):Prop where
 n:st.n=fr.n
 slot:∀t,PR F ρ N (st.get t) (fr.get t)
theorem FP.mono(hl:Le F ρ N F' ρ' N'){st:AI}{fr:Fr}(h:FP F ρ N st fr):FP F' ρ' N' st fr:=⟨h.n,fun t=>(h.slot t).mono hl⟩
end
section
variable {B:Nat}{h0:H0}{F:Fz}{ρ:D9}{N:Nat}
mutual
theorem XK:∀ {v:Value} {p:PV},MW v=some p->∃x,cv v=some x/\PR F ρ N p x
 | .bool b,p,h=>by simp[MW]at h;subst h;exact⟨_,rfl,by simp[PR]⟩
 | .int k n,p,h=>by simp[MW]at h;subst h;exact⟨_,rfl,by simp[PR,DC]⟩
 | .string s,p,h=>by simp[MW]at h;subst h;exact⟨_,rfl,by simp[PR,DC]⟩
 | .pointer none,p,h=>by simp[MW]at h;subst h;exact⟨_,rfl,by simp[PR]⟩
 | .pointer (some a),p,h=>by simp[MW]at h
 | .slice none 0 0,p,h=>by simp[MW]at h;subst h;exact⟨_,rfl,by simp[PR]⟩
 | .slice none 0 (_+1),p,h=>by simp[MW]at h
 | .slice none (_+1) _,p,h=>by simp[MW]at h
 | .slice (some a) _ _,p,h=>by simp[MW]at h
 | .map none,p,h=>by simp[MW]at h;subst h;exact⟨_,rfl,by simp[PR]⟩
 | .map (some a),p,h=>by simp[MW]at h
 | .nilFunc,p,h=>by simp[MW]at h;subst h;exact⟨_,rfl,by simp[PR]⟩
 | .nilIface,p,h=>by simp[MW]at h;subst h;exact⟨_,rfl,by simp[PR]⟩
 | .func f ⟨[]⟩ ⟨[]⟩,p,h=>by simp[MW]at h;subst h;exact⟨_,rfl,by simp[PR]⟩
 | .func f ⟨_::_⟩ _,p,h=>by simp[MW]at h
 | .func f ⟨[]⟩ ⟨_::_⟩,p,h=>by simp[MW]at h
 | .agg ⟨cs⟩,p,h=>by
  simp only[MW,zo]at h;obtain⟨xs,h1,rfl⟩:=h;obtain⟨ys,h2,h3⟩:=P2 h1;exact⟨.agg ys,by simp[cv,h2],by simp only[PR];exact⟨ys,rfl,h3⟩⟩
 | .tuple ⟨cs⟩,p,h=>by
  simp only[MW,zo]at h;obtain⟨xs,h1,rfl⟩:=h;obtain⟨ys,h2,h3⟩:=P2 h1;exact⟨.tup ys,by simp[cv,h2],by simp only[PR];exact⟨ys,rfl,h3⟩⟩
 | .float _ _,p,h=>by simp[MW]at h
 | .complex _ _ _,p,h=>by simp[MW]at h
 | .chan _,p,h=>by simp[MW]at h
 | .iface _ _,p,h=>by simp[MW]at h
theorem P2:∀ {vs:List Value} {ps:List PV},Z4 vs=some ps->∃xs,sQ vs=some xs/\Ba F ρ N ps xs
 |[],ps,h=>by simp[Z4]at h;subst h;exact⟨[],rfl,by simp⟩
 |v::vs,ps,h=>by
  unfold Z4 at h;split at h
  case h_2=>cases h
  rename_i x xs h1 h2;cases h;obtain⟨y,g1,g2⟩:=XK h1;obtain⟨ys,g3,g4⟩:=P2 h2;exact⟨y::ys,by simp[sQ,g1,g3],by simp[g2,g4]⟩
end
theorem mP(v:V):PR F ρ N (V7 v) v:=by
 cases v<;>simp[V7,PR,DC]
theorem Ea:∀vs:List V,Ba F ρ N (vs.map V7) vs
 |[]=>by simp
 |v::vs=>by simp only[List.map_cons,A1];exact⟨mP v,Ea vs⟩
variable {C:Ctx}{st st':AI}{fr:Fr}{h:H}
theorem B4(hf:FP F ρ N st fr){x:Operand}{p:PV}(hd:Qe st x=some p):∃v,ev C fr x=some v/\PR F ρ N p v:=by
 cases x with
 |tmp t=>simp only[Qe,zj]at hd;subst hd;exact⟨_,rfl,hf.slot t⟩
 |const v=>exact XK hd
 |global g=>simp[Qe]at hd
 |func f=>simp only[Qe,zj]at hd;subst hd;exact⟨_,rfl,by simp[PR]⟩
theorem EU(hf:FP F ρ N st fr):∀ {xs:List Operand} {ps:List PV},LC st xs=some ps->∃vs,Ql C fr xs=some vs/\Ba F ρ N ps vs
 |[],ps,hd=>by simp[LC]at hd;subst hd;exact⟨[],rfl,by simp⟩
 |x::xs,ps,hd=>by
  unfold LC at hd;split at hd
  case h_2=>cases hd
  rename_i v vs h1 h2;cases hd;obtain⟨y,g1,g2⟩:=B4 (C:=C) hf h1;obtain⟨ys,g3,g4⟩:=EU hf h2;exact⟨y::ys,by simp[Ql,g1,g3],by simp[g2,g4]⟩
inductive wB (F:Fz) (ρ:D9) (N:Nat):List (Nat×PV)->List (Nat×V)->Prop
 |nil:wB F ρ N [] []
 |cons {i:Nat} {p:PV} {v:V} {l:List (Nat×PV)} {l':List (Nat×V)}:PR F ρ N p v->wB F ρ N l l'->wB F ρ N ((i,p)::l) ((i,v)::l')
theorem OW(hf:FP F ρ N st fr):∀ {xs:List (Nat×Operand)} {ps:List (Nat×PV)},ZT st xs=some ps->∃vs,VG C fr xs=some vs/\wB F ρ N ps vs
 |[],ps,hd=>by simp[ZT]at hd;subst hd;exact⟨[],rfl,.nil⟩
 |(i,x)::xs,ps,hd=>by
  unfold ZT at hd;split at hd
  case h_2=>cases hd
  rename_i v vs h1 h2;cases hd;obtain⟨y,g1,g2⟩:=B4 (C:=C) hf h1;obtain⟨ys,g3,g4⟩:=OW hf h2;exact⟨(i,y)::ys,by simp[VG,g1,g3],.cons g2 g4⟩
structure Rel(B:Nat)(h0:H0)(F:Fz)(ρ:D9)(st:AI)(fr:Fr)(h:H):Prop where
 fp:FP F ρ st.nx st fr
 sr:SR B h0 F ρ st.nx st.ob h
inductive PO.To:PO->PV->AI->Prop
 |val {v:PV} {st:AI}:PO.To (.val v st) v st
 |tt {a b:PO} {v:PV} {st:AI}:PO.To a v st->PO.To (.ite true a b) v st
 |ff {a b:PO} {v:PV} {st:AI}:PO.To b v st->PO.To (.ite false a b) v st
@[simp] theorem Ly{v:PV}{s:AI}:¬PO.To .bad v s:=by intro h;cases h
@[simp] theorem AP{v u:PV}{s t:AI}:PO.To (.val v s) u t↔v=u/\s=t:=by
 constructor
 ·intro h;cases h;exact⟨rfl,rfl⟩
 ·rintro⟨rfl,rfl⟩;exact .val
@[simp] theorem BI{c:Bool}{v u:PV}{s t:AI}:PO.To (.FT c v s) u t↔c=true/\v=u/\s=t:=by
 constructor
 ·intro h;unfold PO.FT at h;cases h with
  |tt h=>cases h;exact⟨rfl,rfl,rfl⟩
  |ff h=>cases h
 ·rintro⟨rfl,rfl,rfl⟩;exact .tt .val
@[simp] theorem Ki{o:Option PV}{u:PV}{s t:AI}:PO.To (ov s o) u t↔o=some u/\s=t:=by
 cases o with
 |none=>simp[ov]
 |some v=>simp only[ov,AP,zj]
@[simp] theorem N4{c:Bool}{o:Option PV}{u:PV}{s t:AI}:PO.To (xF c s o) u t↔c=true/\o=some u/\s=t:=by
 cases o with
 |none=>simp[xF]
 |some v=>simp only[xF,BI,zj]
def OK(B:Nat)(h0:H0)(F:Fz)(ρ:D9)(st:AI)(h:H)(tch:List Nat)(d:Option OR)(v:PV)(st':AI):Prop:=
 ∃v' h' F' ρ',(d=some (.val v' h')\/(d=some (.skip h')/\v'=.tup []))/\PR F' ρ' st'.nx v v'/\SR B h0 F' ρ' st'.nx st'.ob h'/\Le F ρ st.nx F' ρ' st'.nx/\
  st'.fr=st.fr/\st'.n=st.n/\h.nx<=h'.nx/\∀b,b<h.nx->h'.get b=h.get b\/∃id∈tch,∃n,ρ id=some (b,n)
theorem OK.pure{tch:List Nat}(hr:SR B h0 F ρ st.nx st.ob h){d:Option OR}{v:PV}{v':V}(hd:d=some (.val v' h))(hv:PR F ρ st.nx v v'):OK B h0 F ρ st h tch d v st:=
 ⟨v',h,F,ρ,.inl hd,hv,hr,Le.refl,rfl,rfl,jf _,fun _ _=>.inl rfl⟩
theorem LM{α:Type}(n:Nat)(l:List α):Det.HK n l=l.drop n:=GR n l
theorem rd_some{h:H}{b off n:Nat}{cs:List V}{t:TypeId}{fz:Nat×Nat}(hg:h.get b=some (.cells cs t fz))(hl:off+n<=cs.length)(hk:∀v∈(cs.drop off).take n,v.ok=true):rd h b off n=some ((cs.drop off).take n):=by
 rw[Yf];unfold xE;rw[hg];simp only;rw[wd ⟨hl,xk.2 hk⟩]
theorem Kg{d:TypeDesc}{n:Nat}{ps:List PV}{cs:List V}(hp:Ba F ρ N ps cs){p:PV}(hd:pick d n ps=some p):
  (DW d=true/\0<n/\n<=cs.length/\PR F ρ N p (.agg (cs.take n)))\/(DW d=false/\∃v vs,cs=v::vs/\PR F ρ N p v):=by
 unfold pick at hd;cases ha:DW d with
 |true=>
  left;simp only[ha,we]at hd;rw[Cj,GQ]at hd;cases hb:(zu n ps.length&&kf 0 n)with
  |false=>rw[hb]at hd;cases hd
  |true=>
   rw[hb]at hd;simp only[we,zj]at hd;subst hd;simp only[zg]at hb;obtain⟨hb,hb2⟩:=hb;refine⟨rfl,zd hb2,by rw[<-hp.len];exact zd hb,?_⟩;simp only[PR];exact⟨_,rfl,hp.take n⟩
 |false=>
  right;simp only[ha,wg]at hd;cases ps with
  |nil=>cases hd
  |cons q qs=>
   cases hd;simp only[Ba]at hp;obtain⟨v,vs,rfl,h1,_⟩:=hp;exact⟨rfl,v,vs,rfl,h1⟩
theorem CX:∀ {s:Sh} {x:s.T} {cs:List V},DC F s x cs->Ba F ρ N (flat s x) cs
 | .pair a b,(x,y),cs,h=>by
  simp only[DC]at h;obtain⟨c,d,rfl,h1,h2⟩:=h;exact(CX h1).append (CX h2)
 | .unit,_,cs,h=>by simp only[DC]at h;subst h;simp[flat]
 | .int k,x,cs,h=>by simp only[DC]at h;subst h;simp only[flat,A1,B3,wn];simp[PR,DC]
 | .bool,x,cs,h=>by simp only[DC]at h;subst h;simp only[flat,A1,B3,wn];simp[PR,DC]
 | .str,x,cs,h=>by simp only[DC]at h;subst h;simp only[flat,A1,B3,wn];simp[PR,DC]
 | .list s,x,cs,h=>by
  have h':=h;simp only[DC]at h;obtain⟨v,rfl,_⟩:=h;simp only[flat,A1,B3,wn,PR];exact h'
 | .fnv,x,cs,h=>by simp only[DC]at h;subst h;simp only[flat,A1,B3,wn];cases (x:Option Fn)<;>simp[PR]
 | .nlist s,x,cs,h=>by
  have h':=h;simp only[DC]at h;obtain⟨v,rfl,_⟩:=h;simp only[flat,A1,B3,wn,PR];exact h'
theorem FB{α:Type}(l:List α)(a b:Nat):l.drop (a+b)=(l.drop a).drop b:=by rw[List.drop_drop]
theorem GH{T:BW}{t:TypeId}{d:TypeDesc}{i:TI}(hd:T.und t=some d)(hi:T.inf t=some i){b off:Nat}{cs:List V}{te:TypeId}{fz:Nat×Nat}(hg:h.get b=some (.cells cs te fz))
  {m:Nat} (hok:∀v∈(cs.drop off).take m,v.ok=true) {ps:List PV} (hp:Ba F ρ N ps ((cs.drop off).take m)) {p:PV} (hpk:pick d i.size ps=some p):∃v,EK T h t (.ptr b off)=some v/\PR F ρ N p v:=by
 unfold EK;simp only[hd,hi];have hlen:((cs.drop off).take m).length<=cs.length-off:=by simp;omega
 have hoff:off<=cs.length:=by
  have:0<((cs.drop off).take m).length:=by
   rcases Kg hp hpk with⟨_,h0,hn,_⟩|⟨_,v,vs,e,_⟩
   ·omega
   ·rw[e];simp
  simp at this;omega
 rcases Kg hp hpk with⟨ha,_,hn,hv⟩|⟨ha,v,vs,hcs,hv⟩
 ·simp only[ha,we];have:(cs.drop off).take i.size=((cs.drop off).take m).take i.size:=by
   rw[List.take_take];have:i.size<=m:=by
    have:=hn;simp at this;omega
   rw[Nat.min_eq_left this]
  rw[rd_some hg (by omega) (fun v hv=>hok v (qk (by rwa [this]at hv)))];refine⟨_,rfl,?_⟩;rw[this];exact hv
 ·simp only[ha,wg];have h1:off+1<=cs.length:=by
   have:((cs.drop off).take m).length=vs.length+1:=by rw[hcs];rfl
   omega
  have h2:(cs.drop off).take 1=[v]:=by
   have:m≠0:=by rintro rfl;simp at hcs
   obtain⟨k,rfl⟩:=Nat.exists_eq_succ_of_ne_zero this;cases hc:cs.drop off with
   |nil=>rw[hc]at hcs;simp at hcs
   |cons a Abz=>rw[hc]at hcs;simp only[List.take_succ_cons,List.cons.injEq]at hcs;simp[hcs.1]
  rw[rd_some hg h1 (fun u hu=>by rw[h2]at hu;cases zf.1 hu;exact hok v (by rw[hcs];simp)),h2];exact⟨v,rfl,hv⟩
end
section
variable {B:Nat}{h0:H0}{F:Fz}{ρ:D9}{N:Nat}{C:Ctx}{st st':AI}{fr:Fr}{h:H}
theorem SR.at(hr:SR B h0 F ρ N st.ob h){id:Nat}{o:Obj}(ho:st.obj id=some o):∃b n x,ρ id=some (b,n)/\h.get b=some x/\Xp F ρ N n o x/\(o.frozen=false->F b=none)/\
  (o.frozen=true->∃cs t fz,x=.cells cs t fz/\F b=some cs):=hr.obj id o ho
theorem N5{s:Sh}{l:List s.T}{cs:List V}(hd:D6 F s l cs)(hs:s.sz=1):∀(n j:Nat),j+n=l.length->Ba F ρ N (ON s l j n) (cs.drop j)
 |0,j,hj=>by
  have:cs.length=l.length:=by rw[hd.1,hs,kx]
  rw[List.drop_eq_nil_of_le (by omega)];unfold ON;simp
 |n+1,j,hj=>by
  have hl:cs.length=l.length:=by rw[hd.1,hs,kx]
  have hjl:j<l.length:=by omega
  have h1:=hd.2 j hjl;rw[hs,kx]at h1;have e:cs.drop j=(cs.drop j).take 1++cs.drop (j+1):=by
   have:=List.take_append_drop 1 (cs.drop j);rw[List.drop_drop]at this;exact this.symm
  unfold ON;rw[e,show l.getD j s.Hd=l[j]from by simp[hjl]];exact(CX h1).append (N5 hd hs n (j+1) (by omega))
theorem gX(hr:SR B h0 F ρ st.nx st.ob h){t:TypeId}{p:PV}{a:V}(ha:PR F ρ st.nx p a){v:PV}(ht:(My C.T st t p).To v st'):
  OK B h0 F ρ st h [] (Bt h (EK C.T h t a)) v st':=by
 unfold My at ht;split at ht
 case h_2=>simp at ht
 rename_i d i hd hi;split at ht
 case h_4=>simp at ht
 case h_1=>
  rename_i id off;split at ht
  case h_4=>simp at ht
  case h_3=>
   rename_i tb ps ho;simp only[Ki]at ht;obtain⟨hpk,rfl⟩:=ht;obtain⟨b,n,x,h1,h2,⟨cs,fz,rfl,h4,_,hbok⟩,_⟩:=hr.at ho;simp only[PR]at ha;obtain rfl:=ha.2 b n h1;rw[LM]at hpk;obtain⟨v',g1,g2⟩:=GH (h:=h) hd hi h2 (m:=cs.length) (fun u hu=>hbok u (yj (qk hu))) (by rw[yr (by simp)];exact h4.drop off) hpk;exact OK.pure hr (by rw[g1];rfl) g2
  case h_2=>
   rename_i fzb e s l ho;cases hsz:(zh off 0&&zh s.sz 1)with
   |false=>rw[hsz]at ht;simp at ht
   |true=>
    rw[hsz]at ht;simp only[we,N4,w5]at ht;obtain⟨hj,hpk,rfl⟩:=ht;rw[zg]at hsz;have h0:=zc hsz.1;have h1s:=zc hsz.2;subst h0;obtain⟨b,n,x,h1,h2,⟨cs,fz,rfl,h4,_⟩,_⟩:=hr.at ho;simp only[PR]at ha;obtain rfl:=ha.2 b n h1;have hp:=N5 (ρ:=ρ) (N:=st.nx) h4 h1s i.size 0 (by omega);obtain⟨v',g1,g2⟩:=GH (h:=h) hd hi h2 (m:=cs.length) (fun u hu=>h4.ok u (yj (qk hu))) (by rw[yr (by simp)];exact hp) hpk;exact OK.pure hr (by rw[g1];rfl) g2
  rename_i ps ho;simp only[Ki]at ht;obtain⟨hpk,rfl⟩:=ht;obtain⟨b,n,x,h1,h2,⟨cs,te,fz,rfl,h4,_,hbok⟩,_⟩:=hr.at ho;simp only[PR]at ha;obtain rfl:=ha.2 b n h1;rw[LM]at hpk;obtain⟨v',g1,g2⟩:=GH (h:=h) hd hi h2 (m:=cs.length) (fun u hu=>hbok u (yj (qk hu))) (by rw[yr (by simp)];exact h4.drop off) hpk;exact OK.pure hr (by rw[g1];rfl) g2
 case h_2=>
  rename_i id sz j off;split at ht
  case h_2=>simp at ht
  rename_i fzb e s l ho;cases hsz:zh sz s.sz with
  |false=>rw[hsz]at ht;simp at ht
  |true=>
   rw[hsz]at ht;simp only[we,N4,w5]at ht;obtain⟨hj,hpk,rfl⟩:=ht;have hsz:=zc hsz;subst hsz;obtain⟨b,n,x,h1,h2,⟨cs,fz,rfl,h4,_⟩,_⟩:=hr.at ho;simp only[PR]at ha;obtain rfl:=ha.2 b n h1;have hdc:=h4.2 j hj;rw[show l.getD j s.Hd=l[j]from by simp[hj],LM]at hpk;have hp:Ba F ρ st.nx ((flat s l[j]).drop off) ((cs.drop (j*s.sz+off)).take (s.sz-off)):=by
    have:=(CX (F:=F) (ρ:=ρ) (N:=st.nx) hdc).drop off;rw[FB, <-kk]at*;exact this
   obtain⟨v',g1,g2⟩:=GH (h:=h) hd hi h2 (fun u hu=>hdc.ok u (yj (i:=off) (by rw[FB, <-kk]at hu;exact hu))) hp hpk;exact OK.pure hr (by rw[g1];rfl) g2
 case h_3=>
  rename_i s x off;simp only[Ki]at ht;obtain⟨hpk,rfl⟩:=ht;simp only[PR]at ha;obtain⟨b,o,cs,rfl,h1,h2,h3⟩:=ha;obtain⟨te,fz,h4⟩:=hr.frz b cs h1;rw[LM]at hpk;have hp:Ba F ρ st.nx ((flat s x).drop off) ((cs.drop (o+off)).take (s.sz-off)):=by
   have:=(CX (F:=F) (ρ:=ρ) (N:=st.nx) h3).drop off;rw[FB, <-kk]at*;exact this
  obtain⟨v',g1,g2⟩:=GH (h:=h) hd hi h4 (fun u hu=>h3.ok u (yj (i:=off) (by rw[FB, <-kk]at hu;exact hu))) hp hpk;exact OK.pure hr (by rw[g1];rfl) g2
theorem DC.SA:∀ {s:Sh} {x:s.T} {cs:List V},DC F s x cs->∀v∈cs,v.one=true
 | .int _,_,_,h=>by simp only[DC]at h;subst h;intro v hv;rw[zf.1 hv];rfl
 | .bool,_,_,h=>by simp only[DC]at h;subst h;intro v hv;rw[zf.1 hv];rfl
 | .str,_,_,h=>by simp only[DC]at h;subst h;intro v hv;rw[zf.1 hv];rfl
 | .list s,l,_,h=>by
  simp only[DC]at h;obtain⟨u,rfl,h⟩:=h;intro v hv;rw[zf.1 hv];rcases h with⟨_,rfl|rfl|rfl⟩|⟨b,off,cap,o,bs,rfl,_⟩<;>rfl
 | .pair a b,x,_,h=>by
  simp only[DC]at h;obtain⟨c,d,rfl,h1,h2⟩:=h;intro v hv;rcases List.mem_append.1 hv with hv|hv
  ·exact h1.SA v hv
  ·exact h2.SA v hv
 | .unit,_,_,h=>by simp only[DC]at h;subst h;intro v hv;cases hv
 | .fnv,x,_,h=>by simp only[DC]at h;subst h;intro v hv;rw[zf.1 hv];cases (x:Option Fn)<;>rfl
 | .nlist s,l,_,h=>by
  simp only[DC]at h;obtain⟨u,rfl,h⟩:=h;intro v hv;rw[zf.1 hv];rcases h with⟨_,rfl⟩|⟨_,b,off,cap,o,bs,rfl,_⟩<;>rfl
theorem HX{o:Option Obj}(h:HU o=true):∃x,o=some x:=by cases o with|none=>cases h|some x=>exact⟨x,rfl⟩
theorem Re(hr:SR B h0 F ρ st.nx st.ob h){p:PV}{v:V}(hs:JE st p=true)(hp:PR F ρ st.nx p v):v.one=true:=by
 have key:∀ {id:Nat},HU (st.obj id)=true->∃b n,ρ id=some (b,n):=by
  intro id hi;obtain⟨o,ho⟩:=HX hi;obtain⟨b,n,_,h1,_⟩:=hr.at ho;exact⟨b,n,h1⟩
 cases p<;>simp only[JE]at hs<;>simp only[PR]at hp<;>try (cases hs;done)
 case bl=>subst hp;rfl
 case dat=>exact hp.SA v (zf.2 rfl)
 case nil|nilp|nilm|nilf|nili=>subst hp;rfl
 case ptr=>obtain⟨b,n,h1⟩:=key hs;rw[hp.2 b n h1];rfl
 case eptr=>obtain⟨b,n,h1⟩:=key hs;rw[hp.2 b n h1];rfl
 case FE=>obtain⟨b,o,cs,rfl,_⟩:=hp;rfl
 case sl=>
  obtain⟨b,n,h1⟩:=key hs;rcases hp.2 b n h1 with⟨_,_,o,_,rfl⟩|⟨_,_,_,rfl|⟨_,rfl,_⟩⟩<;>rfl
 case mp|yl=>obtain⟨b,n,h1⟩:=key hs;rw[hp.2 b n h1];rfl
 case fn=>obtain⟨a,b,rfl,_⟩:=hp;rfl
theorem YQ{v:V}(h:v.one=true):v.cells=[v]:=by cases v<;>first|rfl|cases h
theorem Np(hr:SR B h0 F ρ st.nx st.ob h){p:PV}{v:V}{ps:List PV}(hp:PR F ρ st.nx p v)(hd:xG st p=some ps):Ba F ρ st.nx ps v.cells:=by
 unfold xG at hd;split at hd
 ·cases hd;simp only[PR]at hp;obtain⟨cs,rfl,h1⟩:=hp;exact h1
 ·rename_i q hq;cases hs:JE st p with
  |false=>rw[hs]at hd;cases hd
  |true=>
   rw[hs]at hd;cases hd;rw[YQ (Re hr hs hp)];simpa using hp
theorem J2(hr:SR B h0 F ρ st.nx st.ob h):∀ {ps:List PV} {vs:List V},ps.all (JE st)=true->Ba F ρ st.nx ps vs->vs.all V.one=true
 |[],vs,_,h=>by simp at h;subst h;rfl
 |p::ps,vs,ha,h=>by
  simp only[Ba]at h;obtain⟨v,vs,rfl,h1,h2⟩:=h;simp only[List.all_cons,zg]at ha ⊢;exact⟨Re hr ha.1 h1,J2 hr ha.2 h2⟩
theorem Ba.JF:∀ {a:List PV} {x:List V} {b:List PV} {y:List V},Ba F ρ N a x->Ba F ρ N b y->Ba F ρ N (JF a b) (JF x y)
 |[],x,b,y,h,h'=>by simp at h;subst h;exact h'
 |p::ps,x,b,y,h,h'=>by
  simp only[Ba]at h;obtain⟨v,vs,rfl,h1,h2⟩:=h;cases b with
  |nil=>simp at h';subst h';show Ba F ρ N [] [];simp
  |cons q qs=>
   simp only[Ba]at h';obtain⟨u,us,rfl,g1,g2⟩:=h';show Ba F ρ N (p::Det.JF ps qs) (v::Det.JF vs us);simp only[A1];exact⟨h1,h2.JF g2⟩
theorem Ba.Ct{a:List PV}{x:List V}(ha:Ba F ρ N a x):∀(n:Nat) {b:List PV} {y:List V},Ba F ρ N b y->Ba F ρ N (Ct n a b) (Ct n x y)
 |0,b,y,h=>ha.JF h
 |n+1,[],y,h=>by simp at h;subst h;show Ba F ρ N [] [];simp
 |n+1,q::qs,y,h=>by
  simp only[Ba]at h;obtain⟨u,us,rfl,g1,g2⟩:=h;show Ba F ρ N (q::xz n a qs) (u::xz n x us);simp only[A1];exact⟨g1,Ba.Ct ha n g2⟩
theorem GL:∀(l:Ob) (i:Nat) (x:Obj) (j:Nat),(AL l i).isSome=true->AL (Dx l i x) j=if j=i then some x else AL l j
 |[],i,x,j,h=>by cases h
 |(a,o)::l,i,x,j,h=>by
  simp only[Dx,AL,Bm]at h ⊢;by_cases e:a=i
  ·subst e;simp only[decide_true,we,AL,Bm];by_cases e2:a=j
   ·subst e2;simp
   ·rw[wc (fun h=>e2 h.symm)];simp[e2]
  ·simp only[e,decide_false,wg]at h ⊢;simp only[AL,Bm];by_cases e2:a=j
   ·subst e2;simp[e]
   ·simp only[e2,decide_false,wg];exact GL l i x j h
theorem MB{b off:Nat}{vs cs:List V}{t:TypeId}{fz:Nat×Nat}(hg:h.get b=some (.cells cs t fz))(hl:off+vs.length<=cs.length)(hfz:fz.2<=fz.1)(ho:vs.all V.one=true):
  wr h b off vs=some (h.put b (.cells (Ct off vs cs) t fz)):=by
 unfold wr;simp only[hg,Cj,Fg,ho];have h1:zu (kg off vs.length) cs.length=true:=Nat.ble_eq_true_of_le hl;have h2:Det.clear fz off vs.length=true:=by
  unfold Det.clear;rw[show zu fz.2 fz.1=true from Nat.ble_eq_true_of_le hfz,Bool.or_true]
 rw[h1,h2];rfl
theorem SR.set(hr:SR B h0 F ρ st.nx st.ob h){id b n:Nat}{o o':Obj}{x x':O}(ho:st.obj id=some o)(hb:ρ id=some (b,n))(hg:h.get b=some x)(hf:o.frozen=false)(hf':o'.frozen=false)
  (hx:Xp F ρ st.nx n o' x'):SR B h0 F ρ st.nx (Dx st.ob id o') (h.put b x'):=by
 have hob:AL st.ob id=some o:=ho;have hFb:F b=none:=by
  obtain⟨b',n',_,h1,_,_,h2,_⟩:=hr.at ho;rw[hb]at h1;cases h1;exact h2 hf
 have hset:∀j,AL (Dx st.ob id o') j=if j=id then some o' else AL st.ob j:=fun j=>GL _ _ _ _ (by rw[hob];rfl)
 refine⟨fun j oj hj=>?_,fun i j oi oj c m m' hi hj h1 h2=>?_,fun c cs hc=>?_,hr.own,fun j hj=>?_,fun c hc he=>?_,fun c oc hc=>?_,hr.le,hr.fo,hr.gl,fun c hc=>?_⟩
 ·rw[hset]at hj;by_cases e:j=id
  ·subst e;simp only[wk,zj]at hj;subst hj;exact⟨b,n,x',hb,by simp,hx,fun _=>hFb,fun e=>by rw[hf']at e;cases e⟩
  ·rw[wc e]at hj;obtain⟨c,m,y,h1,h2,h3,h4,h5⟩:=hr.obj j oj hj;have hne:c≠b:=fun ec=>e (hr.inj j id oj o c m n hj hob h1 (ec▸hb))
   exact⟨c,m,y,h1,by rw[H.A8,wc hne];exact h2,h3,h4,h5⟩
 ·have get':∀k ok,AL (Dx st.ob id o') k=some ok->∃o2,AL st.ob k=some o2:=by
   intro k ok hk;rw[hset]at hk;by_cases e:k=id
   ·exact⟨o,e▸hob⟩
   ·rw[wc e]at hk;exact⟨ok,hk⟩
  obtain⟨_,g1⟩:=get' i oi hi;obtain⟨_,g2⟩:=get' j oj hj;exact hr.inj i j _ _ c m m' g1 g2 h1 h2
 ·have hne:c≠b:=fun e=>by rw[e,hFb]at hc;cases hc
  rw[H.A8,wc hne];exact hr.frz c cs hc
 ·rw[hset]at hj;by_cases e:j=id
  ·rw[wd e]at hj;cases hj
  ·rw[wc e]at hj;exact hr.dead j hj
 ·have hne:c≠b:=NC (hr.own id b n hb).2 hc he;rw[H.A8,wc hne];exact hr.old c hc he
 ·rw[H.A8]at hc;by_cases e:c=b
  ·subst e;exact hr.lt _ _ hg
  ·rw[wc e]at hc;exact hr.lt c oc hc
 ·obtain⟨g1,g2,g3⟩:=hr.pn c hc;have hne:c≠b:=fun e=>g3 id n (e▸hb)
  exact⟨by rw[H.A8,wc hne];exact g1,g2,g3⟩
def BK(ρ:D9)(i:Nat)(x:Option (Nat×Nat)):D9:=fun j=>if j=i then x else ρ j
theorem Le.Ni(i:Nat):Le F ρ N F (BK ρ i none) N:=⟨fun _ _ h=>h,fun id _=>by unfold BK;split<;>simp_all,jf _⟩
theorem Le.new(x:Nat×Nat):Le F ρ N F (BK ρ N (some x)) (N+1):=⟨fun _ _ h=>h,fun id h=>by unfold BK;rw[wc (by omega)];exact .inl rfl,Nat.le_succ _⟩
theorem SR.push{ob:Ob}(hr:SR B h0 F ρ N ob h){o:Obj}{x:O}{n:Nat}(hf:o.frozen=false)(hx:Xp F (BK ρ N (some (h.nx,n))) (N+1) n o x):
  SR B h0 F (BK ρ N (some (h.nx,n))) (N+1) ((N,o)::ob) (h.push x):=by
 have hl:Le F ρ N F (BK ρ N (some (h.nx,n))) (N+1):=Le.new _;have hget:∀j,AL ((N,o)::ob) j=if j=N then some o else AL ob j:=by
  intro j;simp only[AL,Bm];by_cases e:N=j
  ·subst e;simp
  ·rw[wc (fun h=>e h.symm)];simp[e]
 have hlt:∀id b m,ρ id=some (b,m)->id<N:=fun id b m hb=>(hr.own id b m hb).1
 have hnew:∀b y,h.get b=some y->b≠h.nx:=fun b y hb=>by have:=hr.lt b y hb;omega
 refine⟨fun j oj hj=>?_,fun i j oi oj c m m' hi hj h1 h2=>?_,fun c cs hc=>?_,fun id b m hb=>?_,fun j hj=>?_,fun c hc he=>?_,fun c oc hc=>?_,?_,?_,hr.gl,fun c hc=>?_⟩
 ·rw[hget]at hj;by_cases e:j=N
  ·subst e;simp only[wk,zj]at hj;subst hj;refine⟨h.nx,n,x,by simp[BK],by simp,hx,fun _=>?_,fun e=>by rw[hf]at e;cases e⟩;cases hc:F h.nx with
   |none=>rfl
   |some cs=>
    obtain⟨t,fz,hg⟩:=hr.frz _ _ hc;exact wh rfl (hnew _ _ hg)
  ·rw[wc e]at hj;obtain⟨c,m,y,h1,h2,h3,h4,h5⟩:=hr.obj j oj hj;exact⟨c,m,y,by simp[BK,e,h1],by rw[H.BH,wc (hnew c y h2)];exact h2,h3.mono hl,h4,h5⟩
 ·rw[hget]at hi hj;have key:∀k ok m,(if k=N then some o else AL ob k)=some ok->BK ρ N (some (h.nx,n)) k=some (c,m)->(k=N/\c=h.nx)\/(k≠N/\AL ob k=some ok/\ρ k=some (c,m)/\c≠h.nx):=by
   intro k ok m hk hr';by_cases e:k=N
   ·subst e;simp[BK]at hr';exact .inl ⟨rfl,hr'.1.symm⟩
   ·rw[wc e]at hk;simp only[BK,e,ve]at hr';obtain⟨c',m',y,g1,g2,_⟩:=hr.obj k ok hk;rw[hr']at g1;cases g1;exact .inr ⟨e,hk,hr',hnew c y g2⟩
  rcases key i oi m hi h1 with⟨e1,e2⟩|⟨e1,e2,e3,e4⟩<;>rcases key j oj m' hj h2 with⟨f1,f2⟩|⟨f1,f2,f3,f4⟩
  ·rw[e1,f1]
  ·exact wh e2 f4
  ·exact wh f2 e4
  ·exact hr.inj i j oi oj c m m' e2 f2 e3 f3
 ·obtain⟨t,fz,hg⟩:=hr.frz c cs hc;exact⟨t,fz,by rw[H.BH,wc (hnew c _ hg)];exact hg⟩
 ·unfold BK at hb;split at hb
  ·rename_i e;cases hb;subst e;exact⟨Nat.lt_succ_self _,.inl hr.le⟩
  ·have:=hr.own id b m hb;exact⟨by omega,this.2⟩
 ·rw[hget]at hj;by_cases e:j=N
  ·rw[wd e]at hj;cases hj
  ·rw[wc e]at hj;simp[BK,e,hr.dead j hj]
 ·have:=hr.le;rw[H.BH,wc (by omega)];exact hr.old c hc he
 ·rw[H.BH]at hc;by_cases e:c=h.nx
  ·subst e;exact Nat.lt_succ_self _
  ·rw[wc e]at hc;have:=hr.lt c oc hc;show c<h.nx+1;omega
 ·have:=hr.le;show B<=h.nx+1;omega
 ·exact hr.fo
 ·obtain⟨g1,g2,g3⟩:=hr.pn c hc;have hne:=hnew c _ g1;refine⟨by rw[H.BH,wc hne];exact g1,g2,fun id m e=>?_⟩;unfold BK at e;split at e
  ·cases e;exact hne rfl
  ·exact g3 id m e
theorem D4:∀(l:Ob) (i j:Nat),AL (Gj l i) j=if j=i then none else AL l j
 |[],i,j=>by simp[Gj,AL]
 |(a,o)::l,i,j=>by
  simp only[Gj,Bm];by_cases e:a=i
  ·subst e;simp only[decide_true,we];rw[D4 l a j];simp only[AL,Bm];by_cases e2:j=a
   ·simp[e2]
   ·rw[wc e2];have e3:¬a=j:=fun h=>e2 h.symm
    simp[e3,e2]
  ·simp only[e,decide_false,wg,AL,Bm];rw[D4 l i j];by_cases e2:a=j
   ·subst e2;simp[e]
   ·simp[e2]
theorem SR.del{ob:Ob}(hr:SR B h0 F ρ N ob h)(id:Nat):SR B h0 F (BK ρ id none) N (Gj ob id) h:=by
 have hl:Le F ρ N F (BK ρ id none) N:=Le.Ni id;refine⟨fun j oj hj=>?_,fun i j oi oj c m m' hi hj h1 h2=>?_,hr.frz,fun j b m hb=>?_,fun j hj=>?_,hr.old,hr.lt,hr.le,hr.fo,hr.gl,fun c hc=>?_⟩
 ·rw[D4]at hj;split at hj
  ·cases hj
  ·rename_i e;obtain⟨c,m,y,h1,h2,h3,h4⟩:=hr.obj j oj hj;exact⟨c,m,y,by simp[BK,e,h1],h2,h3.mono hl,h4⟩
 ·rw[D4]at hi hj;split at hi
  ·cases hi
  split at hj
  ·cases hj
  rename_i e1 e2;simp only[BK,e1,e2,ve]at h1 h2;exact hr.inj i j oi oj c m m' hi hj h1 h2
 ·unfold BK at hb;split at hb
  ·cases hb
  ·exact hr.own j b m hb
 ·rw[D4]at hj;unfold BK;split
  ·rfl
  ·rename_i e;rw[wc e]at hj;exact hr.dead j hj
 ·obtain⟨g1,g2,g3⟩:=hr.pn c hc;refine⟨g1,g2,fun j m e=>?_⟩;unfold BK at e;split at e
  ·cases e
  ·exact g3 j m e
theorem SR.kill{ob:Ob}(hr:SR B h0 F ρ N ob h){b:Nat}(h1:∀id o n,AL ob id=some o->ρ id≠some (b,n))(h2:F b=none)(h3:h0.Zq B b)(h4:b∉h0.pin):SR B h0 F ρ N ob (h.kill b):=by
 refine⟨fun j oj hj=>?_,hr.inj,fun c cs hc=>?_,hr.own,hr.dead,fun c hc he=>?_,fun c oc hc=>?_,hr.le,hr.fo,hr.gl,fun c hc=>?_⟩
 ·obtain⟨c,m,y,g1,g2,g3⟩:=hr.obj j oj hj;have:c≠b:=fun e=>h1 j oj m hj (e▸g1)
  exact⟨c,m,y,g1,by rw[H.B2,wc this];exact g2,g3⟩
 ·have:c≠b:=fun e=>by rw[e,h2]at hc;cases hc
  rw[H.B2,wc this];exact hr.frz c cs hc
 ·have:c≠b:=NC h3 hc he;rw[H.B2,wc this];exact hr.old c hc he
 ·rw[H.B2]at hc;split at hc
  ·cases hc
  ·exact hr.lt c oc hc
 ·obtain⟨g1,g2,g3⟩:=hr.pn c hc;have hne:c≠b:=fun e=>h4 (e▸hc)
  exact⟨by rw[H.B2,wc hne];exact g1,g2,g3⟩
theorem CF{s s':Sh}{x:s.T}{y:s'.T}(h:DZ s s' x=some y):∃e:s=s',e▸x=y:=by
 unfold DZ at h;split at h
 ·rename_i e;cases h;exact⟨e,rfl⟩
 ·cases h
theorem Hx{s:Sh}{p:PV}{x:s.T}{v:V}(hp:PR F ρ N p v)(hd:qZ s p=some x):DC F s x [v]:=by
 unfold qZ at hd;split at hd
 ·obtain⟨rfl,rfl⟩:=CF hd;simpa only[PR]using hp
 ·obtain⟨rfl,rfl⟩:=CF hd;simp only[PR]at hp;subst hp;simp[DC]
 ·obtain⟨rfl,rfl⟩:=CF hd;simp only[PR,B3]at hp;obtain⟨_,_,rfl,rfl,rfl⟩:=hp;simp[DC]
 ·obtain⟨rfl,rfl⟩:=CF hd;simp only[PR]at hp;subst hp;simp[DC]
 ·split at hd
  ·cases hd;simp only[PR]at hp;subst hp;simp[DC]
  ·cases hd;simp only[PR]at hp;subst hp;simp[DC]
  ·cases hd
 ·cases hd
theorem Hz:∀ {s:Sh} {ps:List PV} {vs:List V} {x:s.T} {rest:List PV},Ba F ρ N ps vs->Cy s ps=some (x,rest)->∃a b,vs=a++b/\DC F s x a/\Ba F ρ N rest b
 | .pair s t,ps,vs,x,rest,hp,hd=>by
  unfold Cy at hd;split at hd
  case h_2=>cases hd
  rename_i y l1 h1;split at hd
  case h_2=>cases hd
  rename_i z l2 h2;cases hd;obtain⟨a,b,rfl,g1,g2⟩:=Hz hp h1;obtain⟨c,d,rfl,g3,g4⟩:=Hz g2 h2;exact⟨a++c,d,by simp,by simp only[DC];exact⟨a,c,rfl,g1,g3⟩,g4⟩
 | .unit,ps,vs,x,rest,hp,hd=>by
  unfold Cy at hd;cases hd;exact⟨[],vs,rfl,by simp[DC],hp⟩
 | .int k,[],vs,x,rest,hp,hd=>by simp[Cy]at hd
 | .bool,[],vs,x,rest,hp,hd=>by simp[Cy]at hd
 | .str,[],vs,x,rest,hp,hd=>by simp[Cy]at hd
 | .list s,[],vs,x,rest,hp,hd=>by simp[Cy]at hd
 | .nlist s,[],vs,x,rest,hp,hd=>by simp[Cy]at hd
 | .fnv,[],vs,x,rest,hp,hd=>by simp[Cy]at hd
 | .int k,p::ps,vs,x,rest,hp,hd=>by
  simp only[Ba]at hp;obtain⟨v,vs,rfl,h1,h2⟩:=hp;simp only[Cy]at hd;split at hd
  ·rename_i y hy;cases hd;exact⟨[v],vs,rfl,Hx h1 hy,h2⟩
  ·cases hd
 | .bool,p::ps,vs,x,rest,hp,hd=>by
  simp only[Ba]at hp;obtain⟨v,vs,rfl,h1,h2⟩:=hp;simp only[Cy]at hd;split at hd
  ·rename_i y hy;cases hd;exact⟨[v],vs,rfl,Hx h1 hy,h2⟩
  ·cases hd
 | .str,p::ps,vs,x,rest,hp,hd=>by
  simp only[Ba]at hp;obtain⟨v,vs,rfl,h1,h2⟩:=hp;simp only[Cy]at hd;split at hd
  ·rename_i y hy;cases hd;exact⟨[v],vs,rfl,Hx h1 hy,h2⟩
  ·cases hd
 | .list s,p::ps,vs,x,rest,hp,hd=>by
  simp only[Ba]at hp;obtain⟨v,vs,rfl,h1,h2⟩:=hp;simp only[Cy]at hd;split at hd
  ·rename_i y hy;cases hd;exact⟨[v],vs,rfl,Hx h1 hy,h2⟩
  ·cases hd
 | .fnv,p::ps,vs,x,rest,hp,hd=>by
  simp only[Ba]at hp;obtain⟨v,vs,rfl,h1,h2⟩:=hp;simp only[Cy]at hd;split at hd
  ·rename_i y hy;cases hd;exact⟨[v],vs,rfl,Hx h1 hy,h2⟩
  ·cases hd
 | .nlist s,p::ps,vs,x,rest,hp,hd=>by
  simp only[Ba]at hp;obtain⟨v,vs,rfl,h1,h2⟩:=hp;simp only[Cy]at hd;split at hd
  ·rename_i y hy;cases hd;exact⟨[v],vs,rfl,Hx h1 hy,h2⟩
  ·cases hd
theorem CQ{s:Sh}{ps:List PV}{vs:List V}{x:s.T}(hp:Ba F ρ N ps vs)(hd:C3 s ps=some x):DC F s x vs:=by
 unfold C3 at hd;split at hd
 ·rename_i y hy;cases hd;obtain⟨a,b,rfl,h1,h2⟩:=Hz hp hy;simp at h2;subst h2;simpa using h1
 ·cases hd
theorem UC{v:V}:∀(vs cs:List V) (off:Nat),v∈Gt cs off vs->v∈vs\/v∈cs
 |[],cs,off,h=>.inr h
 |u::vs,cs,off,h=>by
  have h:v∈Gt (cs.set off u) (off+1) vs:=h;rcases UC vs _ _ h with h|h
  ·exact .inl (List.mem_cons_of_mem _ h)
  ·rcases List.mem_or_eq_of_mem_set h with h|h
   ·exact .inr h
   ·exact .inl (by simp[h])
theorem TF{v:V}{vs cs:List V}{off:Nat}(h:v∈xz off vs cs):v∈vs\/v∈cs:=by
 rw[IN]at h;exact UC _ _ _ h
theorem GI{cs vs:List V}{off:Nat}(hl:off+vs.length<=cs.length)(j:Nat):(Ct off vs cs)[j]?=if off<=j/\j<off+vs.length then vs[j-off]? else cs[j]?:=by
 rw[IN];exact OY vs cs off j hl
theorem jT{cs vs:List V}{off:Nat}:(Ct off vs cs).length=cs.length:=by
 rw[IN];exact Gc vs cs off
theorem uS{cs vs:List V}{m off k:Nat}(hk:off+vs.length<=k)(hl:m+k<=cs.length):((Ct (m+off) vs cs).drop m).take k=Ct off vs ((cs.drop m).take k):=by
 apply ky;intro j;rw[GI (by simp;omega)];by_cases hj:j<k
 ·rw[ze hj,zl,GI (by omega)];by_cases hc:off<=j/\j<off+vs.length
  ·rw[wd hc,wd (by omega)];congr 1;omega
  ·rw[wc hc,wc (by omega),ze hj,zl]
 ·rw[wc (by omega),zr (by simp;omega),zr (by simp;omega)]
theorem lD{cs vs:List V}{m p k:Nat}(hd:p+vs.length<=m\/m+k<=p)(hl:p+vs.length<=cs.length):((Ct p vs cs).drop m).take k=(cs.drop m).take k:=by
 apply ky;intro j;by_cases hj:j<k
 ·rw[ze hj,ze hj,zl,zl,GI hl,wc (by omega)]
 ·rw[zr (by simp;omega),zr (by simp;omega)]
theorem D6.set{s:Sh}{l:List s.T}{cs vs:List V}{j off:Nat}{y:s.T}(hd:D6 F s l cs)(hj:j<l.length)(hoff:off+vs.length<=s.sz)(hy:DC F s y (Ct off vs ((cs.drop (j*s.sz)).take s.sz))):
  D6 F s (l.set j y) (Ct (j*s.sz+off) vs cs):=by
 have hb:j*s.sz+s.sz<=cs.length:=by
  rw[hd.1, <-qn];exact ql _ hj
 refine⟨by rw[jT,List.length_set];exact hd.1,fun i hi=>?_⟩;have hi':i<l.length:=by simpa using hi
 by_cases e:i=j
 ·subst e;rw[uS hoff hb,List.getElem_set_self];exact hy
 ·rw[List.getElem_set_ne (fun h=>e h.symm),lD ?_ (by omega)]
  ·exact hd.2 i hi'
  ·rcases Nat.lt_or_gt_of_ne e with h1|h1
   ·right;have:(i+1)*s.sz<=j*s.sz:=ql _ h1;rw[qn]at this;omega
   ·left;have:(j+1)*s.sz<=i*s.sz:=ql _ h1;rw[qn]at this;omega
theorem Jk{s:Sh}:∀ {n:Nat} {ps:List PV} {vs:List V} {l:List s.T},Ba F ρ N ps vs->chunk s n ps=some l->vs.length=n*s.sz->l.length=n/\D6 F s l vs
 |0,ps,vs,l,hp,hd,hn=>by
  cases hd;simp at hn;subst hn;exact⟨rfl,by simp[D6]⟩
 |n+1,ps,vs,l,hp,hd,hn=>by
  unfold chunk at hd;split at hd
  case h_2=>cases hd
  rename_i x rest hx;rw[zo]at hd;obtain⟨l',h1,rfl⟩:=hd;obtain⟨a,b,rfl,h2,h3⟩:=Hz hp hx;have ha:=h2.len;have hb:b.length=n*s.sz:=by rw[yc,ha,qn]at hn;omega
  obtain⟨g1,g2⟩:=Jk h3 h1 hb;refine⟨by simp[g1],by rw[yc,ha,hb,List.length_cons,g1,qn];omega,fun i hi=>?_⟩;cases i with
  |zero=>
   simp only[Nat.zero_mul,List.drop_zero,List.getElem_cons_zero];rw[<-ha,List.take_left];exact h2
  |succ i=>
   simp only[List.getElem_cons_succ];have hi':i<l'.length:=by simpa using hi
   have:=g2.2 i hi';have e:(a++b).drop ((i+1)*s.sz)=b.drop (i*s.sz):=by
    rw[qn,Nat.add_comm,FB, <-ha,List.drop_left]
   rw[e];exact this
theorem kC{cs xs:List V}(h:xs.length=cs.length):xz 0 xs cs=xs:=by
 apply ky;intro j;rw[GI (by omega)];by_cases hj:j<xs.length
 ·rw[wd (by omega)];rfl
 ·rw[wc (by omega),zr (by omega),zr (by omega)]
theorem kZ(hr:SR B h0 F ρ st.nx st.ob h){t:TypeId}{p q:PV}{a x:V}(ha:PR F ρ st.nx p a)(hx:PR F ρ st.nx q x){v:PV}(ht:(Vo C.T st t p q).To v st'):
  ∃id,((∃off,p=.ptr id off)\/∃sz j off,p=.eptr id sz j off)/\OK B h0 F ρ st h [id] (fI (Hw C.T h t a x)) v st':=by
 unfold Vo at ht;split at ht
 case h_2=>simp at ht
 rename_i i xs hi hxs;cases hc:(zh (Det.Dj xs) i.size&&Det.Lj (JE st) xs)with
 |false=>rw[hc]at ht;simp at ht
 |true=>
  rw[hc]at ht;simp only[zg]at hc;obtain⟨hc1,hc2⟩:=hc;rw[Cj]at hc1;rw[Fg]at hc2;have hxs':=Np hr hx hxs;have hlen:x.cells.length=i.size:=by rw[<-hxs'.len];exact zc hc1
  have hone:=J2 hr hc2 hxs';have hb1:zh x.cells.length i.size=true:=by rw[hlen];exact Nat.beq_refl _
  simp only[we]at ht;split at ht
  case h_3=>simp at ht
  case h_1=>
   rename_i id off;split at ht
   case h_4=>exact wh ht (by simp)
   case h_3=>
    rename_i tb ps ho;cases hble:zu (kg off i.size) (Det.Dj ps)with
    |false=>rw[hble]at ht;simp at ht
    |true=>
     rw[hble]at ht;simp only[we,AP]at ht;obtain⟨rfl,rfl⟩:=ht;obtain⟨b,n,y,h1,h2,⟨cs,fz,rfl,h4,h5,hbok⟩,hf,_⟩:=hr.at ho;simp only[PR]at ha;obtain rfl:=ha.2 b n h1;rw[Cj]at hble;have hle:off+x.cells.length<=cs.length:=by rw[<-h4.len,hlen];exact zd hble
     refine⟨id,.inl ⟨off,rfl⟩,.tup [],_,F,ρ,.inr ⟨?_,rfl⟩,by simp[PR],hr.set ho h1 h2 rfl rfl (o':=.tbox tb (xz off xs ps)) ⟨_,fz,rfl,hxs'.Ct off h4,h5,fun u hu=>(TF hu).elim (fun hu=>V.Ml (xk.1 hone u hu)) (hbok u)⟩,Le.refl,rfl,rfl,jf _,fun c _=>?_⟩
     ·unfold Hw;simp only[hi,hb1,we];rw[MB h2 hle h5 hone];rfl
     ·rw[H.A8];by_cases e:c=b
      ·exact .inr ⟨id,zf.2 rfl,n,e▸h1⟩
      ·rw[wc e];exact .inl rfl
   case h_2=>
    rename_i e s l ho;cases hcc:(zh off 0&&zh s.sz 1)with
    |false=>rw[hcc]at ht;simp at ht
    |true=>
     rw[hcc]at ht;rw[zg]at hcc;have hoff:=zc hcc.1;have hs1:=zc hcc.2;subst hoff;simp only[we]at ht;split at ht
     case h_2=>exact wh ht (by simp)
     rename_i y hy;simp only[BI,w5]at ht;obtain⟨hj,rfl,rfl⟩:=ht;obtain⟨b,n,z,h1,h2,⟨cs,fz,rfl,h4,h5,h6⟩,hf,_⟩:=hr.at ho;simp only[PR]at ha;obtain rfl:=ha.2 b n h1;have hcl:cs.length=x.cells.length:=by rw[h4.1,hs1,kx,hlen];exact hj
     obtain⟨k1,k2⟩:=Jk hxs' hy (by rw[hs1,kx];exact hlen);have hle:0+x.cells.length<=cs.length:=by omega
     refine⟨id,.inl ⟨0,rfl⟩,.tup [],_,F,ρ,.inr ⟨?_,rfl⟩,by simp[PR],hr.set ho h1 h2 rfl rfl (o':=.arr false e s y) ⟨xz 0 x.cells cs,fz,rfl,by rw[kC hcl.symm];exact k2,h5,by omega⟩,Le.refl,rfl,rfl,jf _,fun c _=>?_⟩
     ·unfold Hw;simp only[hi,hb1,we];rw[MB h2 hle h5 hone];rfl
     ·rw[H.A8];by_cases e:c=b
      ·exact .inr ⟨id,zf.2 rfl,n,e▸h1⟩
      ·rw[wc e];exact .inl rfl
   rename_i ps ho;cases hble:zu (kg off i.size) (Det.Dj ps)with
   |false=>rw[hble]at ht;simp at ht
   |true=>
    rw[hble]at ht;simp only[we,AP]at ht;obtain⟨rfl,rfl⟩:=ht;obtain⟨b,n,y,h1,h2,⟨cs,te,fz,rfl,h4,h5,hbok⟩,hf,_⟩:=hr.at ho;simp only[PR]at ha;obtain rfl:=ha.2 b n h1;rw[Cj]at hble;have hle:off+x.cells.length<=cs.length:=by rw[<-h4.len,hlen];exact zd hble
    refine⟨id,.inl ⟨off,rfl⟩,.tup [],_,F,ρ,.inr ⟨?_,rfl⟩,by simp[PR],hr.set ho h1 h2 rfl rfl (o':=.box (xz off xs ps)) ⟨_,te,fz,rfl,hxs'.Ct off h4,h5,fun u hu=>(TF hu).elim (fun hu=>V.Ml (xk.1 hone u hu)) (hbok u)⟩,Le.refl,rfl,rfl,jf _,fun c _=>?_⟩
    ·unfold Hw;simp only[hi,hb1,we];rw[MB h2 hle h5 hone];rfl
    ·rw[H.A8];by_cases e:c=b
     ·exact .inr ⟨id,zf.2 rfl,n,e▸h1⟩
     ·rw[wc e];exact .inl rfl
  case h_2=>
   rename_i id sz j off;split at ht
   case h_2=>simp at ht
   rename_i e s l ho;cases hcc:(zh sz s.sz&&zu (kg off i.size) sz)with
   |false=>rw[hcc]at ht;simp at ht
   |true=>
    rw[hcc]at ht;simp only[zg]at hcc;have hsz:=zc hcc.1;have hoff:=zd hcc.2;subst hsz;simp only[we]at ht;split at ht
    case h_2=>simp at ht
    rename_i y hy;simp only[BI,w5]at ht;obtain⟨hj,rfl,rfl⟩:=ht;obtain⟨b,n,z,h1,h2,⟨cs,fz,rfl,h4,h5,h6⟩,hf,_⟩:=hr.at ho;simp only[PR]at ha;obtain rfl:=ha.2 b n h1;rw[show l.getD j s.Hd=l[j]from by simp[hj]]at hy;have hfl:=CX (F:=F) (ρ:=ρ) (N:=st.nx) (h4.2 j hj);have hdc:=CQ (hxs'.Ct off hfl) hy;have hset:=D6.set h4 hj (by rw[hlen];exact hoff) hdc;have hle:j*s.sz+off+x.cells.length<=cs.length:=by
     have:j*s.sz+s.sz<=cs.length:=by rw[h4.1, <-qn];exact ql _ hj
     have:off+i.size<=s.sz:=hoff;omega
    refine⟨id,.inr ⟨_,_,_,rfl⟩,.tup [],_,F,ρ,.inr ⟨?_,rfl⟩,by simp[PR],hr.set ho h1 h2 rfl rfl (o':=.arr false e s (l.set j y)) ⟨_,fz,rfl,hset,h5,by simpa using h6⟩,Le.refl,rfl,rfl,jf _,fun c _=>?_⟩
    ·unfold Hw;simp only[hi,hb1,we];rw[MB h2 hle h5 hone];rfl
    ·rw[H.A8];by_cases e:c=b
     ·exact .inr ⟨id,zf.2 rfl,n,e▸h1⟩
     ·rw[wc e];exact .inl rfl
theorem CG{k:IntKind}{n:Int}{v:V}(h:PR F ρ N (.dat (.int k) n) v):v=.int k n:=by simpa [PR,DC]using h
theorem EZ{s:List UInt8}{v:V}(h:PR F ρ N (.dat .str s) v):v=.str s:=by simpa [PR,DC]using h
theorem HC{b:Bool}{v:V}(h:PR F ρ N (.dat .bool b) v):v=.bool b:=by simpa [PR,DC]using h
theorem NI{b:Bool}{v:V}(h:PR F ρ N (.bl b) v):v=.bool b:=by simpa [PR]using h
theorem C8(k:IntKind)(n:Int):PR F ρ N (.dat (.int k) n) (.int k n):=by simp[PR,DC]
theorem JV(s:List UInt8):PR F ρ N (.dat .str s) (.str s):=by simp[PR,DC]
theorem DN(b:Bool):PR F ρ N (.dat .bool b) (.bool b):=by simp[PR,DC]
theorem Iw(b:Bool):PR F ρ N (.bl b) (.bool b):=by simp[PR]
theorem Ha{p:PV}{b:Bool}{v:V}(h:IX p=some b)(hp:PR F ρ N p v):v=.bool b:=by
 unfold IX at h;split at h
 ·cases h;exact NI hp
 ·cases h;exact HC hp
 ·cases h
theorem yB(hr:SR B h0 F ρ st.nx st.ob h){op:BinOp}{k:IntKind}{a b:Int}{v:PV}(ht:(tO op k a b st).To v st'):OK B h0 F ρ st h [] (Bt h (Pg op k a b)) v st':=by
 unfold tO at ht;split at ht<;>simp only[Ly,AP,BI,w5,wm]at ht
 all_goals first
  |(obtain⟨rfl,rfl⟩:=ht;exact OK.pure hr rfl (C8 _ _))
  |(obtain⟨rfl,rfl⟩:=ht;exact OK.pure hr rfl (DN _))
  |(obtain⟨hb,rfl,rfl⟩:=ht;exact OK.pure hr (by simp only[Pg,hb,ve,Bt]) (C8 _ _))
theorem AaO(hr:SR B h0 F ρ st.nx st.ob h){op:BinOp}{k:IntKind}{a b:Int}{v:PV}(ht:(psh op k a b st).To v st'):OK B h0 F ρ st h [] (Bt h (Zz op k a b)) v st':=by
 unfold psh at ht;split at ht<;>simp only[Ly,BI,w5]at ht
 all_goals
  obtain⟨hb,rfl,rfl⟩:=ht;exact OK.pure hr (by simp only[Zz,Int.not_lt.2 hb,ve,Bt]) (C8 _ _)
theorem xO(hr:SR B h0 F ρ st.nx st.ob h){op:BinOp}{x y:List UInt8}{v:PV}(ht:(sT op x y st).To v st'):OK B h0 F ρ st h [] (Bt h (U7 op x y)) v st':=by
 unfold sT at ht;split at ht<;>simp only[Ly,AP,BI,w5]at ht
 all_goals first
  |(obtain⟨rfl,rfl⟩:=ht;exact OK.pure hr rfl (DN _))
  |(obtain⟨hb,rfl,rfl⟩:=ht;exact OK.pure hr (by simp only[U7,hb,wk,Bt]) (JV _))
end
end Go.Pe
