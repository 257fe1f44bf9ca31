import Derived.Test.YtknhdhchejmpgaaGreatDoorX04
import Derived.Test.YtknhdhchejmpgaaGreatDoorX05
import Derived.Shelf.Strings.OnBuilder
import Derived.Shelf.Strconv.Itoa3
import Derived.Lib.LaidTab
import Derived.Test.YtknhdhchejmpgaaGreatDoorX06
import Derived.Shelf.Strings.Repeat
import Derived.Lib.AppendIntMem
/- A part of a proof (no law is stated here). Made by program out of texts by AI agents. -/
noncomputable section
open Nat renaming eq_of_beq_eq_true -> zc, le_of_ble_eq_true -> zh, beq -> zj, lt_of_lt_of_le -> zq, ble -> zr, mul_le_mul_right -> yf, succ_mul -> yi, le_refl -> yv, blt -> qf, add -> je, mul_one -> jt
open Bool renaming and_eq_true -> ze
open List renaming mem_singleton -> zg, getElem?_take_of_lt -> zk, getElem?_eq_none -> zn, getElem?_drop -> zp, mem_of_mem_drop -> zt, take_of_length_le -> zu, mem_of_mem_take -> ye, getElem?_eq_some_iff -> yo, length_append -> jj, drop_take -> jk, ext_getElem? -> jz, getElem?_eq_getElem -> kg, all_eq_true -> ku, length_map -> xf
open Option renaming map_eq_some_iff -> zl
open Option.some renaming injEq -> zm
open Go.Proofs.Tryz renaming prog -> zo, underlying220 -> zw, underlying20 -> zy, zeroValue220 -> zz, underlying0 -> z7, underlying3 -> z8, underlying4 -> ya, underlying9 -> yb, zeroValue20 -> yc, underlying5 -> yg, zeroValue0 -> yj, zeroValue3 -> yk, zeroValue4 -> ym, zeroValue9 -> yn, sizeOf220 -> yp, underlying292 -> yq, sizeOf20 -> yr, isAgg220 -> yt, sizeOf0 -> yw, sizeOf3 -> yx, sizeOf4 -> yy, sizeOf9 -> yz, isAgg20 -> y7, isAgg0 -> y8, isAgg3 -> y9, isAgg4 -> qc, isAgg9 -> qd, underlying9 -> qe, underlying219 -> qg, underlying222 -> qh, underlying225 -> qi, underlying226 -> qj, underlying262 -> qk, underlying296 -> ql, underlying216 -> qm, underlying259 -> qn, underlying130 -> qo, zeroValue5 -> qp, prog -> qq, zeroValue219 -> qt, zeroValue222 -> qu, zeroValue225 -> qv, zeroValue226 -> qw, zeroValue262 -> qx, zeroValue296 -> qy, zeroValue216 -> qz, zeroValue259 -> q9, zeroValue130 -> jc, underlying5 -> jf, underlying130 -> jh, underlying220 -> ji, zeroValue5 -> jl, zeroValue130 -> jm, sizeOf219 -> j0, sizeOf222 -> j5, sizeOf225 -> j6, sizeOf226 -> j7, sizeOf262 -> j8, sizeOf296 -> j9, sizeOf216 -> kc, sizeOf259 -> ke, sizeOf130 -> kf, isAgg219 -> kh, isAgg222 -> ki, isAgg225 -> kj, isAgg226 -> kk, isAgg262 -> km, isAgg296 -> ko, isAgg216 -> kp, isAgg259 -> kq, isAgg130 -> kr, func194 -> kx, func195 -> ky, func196 -> kz, func235 -> k9, func236 -> xa, func283 -> xb, func284 -> xc, sizeOf5 -> xd, sizeOf5 -> xe
open Go.Lib renaming decDigits -> zx, nDigits -> yu, zeros24 -> jo
open Array renaming size_replicate -> yd, toList_inj -> yh, getElem?_append_left -> jg
open Go.Value renaming int -> xg
open Go.Shelf renaming Ren -> xh
open Go.Det.V renaming ok -> xi
open Go.Det renaming Ck -> xj
namespace Go.Det
open Go.Proofs
def MF:xh:=⟨fun|156=>126|165=>194|166=>195|169=>196|240=>235|241=>236|276=>283|277=>284|n=>n,fun|31=>150|9=>9|3=>3|4=>4|0=>0|20=>20|72=>222|76=>226|70=>219|37=>220|75=>225|127=>262|164=>296|5=>5|80=>228|n=>n,fun|n=>n⟩
theorem WR:Go.Proofs.Lays.n156 qq MF:=
  { mixed:=by kernel_rfl,
    f156:=Go.Proofs.Tryz.func126.trans (wi some (by kernel_rfl)),
    f165:=kx.trans (wi some (by kernel_rfl)),
    f166:=ky.trans (wi some (by kernel_rfl)),
    f169:=kz.trans (wi some (by kernel_rfl)),
    f240:=k9.trans (wi some (by kernel_rfl)),
    f241:=xa.trans (wi some (by kernel_rfl)),
    f276:=xb.trans (wi some (by kernel_rfl)),
    f277:=xc.trans (wi some (by kernel_rfl)),
    t0:=z7,
    a0:=y8,
    z0:=yw,
    v0:=yj,
    t3:=z8,
    a3:=y9,
    z3:=yx,
    v3:=yk,
    t4:=ya,
    a4:=qc,
    z4:=yy,
    v4:=ym,
    t9:=yb,
    a9:=qd,
    z9:=yz,
    v9:=yn,
    t20:=zy,
    a20:=y7,
    z20:=yr,
    v20:=yc,
    t31:=Go.Proofs.Tryz.underlying150,
    a31:=Go.Proofs.Tryz.isAgg150,
    z31:=Go.Proofs.Tryz.sizeOf150,
    v31:=Go.Proofs.Tryz.zeroValue150,
    t37:=zw,
    a37:=yt,
    z37:=yp,
    v37:=zz,
    t70:=qg,
    a70:=kh,
    z70:=j0,
    v70:=qt,
    t72:=qh,
    a72:=ki,
    z72:=j5,
    v72:=qu,
    t75:=qi,
    a75:=kj,
    z75:=j6,
    v75:=qv,
    t76:=qj,
    a76:=kk,
    z76:=j7,
    v76:=qw,
    t127:=qk,
    a127:=km,
    z127:=j8,
    v127:=qx,
    t164:=ql,
    a164:=ko,
    z164:=j9,
    v164:=qy }
def F7:xh:=⟨fun|171=>124|243=>192|246=>233|283=>279|284=>280|285=>281|286=>282|129=>247|317=>310|318=>311|319=>312|320=>313|337=>324|338=>325|n=>n,fun|3=>3|9=>9|2=>2|4=>4|171=>292|0=>0|53=>130|37=>220|5=>5|173=>294|212=>317|51=>259|20=>20|213=>318|46=>216|232=>338|233=>339|n=>n,fun|17=>3|18=>8|19=>9|n=>n⟩
theorem Hl:Go.Proofs.LaysM.n171 qq F7:=
  { mixed:=by kernel_rfl,
    f129:=Go.Proofs.Tryz.func247.trans (wi some (by kernel_rfl)),
    f171:=Go.Proofs.Tryz.func124.trans (wi some (by kernel_rfl)),
    f243:=Go.Proofs.Tryz.func192.trans (wi some (by kernel_rfl)),
    f246:=Go.Proofs.Tryz.func233.trans (wi some (by kernel_rfl)),
    f283:=Go.Proofs.Tryz.func279.trans (wi some (by kernel_rfl)),
    f284:=Go.Proofs.Tryz.func280.trans (wi some (by kernel_rfl)),
    f285:=Go.Proofs.Tryz.func281.trans (wi some (by kernel_rfl)),
    f286:=Go.Proofs.Tryz.func282.trans (wi some (by kernel_rfl)),
    f317:=Go.Proofs.Tryz.func310.trans (wi some (by kernel_rfl)),
    f318:=Go.Proofs.Tryz.func311.trans (wi some (by kernel_rfl)),
    f319:=Go.Proofs.Tryz.func312.trans (wi some (by kernel_rfl)),
    f320:=Go.Proofs.Tryz.func313.trans (wi some (by kernel_rfl)),
    f337:=Go.Proofs.Tryz.func324.trans (wi some (by kernel_rfl)),
    f338:=Go.Proofs.Tryz.func325.trans (wi some (by kernel_rfl)),
    t0:=z7,
    a0:=y8,
    z0:=yw,
    v0:=yj,
    t2:=Go.Proofs.Tryz.underlying2,
    a2:=Go.Proofs.Tryz.isAgg2,
    z2:=Go.Proofs.Tryz.sizeOf2,
    v2:=Go.Proofs.Tryz.zeroValue2,
    t3:=z8,
    a3:=y9,
    z3:=yx,
    v3:=yk,
    t4:=ya,
    a4:=qc,
    z4:=yy,
    v4:=ym,
    t5:=jf,
    a5:=Go.Proofs.Tryz.isAgg5,
    z5:=xd,
    v5:=jl,
    t9:=yb,
    a9:=qd,
    z9:=yz,
    v9:=yn,
    t20:=zy,
    a20:=y7,
    z20:=yr,
    v20:=yc,
    t37:=zw,
    a37:=yt,
    z37:=yp,
    v37:=zz,
    t46:=qm,
    a46:=kp,
    z46:=kc,
    v46:=qz,
    t51:=qn,
    a51:=kq,
    z51:=ke,
    v51:=q9,
    t53:=qo,
    a53:=kr,
    z53:=kf,
    v53:=jc,
    t171:=Go.Proofs.Tryz.underlying292,
    a171:=Go.Proofs.Tryz.isAgg292,
    z171:=Go.Proofs.Tryz.sizeOf292,
    v171:=Go.Proofs.Tryz.zeroValue292,
    t173:=Go.Proofs.Tryz.underlying294,
    a173:=Go.Proofs.Tryz.isAgg294,
    z173:=Go.Proofs.Tryz.sizeOf294,
    v173:=Go.Proofs.Tryz.zeroValue294,
    t212:=Go.Proofs.Tryz.underlying317,
    a212:=Go.Proofs.Tryz.isAgg317,
    z212:=Go.Proofs.Tryz.sizeOf317,
    v212:=Go.Proofs.Tryz.zeroValue317,
    t213:=Go.Proofs.Tryz.underlying318,
    a213:=Go.Proofs.Tryz.isAgg318,
    z213:=Go.Proofs.Tryz.sizeOf318,
    t232:=Go.Proofs.Tryz.underlying338,
    a232:=Go.Proofs.Tryz.isAgg338,
    z232:=Go.Proofs.Tryz.sizeOf338,
    v232:=Go.Proofs.Tryz.zeroValue338,
    t233:=Go.Proofs.Tryz.underlying339,
    a233:=Go.Proofs.Tryz.isAgg339,
    z233:=Go.Proofs.Tryz.sizeOf339,
    v233:=Go.Proofs.Tryz.zeroValue339,
    g17:=by kernel_rfl,
    g18:=by kernel_rfl,
    g19:=by kernel_rfl,
    i0:=by kernel_rfl,
    i2:=by kernel_rfl,
    i3:=by kernel_rfl,
    i4:=by kernel_rfl,
    i5:=by kernel_rfl,
    i9:=by kernel_rfl,
    i20:=by kernel_rfl,
    i37:=by kernel_rfl,
    i46:=by kernel_rfl,
    i51:=by kernel_rfl,
    i53:=by kernel_rfl,
    i171:=by kernel_rfl,
    i173:=by kernel_rfl,
    i212:=by kernel_rfl,
    i232:=by kernel_rfl,
    i233:=by kernel_rfl,
    m17:=by kernel_rfl,
    m18:=by kernel_rfl,
    m19:=by kernel_rfl }
theorem qJ:Builder.Extra zo MF:=
  { sizeBuilder:=by kernel_rfl,liesBuilder:=by kernel_rfl,t5:=yg,a5:=Tryz.isAgg5,z5:=xe,v5:=qp,infoByte:=by kernel_rfl,cellsByte:=by kernel_rfl,sizeByte:=by kernel_rfl,neB5:=by decide }
open Go.Proofs.Tryz (prog)
def Ra:List V->Option (List (List UInt8))
  |[]=>some []
  | .str s::l=>(Ra l).map (s:: ·)
  |_=>none
def qT:List V->H->Option (V×H)
  |[.nils,.str _],h=>some (.str [],h)
  |[.sl b off len _ _,.str sep],h=>match h.get b with
    |some (.cells cs _ _)=>match Ra (Ub len (H5 off cs))with
      |some xs=>bif zj (DB xs) len&&(zr len 140737488355328&&zr (DB (Lib.join xs sep)) 140737488355328)then some (.str (Lib.join xs sep),h)else none
      |none=>none
    |_=>none
  |_,_=>none
theorem PB:∀ {l:List V} {xs:List (List UInt8)},Ra l=some xs->∀(j:Nat) x,xs[j]?=some x->l[j]?=some (.str x)
  |[],xs,h,j,x,hx=>by cases h;simp at hx
  | .str s::l,xs,h,j,x,hx=>by
    simp only[Ra,zl]at h
    obtain⟨ys,h1,rfl⟩:=h
    cases j with
    |zero=>simp at hx;subst hx;rfl
    |succ j=>simp at hx;simpa using PB h1 j x hx
  | .bool _::_,_,h,_,_,_| .int _ _::_,_,h,_,_,_| .nilp::_,_,h,_,_,_| .ptr _ _::_,_,h,_,_,_| .nils::_,_,h,_,_,_| .sl _ _ _ _ _::_,_,h,_,_,_| .esl::_,_,h,_,_,_| .es0::_,_,h,_,_,_
  | .junk::_,_,h,_,_,_| .nilm::_,_,h,_,_,_| .map _::_,_,h,_,_,_| .fn _ _ _::_,_,h,_,_,_| .yld _::_,_,h,_,_,_| .nilf::_,_,h,_,_,_| .iface _ _::_,_,h,_,_,_| .nili::_,_,h,_,_,_| .agg _::_,_,h,_,_,_| .tup _::_,_,h,_,_,_=>by cases h
theorem Hp(s:List UInt8):(bytesOf s).data.toList=s:=by simp[bytesOf]
theorem QS(xs:List (List UInt8)):(xs.map bytesOf).map (·.data.toList)=xs:=by
  rw[List.map_map]
  conv=>rhs;rw[<-List.map_id xs]
  exact List.map_congr_left fun x _=>Hp x
def XT:U1:=fun f=>bif zj f 126 then some qT else none
theorem Th:JT prog XT:=by
  intro f q hq p h w args args' v h' hr _ ha hd
  unfold XT at hq
  cases hf:zj f 126 with
  |false=>rw[hf]at hq;cases hq
  |true=>
    rw[hf]at hq;cases hq
    cases zc hf
    unfold qT at hd
    split at hd
    case h_3=>cases hd
    case h_1=>
      rename_i sep
      cases hd
      obtain⟨x,y,hl,h1,h2⟩:=ha.two
      have:args'= #[x,y]:=yh.1 hl
      subst this
      simp only[Ac]at h1 h2;subst h1 h2
      refine(Any.strings_Join_none WR qJ none 0 (bytesOf sep) w).mono ?_
      rintro e w' ⟨rfl,rfl⟩
      exact⟨_,p,rfl,by simp[Ac,bytesOf],Ext.refl hr⟩
    case h_2=>
      rename_i b off len cap o sep
      split at hd
      case h_2=>cases hd
      rename_i cs t fz hg
      split at hd
      case h_2=>cases hd
      rename_i xs hxs
      cases hb:(zj (DB xs) len&&(zr len 140737488355328&&zr (DB (Lib.join xs sep)) 140737488355328))with
      |false=>rw[hb]at hd;cases hd
      |true=>
        rw[hb]at hd;cases hd
        simp only[ze]at hb
        obtain⟨hb1,hb2,hb3⟩:=hb
        have hb1:=zc hb1
        have hb2:=zh hb2
        have hb3:=zh hb3
        rw[Cy]at hb1 hb3
        obtain⟨x,y,hl,h1,h2⟩:=ha.two
        have:args'= #[x,y]:=yh.1 hl
        subst this
        simp only[Ac]at h1 h2;subst h2
        obtain⟨r,n,c,k1,rfl,k3,k4,_,_⟩:=h1
        obtain⟨r',n',ob,g1,g2,g3⟩:=hr.obj b _ hg
        rw[k1]at g1;cases g1
        simp only[GB]at g3
        obtain⟨ca,fz',rfl,_,g5,g6,_⟩:=g3
        have hcells:∀(j:Nat) x,(xs.map bytesOf)[j]?=some x->w.cell? ⟨r,off+j,none⟩=some (.string x):=by
          intro j x hx
          rw[List.getElem?_map,zl]at hx
          obtain⟨s,hs,rfl⟩:=hx
          have h3:=PB hxs j s hs
          rw[Kw,Kv]at h3
          have hj:j<len:=by
            have:=(yo.1 h3).1
            simp at this;omega
          rw[zk hj,zp]at h3
          have hlt:=(yo.1 h3).1
          have hlen:=g6.1
          have hlt2:off+j<(ca.toList.take cs.length).length:=by omega
          have h4:=g6.2 (off+j) _ _ h3 (kg hlt2) rfl
          simp only[Ac]at h4
          have h5:ca[off+j]?=some (.string (bytesOf s)):=by
            rw[<-h4]
            rw[List.getElem_take, <-Array.getElem?_toList]
            exact kg _
          unfold World.cell?
          rw[g2]
          exact h5
        have hJ:=Any.strings_Join WR qJ r off c (xs.map bytesOf) (bytesOf sep) w hcells (Array.getElem?_eq_some_iff.1 g2).1 (by rw[xf];omega) (by rw[xf];omega) (by rw[QS,Hp];exact hb3)
        rw[xf,hb1,QS,Hp]at hJ
        refine hJ.mono ?_
        rintro e w' ⟨rfl,hbw⟩
        exact⟨_,p,rfl,by simp[Ac,bytesOf],IT hr hbw⟩
end Go.Det
namespace Go.Det
section
open Go.Proofs.Tryz (prog)
def yU:Ctx:=Xq C7 (pQ XT S72)
theorem tS:yU.Ok prog:=Td Yk (Lz Th uQ)
theorem Zy:Ga yU:=Mx Kn _
def A7:GX:=[(17,[],.bool true)]
theorem uO:BV yU 1000 A7=true:=by kernel_rfl
theorem spA:JT prog (GA A7):=R1 tS Zy Sb uO
end
open Go.Proofs
open Go.Proofs.Tryz (prog)
def sY:List V->List Int->Bool
 |[],[]=>true
 | .int .u64 n::l,m::r=>bif decide (n=m)then sY l r else false
 |_,_=>false
theorem WU{p:Pl}:∀ {cs:List V} {r:List Int} {vs:List Value},sY cs r=true->As p cs vs->vs=r.map fun z=>xg .u64 z
 |[],[],vs,_,h=>by simpa using h
 | .int .u64 n::l,m::r,vs,he,h=>by
  unfold sY at he;cases hd:decide (n=m)with
  |false=>rw[hd]at he;cases he
  |true=>
   rw[hd]at he;have e:=w6 hd;subst e;cases vs with
   |nil=>simp at h
   |cons v vs=>
    simp only[Bd,Ac]at h;rw[h.1,WU he h.2];rfl
def RQ(h:H):Bool:=match h.get 3 with
 |some (.cells cs _ _)=>sY cs Lib.pow10Tab
 |_=>false
def X0:List V->H->Option (V×H)
 |[.int .i64 n],h=>bif RQ h&&decide (-9223372036854775808<=n)&&decide (n<=9223372036854775807)then some (.str (Lib.itoa n),h)else none
 |_,_=>none
def aN:U1:=fun f=>bif zj f 124 then some X0 else none
theorem dG:∀ {cs:List V} {r:List Int},sY cs r=true->cs.length=r.length/\∀d∈cs,d.ok=true
 |[],[],_=>⟨rfl,fun d hd=>by cases hd⟩
 | .int .u64 n::l,m::r,he=>by
  unfold sY at he;cases hd:decide (n=m)with
  |false=>rw[hd]at he;cases he
  |true=>
   rw[hd]at he;obtain⟨h1,h2⟩:=dG (cs:=l) (r:=r) he;refine⟨by simp[h1],fun d hd=>?_⟩;rcases List.mem_cons.1 hd with rfl|hd
   ·rfl
   ·exact h2 d hd
theorem uP : prog.globalNamed "internal/strconv.uint64pow10" = some 3 := by kernel_rfl
theorem at5{p:Pl}(hg:Gp p):p[3]?=some (3,20):=hg _ (List.mem_cons_self ..)
theorem X9 {p : Pl} {h : H} {w : World} (hr : R p h w) (hg : Gp p) (ht : RQ h = true) : Lib.TabIs prog w "internal/strconv.uint64pow10" .u64 Lib.pow10Tab := by
 unfold RQ at ht;split at ht
 case h_2=>cases ht
 rename_i cs t fz hb;obtain⟨r,n,x,h1,h2,c,fz',rfl,h4,h5,h6,_⟩:=hr.obj 3 _ hb;rw[at5 hg]at h1;cases h1;obtain⟨e1,e2⟩:=dG ht;have hl:cs.length=20:=e1.trans rfl;have htk:c.toList.take cs.length=c.toList:=zu (by simp;omega);rw[htk]at h6;have hv:=WU ht (h6.Nl e2);unfold Lib.TabIs World.var?;rw[uP];show(match w.heap[3]? with
  |some (.cells cs _ _)=>some cs
  |_=>none)=_
 rw[h2];show some c=_;rw[<-hv]
theorem gC:JT prog aN:=by
 intro f q hq p h w args args' v h' hr hg ha hd;unfold aN at hq;cases hf:zj f 124 with
 |false=>rw[hf]at hq;cases hq
 |true=>
  rw[hf]at hq;cases hq;cases zc hf;unfold X0 at hd;split at hd
  case h_2=>cases hd
  rename_i n;cases hb:(RQ h&&decide (-9223372036854775808<=n)&&decide (n<=9223372036854775807))with
  |false=>rw[hb]at hd;cases hd
  |true=>
   rw[hb]at hd;cases hd;rw[ze,ze,w5,w5]at hb;obtain⟨x,hl,h1⟩:=ha.one;have:args'= #[x]:=yh.1 hl;subst this;simp only[Ac]at h1;subst h1;refine(Any.strconv_Itoa Hl n hb.1.2 hb.2 w (X9 hr hg hb.1.1)).mono ?_;rintro e w' ⟨rfl,k,os,rfl⟩;exact⟨_,p,rfl,by simp only[Ac];rfl,IT hr ⟨rfl,rfl,rfl,by show w.heap.size<=(w.heap++os).size;rw[Array.size_append];omega,fun j hj=>by show(w.heap++os)[j]?=_;exact jg hj⟩⟩
end Go.Det
namespace Go.Det
open Go.Proofs
def JC:xh:=⟨fun|105=>250|212=>193|99=>213|165=>194|166=>195|170=>292|169=>196|263=>234|264=>223|206=>256|240=>235|241=>236|276=>283|277=>284|n=>n,fun|9=>9|3=>3|4=>4|20=>20|0=>0|46=>216|109=>217|5=>5|72=>222|76=>226|51=>259|146=>260|53=>130|148=>246|70=>219|37=>220|75=>225|127=>262|164=>296|80=>228|n=>n,fun|n=>n⟩
theorem ZT:Go.Proofs.Lays.n105 qq JC:=
  { mixed:=by kernel_rfl,
    f99:=Go.Proofs.Tryz.func213.trans (wi some (by kernel_rfl)),
    f105:=Go.Proofs.Tryz.func250.trans (wi some (by kernel_rfl)),
    f165:=kx.trans (wi some (by kernel_rfl)),
    f166:=ky.trans (wi some (by kernel_rfl)),
    f169:=kz.trans (wi some (by kernel_rfl)),
    f170:=Go.Proofs.Tryz.func292.trans (wi some (by kernel_rfl)),
    f206:=Go.Proofs.Tryz.func256.trans (wi some (by kernel_rfl)),
    f212:=Go.Proofs.Tryz.func193.trans (wi some (by kernel_rfl)),
    f240:=k9.trans (wi some (by kernel_rfl)),
    f241:=xa.trans (wi some (by kernel_rfl)),
    f263:=Go.Proofs.Tryz.func234.trans (wi some (by kernel_rfl)),
    f264:=Go.Proofs.Tryz.func223.trans (wi some (by kernel_rfl)),
    f276:=xb.trans (wi some (by kernel_rfl)),
    f277:=xc.trans (wi some (by kernel_rfl)),
    t0:=z7,
    a0:=y8,
    z0:=yw,
    v0:=yj,
    t3:=z8,
    a3:=y9,
    z3:=yx,
    v3:=yk,
    t4:=ya,
    a4:=qc,
    z4:=yy,
    v4:=ym,
    t5:=jf,
    a5:=Go.Proofs.Tryz.isAgg5,
    z5:=xd,
    v5:=jl,
    t9:=yb,
    a9:=qd,
    z9:=yz,
    v9:=yn,
    t20:=zy,
    a20:=y7,
    z20:=yr,
    v20:=yc,
    t37:=zw,
    a37:=yt,
    z37:=yp,
    v37:=zz,
    t46:=qm,
    a46:=kp,
    z46:=kc,
    v46:=qz,
    t51:=qn,
    a51:=kq,
    z51:=ke,
    v51:=q9,
    t53:=qo,
    a53:=kr,
    z53:=kf,
    v53:=jc,
    t70:=qg,
    a70:=kh,
    z70:=j0,
    v70:=qt,
    t72:=qh,
    a72:=ki,
    z72:=j5,
    v72:=qu,
    t75:=qi,
    a75:=kj,
    z75:=j6,
    v75:=qv,
    t76:=qj,
    a76:=kk,
    z76:=j7,
    v76:=qw,
    t109:=Go.Proofs.Tryz.underlying217,
    a109:=Go.Proofs.Tryz.isAgg217,
    z109:=Go.Proofs.Tryz.sizeOf217,
    v109:=Go.Proofs.Tryz.zeroValue217,
    t127:=qk,
    a127:=km,
    z127:=j8,
    v127:=qx,
    t146:=Go.Proofs.Tryz.underlying260,
    a146:=Go.Proofs.Tryz.isAgg260,
    z146:=Go.Proofs.Tryz.sizeOf260,
    v146:=Go.Proofs.Tryz.zeroValue260,
    t148:=Go.Proofs.Tryz.underlying246,
    a148:=Go.Proofs.Tryz.isAgg246,
    z148:=Go.Proofs.Tryz.sizeOf246,
    v148:=Go.Proofs.Tryz.zeroValue246,
    t164:=ql,
    a164:=ko,
    z164:=j9,
    v164:=qy }
theorem mR:Builder.Extra zo JC:=
  { sizeBuilder:=by kernel_rfl,liesBuilder:=by kernel_rfl,t5:=yg,a5:=Tryz.isAgg5,z5:=xe,v5:=qp,infoByte:=by kernel_rfl,cellsByte:=by kernel_rfl,sizeByte:=by kernel_rfl,neB5:=by decide }
open Go.Proofs.Tryz (prog)
def SY:List V->H->Option (V×H)
  |[.str s,.int .i64 (.ofNat c)],h=>bif zr c 9223372036854775807&&zr (DB s*c) 140737488355328 then some (.str (Lib.repeatL s c),h)else none
  |_,_=>none
def Sy:U1:=fun f=>bif zj f 250 then some SY else none
theorem Vg:JT prog Sy:=by
  intro f q hq p h w args args' v h' hr hg ha hd
  unfold Sy at hq
  cases hf:zj f 250 with
  |false=>rw[hf]at hq;cases hq
  |true=>
    rw[hf]at hq;cases hq
    cases zc hf
    unfold SY at hd
    split at hd
    case h_2=>cases hd
    rename_i s c
    cases hb:(zr c 9223372036854775807&&zr (DB s*c) 140737488355328)with
    |false=>rw[hb]at hd;cases hd
    |true=>
      rw[hb]at hd;cases hd
      rw[ze]at hb
      have h1:=zh hb.1
      have h2:=zh hb.2
      rw[Cy]at h2
      obtain⟨x,y,hl,g1,g2⟩:=ha.two
      have:args'= #[x,y]:=yh.1 hl
      subst this
      simp only[Ac]at g1 g2;subst g1 g2
      refine(Any.strings_Repeat ZT mR (bytesOf s) c w h1 (by rw[BB];exact h2)).mono ?_
      rintro e w' ⟨rfl,hbl⟩
      exact⟨_,p,rfl,by simp only[Ac];rw[Hp];rfl,IT hr hbl⟩
end Go.Det
namespace Go.Proofs
open Go.Shelf Go.RowKit Go.Sort Go.Lib Go.Det
namespace FmtU
set_option maxHeartbeats 6400000 in
set_option maxRecDepth 100000 in
theorem small(i:Nat)(hi:i<100)(w:World):Calls zo 291 #[.int .u64 i,.int .i64 10] w fun e w'=>e=.returned (.string ⟨(zx i).toArray⟩)/\w'=w:=by
 have mixed:=Hl.mixed;have t3:=Tryz.underlying3;have a3:=Tryz.isAgg3;have z3:=Tryz.sizeOf3;have v3:=Tryz.zeroValue3;have t9:=qe;have a9:=Tryz.isAgg9;have z9:=Tryz.sizeOf9;have v9:=Tryz.zeroValue9;have t4:=Tryz.underlying4;have a4:=Tryz.isAgg4;have z4:=Tryz.sizeOf4;have v4:=Tryz.zeroValue4;have t130:=jh;have a130:=Tryz.isAgg130;have z130:=Tryz.sizeOf130;have v130:=jm;have t292:=yq;have a292:=Tryz.isAgg292;have z292:=Tryz.sizeOf292;have v292:=Tryz.zeroValue292;have t0:=Tryz.underlying0;have a0:=Tryz.isAgg0;have z0:=Tryz.sizeOf0;have v0:=Tryz.zeroValue0;have t220:=ji;have a220:=Tryz.isAgg220;have z220:=Tryz.sizeOf220;have v220:=Tryz.zeroValue220;have t5:=yg;have a5:=Tryz.isAgg5;have z5:=xe;have v5:=qp;have e279:∀args w,(callFunc 279 args).run zo w=.ok (.enter 279 args) w:=enters_of Tryz.func279 (by kernel_rfl) rfl;go_enter Tryz.func291,Tryz.ntmps291
 go_wp2_with (go_at_fn 279;refine(Any.internal_strconv_small (ρ:=F7) { Hl with } i hi _).mono ?_;rintro e w' ⟨rfl,rfl⟩)
 go_ret
 exact⟨rfl,rfl⟩
set_option maxHeartbeats 6400000 in
set_option maxRecDepth 100000 in
theorem wO (u : Nat) (hu : 100 <= u) (hu64 : u < 18446744073709551616) (w : World) (htab : Lib.TabIs Tryz.prog w "internal/strconv.uint64pow10" .u64 Lib.pow10Tab) :
  Calls zo 291 #[.int .u64 u,.int .i64 10] w fun e w'=>e=.returned (.string ⟨(zx u).toArray⟩)/\∃k os,w'=grow (w.drewN k) os:=by
 have mixed:=Hl.mixed;have t3:=Tryz.underlying3;have a3:=Tryz.isAgg3;have z3:=Tryz.sizeOf3;have v3:=Tryz.zeroValue3;have t9:=qe;have a9:=Tryz.isAgg9;have z9:=Tryz.sizeOf9;have v9:=Tryz.zeroValue9;have t4:=Tryz.underlying4;have a4:=Tryz.isAgg4;have z4:=Tryz.sizeOf4;have v4:=Tryz.zeroValue4;have t130:=jh;have a130:=Tryz.isAgg130;have z130:=Tryz.sizeOf130;have v130:=jm;have t292:=yq;have a292:=Tryz.isAgg292;have z292:=Tryz.sizeOf292;have v292:=Tryz.zeroValue292;have t0:=Tryz.underlying0;have a0:=Tryz.isAgg0;have z0:=Tryz.sizeOf0;have v0:=Tryz.zeroValue0;have t220:=ji;have a220:=Tryz.isAgg220;have z220:=Tryz.sizeOf220;have v220:=Tryz.zeroValue220;have t5:=yg;have a5:=Tryz.isAgg5;have z5:=xe;have v5:=qp;have e280:∀args w,(callFunc 280 args).run zo w=.ok (.enter 280 args) w:=enters_of Tryz.func280 (by kernel_rfl) rfl;have e281:∀args w,(callFunc 281 args).run zo w=.ok (.enter 281 args) w:=enters_of Tryz.func281 (by kernel_rfl) rfl;have hu1:1<=u:=by omega
 have hnd20:yu u<=20:=by have:=Lib.numDigits_eq u hu1 hu64;split at this<;>omega
 have hal:zo.arrayLen 292=24:=by simp[Program.arrayLen,yq]
 have hsl:∀W,(Instr.sliceAt 292 (.pointer (some ⟨w.heap.size,0,none⟩)) none (some (.int .i64 (yu u:Int))) none).run zo W=.ok (.slice (some ⟨w.heap.size,0,none⟩) (yu u) 24) W:=fun W=>by
  rw[run_sliceAt_array_h W 292 ⟨w.heap.size,0,none⟩ (by simp[Program.arrayLen,Program.elem,yq]) .i64 (yu u:Int) (by omega) (by rw[hal];omega)];go_simp
 have hH0:=Lib.holds_zero0 w 292 (yu u) (by omega);have hfmt:=Any.internal_strconv_formatBase10 (ρ:=F7) (P:=zo) { Hl with } w.heap.size 0 24 u (Array.replicate (yu u) 0) (w.alloc (.cells jo 292)) hH0 (by rw[yd];exact Lib.lt_pow_nDigits u) hu64 (by rw[yd];omega);rw[yd]at hfmt;have HH0:=Lib.hid hH0;have iu:(100:Int)<=(u:Int):=by omega
 clear hH0 hal;go_enter Tryz.func291,Tryz.ntmps291
 go_wp2_with (first
  |(go_at_fn 280;refine(Any.internal_strconv_numDigits (ρ:=F7) { Hl with } u hu1 hu64 _ (Lib.tabIs_alloc htab _)).mono ?_;rintro e w' ⟨rfl,rfl⟩))
 go_at_fn 281
 refine hfmt.mono ?_;rintro e w' ⟨rfl,k,v',dk,rfl,hF⟩;have hcv:(convert 220 9 (.slice (some ⟨w.heap.size,0,none⟩) (yu u) 24)).run zo ((putRow (fun(b:UInt8)=>xg .u8 (b.toNat:Int)) (w.alloc (.cells jo 292)) w.heap.size 0 dk).drewN k)=.ok (.string ⟨(zx u).toArray⟩) ((putRow (fun(b:UInt8)=>xg .u8 (b.toNat:Int)) (w.alloc (.cells jo 292)) w.heap.size 0 dk).drewN k):=by
  have h:=run_convert_bytes_back (P:=zo) ((putRow (fun(b:UInt8)=>xg .u8 (b.toNat:Int)) (w.alloc (.cells jo 292)) w.heap.size 0 dk).drewN k) 220 9 5 ⟨w.heap.size,0,none⟩ 24 (zx u) ji yg qe (fun j hj=>by
   rw[Lib.row_is_numeral hF j hj,Lib.add_plain,World.cell?_drewN];exact cell?_putRow (fun(b:UInt8)=>xg .u8 (b.toNat:Int)) _ w.heap.size 0 _ dk HH0.out (by rw[hF.size,yd]) j (by rw[hF.size];rw[Lib.decDigits_length]at hj;exact hj))
  rw[Lib.decDigits_length]at h;exact h
 go_wp2
 go_ret
 obtain⟨os,eo⟩:=Lib.fin_at w (.cells jo 292) dk k 0;exact⟨rfl,k,os,eo⟩
set_option maxRecDepth 100000 in
theorem all (u : Nat) (hu64 : u < 18446744073709551616) (w : World) (htab : Lib.TabIs Tryz.prog w "internal/strconv.uint64pow10" .u64 Lib.pow10Tab) :
  Calls zo 291 #[.int .u64 u,.int .i64 10] w fun e w'=>e=.returned (.string ⟨(zx u).toArray⟩)/\∃k os,w'=grow (w.drewN k) os:=by
 by_cases h:u<100
 ·exact(small u h w).mono fun e w' ⟨h1,h2⟩=>⟨h1,0, #[],by rw[h2];simp[World.drewN_zero]⟩
 ·exact wO u (by omega) hu64 w htab
set_option maxRecDepth 100000 in
theorem outer (u : Nat) (hu64 : u < 18446744073709551616) (w : World) (htab : Lib.TabIs Tryz.prog w "internal/strconv.uint64pow10" .u64 Lib.pow10Tab) :
  Calls zo 249 #[.int .u64 u,.int .i64 10] w fun e w'=>e=.returned (.string ⟨(zx u).toArray⟩)/\∃k os,w'=grow (w.drewN k) os:=by
 have mixed:=Hl.mixed;have t3:=Tryz.underlying3;have a3:=Tryz.isAgg3;have z3:=Tryz.sizeOf3;have v3:=Tryz.zeroValue3;have t9:=qe;have a9:=Tryz.isAgg9;have z9:=Tryz.sizeOf9;have v9:=Tryz.zeroValue9;have t130:=jh;have a130:=Tryz.isAgg130;have z130:=Tryz.sizeOf130;have v130:=jm;have e291:∀args w,(callFunc 291 args).run zo w=.ok (.enter 291 args) w:=enters_of Tryz.func291 (by kernel_rfl) rfl;go_enter Tryz.func249,Tryz.ntmps249
 go_wp2_with (go_at_fn 291;refine(all u hu64 _ htab).mono ?_;rintro e w' ⟨rfl,k,os,rfl⟩)
 go_ret
 exact⟨rfl,k,os,rfl⟩
end FmtU
end Go.Proofs
namespace Go.Det
open Go.Proofs
open Go.Proofs.Tryz (prog)
def fmtQ:List V->H->Option (V×H)
 |[.int .u64 (.ofNat n),.int .i64 (.ofNat b)],h=>bif RQ h&&(zr n 18446744073709551615&&zj b 10)then some (.str (zx n),h)else none
 |_,_=>none
def fmtS:U1:=fun f=>bif zj f 249 then some fmtQ else none
theorem nX:JT prog fmtS:=by
 intro f q hq p h w args args' v h' hr hg ha hd;unfold fmtS at hq;cases hf:zj f 249 with
 |false=>rw[hf]at hq;cases hq
 |true=>
  rw[hf]at hq;cases hq;cases zc hf;unfold fmtQ at hd;split at hd
  case h_2=>cases hd
  rename_i n b;cases hb:(RQ h&&(zr n 18446744073709551615&&zj b 10))with
  |false=>rw[hb]at hd;cases hd
  |true=>
   rw[hb]at hd;cases hd;rw[ze,ze]at hb;obtain⟨h1,h2,h3⟩:=hb;have h2:=zh h2;cases zc h3;obtain⟨x,y,hl,g1,g2⟩:=ha.two;have:args'= #[x,y]:=yh.1 hl;subst this;simp only[Ac]at g1 g2;subst g1 g2;refine(FmtU.outer n (by omega) w (X9 hr hg h1)).mono ?_;rintro e w' ⟨rfl,k,os,rfl⟩;exact⟨_,p,rfl,by simp only[Ac];rfl,IT hr ⟨rfl,rfl,rfl,by show w.heap.size<=(w.heap++os).size;rw[Array.size_append];omega,fun j hj=>by show(w.heap++os)[j]?=_;exact jg hj⟩⟩
end Go.Det
namespace Go.Pe
open Go.Det
@[reducible] def BC:List Sh->Sh
 |[]=>.unit
 |[a]=>a
 |a::b::l=>.pair a (BC (b::l))
def Af:(l:List Sh)->(BC l).T->List PV
 |[],_=>[]
 |[a],x=>[Cb a x]
 |a::b::l,x=>Cb a x.1::Af (b::l) x.2
structure Ap where
 ins:List Sh
 pre:(BC ins).T->Bool
 outs:List Sh
 f:(BC ins).T->(BC outs).T
 nd:Bool:=false
def Sh.sc:Sh->Bool
 | .int _| .bool| .str| .unit| .fnv=>true
 | .list _| .nlist _=>false
 | .pair a b=>a.sc&&b.sc
structure Yt where
 ins:List Sh
 ty:TypeId
 el:Sh
 pre:(BC ins).T->List el.T->Bool
 g:(BC ins).T->List el.T->List el.T
structure A1 where
 C:Ctx
 sp:FuncId->Option Ap
 pl:FuncId->Nat->List Nat
 ct:FuncId->Nat->Bool
 fz:FuncId->Nat->List (Nat×Sh)
 ws:FuncId->Option Yt:=fun _=>none
 esc:List FuncId:=[]
 escOk:∀g∈esc,C.prim g=some PK.noEsc.run:=by intro g h;cases h
def Ii(st:AK)(s:Sh)(p:PV):Option (Bool×s.T):=
 bif Kt p==s.PW then
  match EA st p.cells with
  |some (c,cs)=>match C1 s (Kj s.leaves cs).2 with
   |some x=>some ((Kj s.leaves cs).1&&c,x)
   |none=>none
  |none=>none
 else none
def D9(st:AK):(l:List Sh)->List PV->Option (Bool×(BC l).T)
 |[],[]=>some (true,())
 |[a],[p]=>Ii st a p
 |a::b::l,p::ps=>match Ii st a p,D9 st (b::l) ps with
  |some (c,x),some (d,y)=>some (c&&d,(x,y))
  |_,_=>none
 |_,_=>none
def one:List PV->PV
 |[v]=>v
 |l=>.tup l
def fW(sp:Ap)(args:List PV)(st:AK)(k:PV->AK->Tr):Tr:=
 match D9 st sp.ins args with
 |some (c,i)=>.ite (c&&sp.pre i) (k (one (Af sp.outs (sp.f i))) (bif sp.outs.all Sh.sc then st else Bq (args.flatMap PV.cells) st)) .fail
 |none=>.fail
def WE(w:Yt)(args:List PV)(st:AK)(k:PV->AK->Tr):Tr:=
 match args.reverse with
 | .sl id sz 0 n none::r=>match D9 st w.ins r.reverse,(Bq (r.reverse.flatMap PV.cells) st).obj id with
  |some (c,i),some (.arr false t s l)=>bif zj t w.ty then
    match DU (.list s) (.list w.el) l with
    |some l'=>.ite (c&&w.pre i l'&&decide (n=List.length (α:=w.el.T) l')&&zj sz w.el.sz) (k (.tup []) ((Bq (r.reverse.flatMap PV.cells) st).setObj id (.arr false w.ty w.el (w.g i l')))) .fail
    |none=>.fail
   else .fail
  |_,_=>.fail
 | .nil::r=>match D9 st w.ins r.reverse with
  |some (c,i)=>.ite (c&&w.pre i []) (k (.tup []) (Bq (r.reverse.flatMap PV.cells) st)) .fail
  |none=>.fail
 |_=>.fail
mutual
def yT:PV->List Nat
 | .ptr id _| .eptr id _ _ _| .sl id _ _ _ _| .mp id| .yl id=>[id]
 | .agg l| .tup l=>Jy l
 | .fn _ a b=>Jy a++Jy b
 |_=>[]
def Jy:List PV->List Nat
 |[]=>[]
 |v::vs=>yT v++Jy vs
end
def xC:Obj->List Nat
 | .box cs=>Jy cs
 | .tbox _ cs=>Jy cs
 | .lp _ _ _ _ _ _ _ sl=>Jy (sl.map (·.2))
 |_=>[]
def Ig(st:AK)(base:Nat):Nat->List Nat->List Nat->List Nat
 |0,_,acc=>acc
 |_+1,[],acc=>acc
 |f+1,i::is,acc=>bif qf i base||acc.any (zj i)then Ig st base f is acc
  else match st.obj i with
   |some o=>Ig st base f (is++xC o) (acc++[i])
   |none=>Ig st base f is acc
def NO(base:Nat):List Nat->Nat->Nat->Option Nat
 |[],_,i=>bif qf i base then some i else none
 |j::js,n,i=>bif zj i j then some n else NO base js (je n 1) i
mutual
def FZ(f:Nat->Option Nat):PV->PV
 | .ptr i o=>match f i with|some j=>.ptr j o|none=>.any
 | .eptr i a b c=>match f i with|some j=>.eptr j a b c|none=>.any
 | .sl i a b c d=>match f i with|some j=>.sl j a b c d|none=>.any
 | .mp i=>match f i with|some j=>.mp j|none=>.any
 | .yl i=>match f i with|some j=>.yl j|none=>.any
 | .agg l=>.agg (JF f l)
 | .tup l=>.tup (JF f l)
 | .fn g a b=>.fn g (JF f a) (JF f b)
 |v=>v
def JF(f:Nat->Option Nat):List PV->List PV
 |[]=>[]
 |v::vs=>FZ f v::JF f vs
end
def RT(f:Nat->Option Nat):Obj->Obj
 | .box cs=>.box (JF f cs)
 | .tbox t cs=>.tbox t (JF f cs)
 | .lp g r ps asg body s n sl=>.lp g r ps asg body s n (sl.map fun x=>(x.1,FZ f x.2))
 |o=>o
def low(f:Nat->Option Nat)(base:Nat):Ob->Ob
 |[]=>[]
 |(i,o)::l=>bif qf i base then(i,RT f o)::low f base l else low f base l
def kept(st:AK)(f:Nat->Option Nat):List Nat->Nat->Ob->Ob
 |[],_,acc=>acc
 |j::js,n,acc=>match st.obj j with
  |some o=>kept st f js (je n 1) ((n,RT f o)::acc)
  |none=>kept st f js (je n 1) acc
def O1(base:Nat):Ob->List Nat
 |[]=>[]
 |(i,o)::l=>bif qf i base then xC o++O1 base l else O1 base l
def AG(n:Nat)(vs:List (Nat×PV))(ob:Ob)(nx:Nat):AK:=⟨n,Fh vs,ob,nx⟩
def canon(base:Nat)(L:List Nat)(st:AK):AK:=
 let vs:=L.map fun t=>(t,st.get t)
 let ids:=Ig st base 100 (Jy (vs.map (·.2))++O1 base st.ob) []
 let f:=NO base ids base
 AG st.n (vs.map fun x=>(x.1,FZ f x.2)) (kept st f ids base (low f base st.ob)) (je base ids.length)
def mJ(base:Nat)(x:Nat×Sh)(st:AK):AK:=
 match st.get x.1 with
 | .nil=>st.set x.1 (.dat (.list x.2) [])
 | .sl id sz off len _=>match st.obj id with
  |some (.arr _ e s l)=>bif zj sz s.sz then(st.setObj id (.arr true e s l)).set x.1 (.dat (.list s) ((l.drop off).take len))else st
  |_=>st
 | .ptr id 0=>bif zr base id then match st.obj id with
   |some (.box ps)=>match C1 x.2 ps with
    |some v=>(st.PJ id).set x.1 (.FO x.2 v 0)
    |none=>st
   |_=>st
  else st
 |_=>st
def kI(base:Nat):List (Nat×Sh)->AK->AK
 |[],st=>st
 |x::l,st=>kI base l (mJ base x st)
def De:Code->Nat
 | .region id _ _=>id
 | .seq a _=>De a
 | .block _ b=>De b
 | .loop b=>De b
 | .scope b=>De b
 |_=>0
def Ol(X:A1)(f:FuncId)(r:Nat)(base:Nat)(st:AK):AK:=canon base (X.pl f r) (kI base (X.fz f r) st)
inductive uD where
 |fn (g:FuncId)
 |rnd (id:Nat)
abbrev Fy:=uD->List PV->AK->(PV->AK->Tr)->Tr
def Oe(d:Option Nat)(k:AK->Tr):PO->Tr
 | .bad=>.fail
 | .val v st=>match st.put d v with
  |some st'=>k st'
  |none=>.fail
 | .ite c a b=>.ite c (Oe d k a) (Oe d k b)
inductive CK where
 |no
 |bad
 |yes (g:uD) (args:List PV)
def J0(st:AK)(o:Op):CK:=
 match o with
 | .call c=>match c.callee with
  | .value f=>match P2 st f,Mm st c.args.toList with
   |some (.fn (.func g) first cap),some args=>.yes (.fn g) (first++args++cap)
   |some (.yl id),some args=>.yes (.rnd id) args
   |_,_=>.bad
  |_=>.no
 |_=>.no
def He(T:BS)(call:Fy)(o:Oper)(st:AK)(k:AK->Tr):Tr:=
 match J0 st o.op with
 | .yes g args=>call g args st fun v st=>match st.put o.dst v with
  |some st'=>k st'
  |none=>.fail
 | .bad=>.fail
 | .no=>Oe o.dst k (pop o.op T st)
def RB(T:BS)(st:AK)(o:Op):Option (PV×AK):=
 match o with
 | .convert s d x=>match T.und s,T.und d,P2 st x with
  |some .string,some (.slice e),some (.dat .str l)=>match T.und e with
   |some (.int .u8)=>some (.sl st.nx 1 0 (List.length l) none,st.push (.arr false e (.int .u8) (List.map (fun b:UInt8=>(b.toNat:Int)) l)))
   |_=>none
  |_,_,_=>none
 |_=>none
def sP(T:BS)(st:AK)(o:Op):Option PV:=
 match o with
 | .convert s d x=>match T.und s,T.und d,P2 st x with
  |some (.pointer t),some .unsafePointer,some (.ptr id off)=>match T.inf t,st.obj id with
   |some i,some (.tbox _ cs)=>bif qf 0 i.size&&qf off (DB cs)then some (.ptr id off)else none
   |_,_=>none
  |some .unsafePointer,some (.pointer u),some (.ptr id off)=>match T.inf u,st.obj id with
   |some i,some (.tbox e cs)=>bif qf 0 i.size&&zr i.size (DB cs)&&zj e u&&zj off 0 then some (.ptr id 0)else none
   |_,_=>none
  |_,_,_=>none
 |_=>none
def Wa(T:BS)(st:AK)(o:Op):Option (PV×AK):=
 match RB T st o with
 |some r=>some r
 |none=>match sP T st o with
  |some v=>some (v,st)
  |none=>none
def pO(T:BS)(call:Fy)(o:Oper)(st:AK)(k:AK->Tr):Tr:=
 match Wa T st o.op with
 |some (v,st1)=>match st1.put o.dst v with
  |some st2=>k st2
  |none=>.fail
 |none=>He T call o st k
def guarded(ops:Array Oper)(o:Oper)(st:AK)(yes no:AK->Tr):Tr:=
 match o.guard with
 |none=>yes st
 |some (j,want)=>match (ops[j]?).bind (·.dst)with
  |some t=>bif qf t st.n then(match st.get t with
   | .bl b=>bif b==want then yes st else no st
   | .dat .bool b=>bif want then .ite b (yes (st.set t (.bl true))) (no (st.set t (.bl false)))else .ite b (no (st.set t (.bl true))) (yes (st.set t (.bl false)))
   | .tup _=>no st
   | .ub=>.both (bif want then yes (st.set t (.bl true))else no (st.set t (.bl true))) (bif want then no (st.set t (.bl false))else yes (st.set t (.bl false)))
   |_=>.fail)else .fail
  |none=>.fail
def LW(o:Oper)(k:AK->Tr)(st:AK):Tr:=
 match st.put o.dst (.tup [])with
 |some st'=>k st'
 |none=>.fail
def prun(T:BS)(call:Fy)(ops:Array Oper):List Oper->AK->(AK->Tr)->Tr
 |[],st,k=>k st
 |o::rest,st,k=>guarded ops o st
   (fun st=>pO T call o st fun st'=>prun T call ops rest st' k)
   (fun st=>LW o (fun st'=>prun T call ops rest st' k) st)
def nG(st:AK)(o:Op):Option (List Nat):=
 match o with
 | .load _ x=>match P2 st x with
  |some (.ptr id _)|some (.eptr id _ _ _)=>some [id]
  |some (.FO _ _ _)=>some []
  |_=>none
 | .convert _ _ x=>match P2 st x with
  |some (.dat (.int _) _)|some (.dat .str _)=>some []
  |_=>none
 | .call c=>match c.callee,Mm st c.args.toList with
  | .builtin .len,some [.dat _ _]| .builtin .len,some [.sl _ _ _ _ _]| .builtin .len,some [.nil]=>some []
  | .builtin .len,some [.mp id]=>some [id]
  |_,_=>none
 | .lookup _ x _ _=>match P2 st x with
  |some (.mp id)=>some [id]
  |some .nilm=>some []
  |_=>none
 |_=>none
def GM(sp:FuncId->Option Ap)(st:AK)(o:Op):Option (List Nat):=
 match o with
 | .store _ x _=>match P2 st x with
  |some (.ptr id _)|some (.eptr id _ _ _)=>some [id]
  |_=>none
 | .mapUpdate _ x _ _| .insert _ x _ _=>match P2 st x with
  |some (.mp id)=>some [id]
  |_=>none
 | .makeMap _ _| .makeSlice _ _ _=>some []
 | .call c=>match c.callee with
  | .value f=>match P2 st f with
   |some (.fn (.func g) _ _)=>match sp g with
    |some _=>some []
    |none=>none
   |_=>none
  | .builtin .append=>match Mm st c.args.toList with
   |some (.sl id _ _ _ _::_)=>some [id]
   |some _=>some []
   |none=>none
  | .builtin .delete=>match Mm st c.args.toList with
   |some (.mp id::_)=>some [id]
   |_=>none
  | .builtin .unsafeString=>match Mm st c.args.toList with
   |some (.eptr id _ _ _::_)=>some [id]
   |_=>none
  |_=>none
 |_=>none
abbrev Rs:=List (Nat×Option (List Nat))
def Zc:Option (List Nat)->Option (List Nat)->Bool
 |some a,some b=>a.all fun i=> !(b.any (zj i))
 |some [],none=>true
 |_,_=>false
def KT(st:AK):Option (List Nat)->Bool
 |some l=>l.all fun i=>HW (st.obj i)
 |none=>false
def apart(anc:Nat->Nat->Bool)(i:Nat)(st:AK)(t:Option (List Nat))(rs:Rs):Bool:=rs.all fun r=>anc i r.1||(Zc r.2 t&&KT st r.2)
def behind(st:AK)(t:Option (List Nat))(rs:Rs):Rs:=rs.map fun r=>bif Zc r.2 t&&KT st r.2 then r else(r.1,none)
def aA(st:AK)(o:Op):Bool:=match J0 st o with
 | .yes (.rnd _) _=>false
 |_=>true
def JA(T:BS)(sp:FuncId->Option Ap)(call:Fy)(ops:Array Oper)(anc:Nat->Nat->Bool):List Nat->AK->Rs->(AK->Tr)->Tr
 |[],st,_,k=>k st
 |i::is,st,rs,k=>match ops[i]? with
  |none=>.fail
  |some o=>guarded ops o st
    (fun st=>bif Em o then He T call o st (fun st'=>JA T sp call ops anc is st' (bif NU o then(i,nG st o.op)::rs else rs) k)
     else bif Ch o then He T call o st (fun st'=>JA T sp call ops anc is st' rs k)
     else bif apart anc i st (GM sp st o.op) rs&&aA st o.op then He T call o st (fun st'=>JA T sp call ops anc is st' (behind st (GM sp st o.op) rs) k)else .fail)
    (fun st=>bif Cx o then(bif apart anc i st (some []) rs then LW o (fun st'=>JA T sp call ops anc is st' (behind st (some []) rs) k) st else .fail)
     else LW o (fun st'=>JA T sp call ops anc is st' rs k) st)
def exec(X:A1)(call callD:Fy)(nd ro:Bool)(d:Nat)(f:FuncId)(base:Nat):Code->AK->(DX->AK->Tr)->Tr
 | .skip,st,k| .label _,st,k=>k .normal st
 | .region _ ops dr,st,k=>bif dr then(bif !ro||HK ops (Ep ops)then JA X.C.T X.sp callD ops (Ep ops).a (Ep ops).ord st [] (k .normal)else .fail)else prun X.C.T call ops ops.toList st (k .normal)
 | .seq a b,st,k=>exec X call callD nd ro d f base a st fun e st'=>match e with
  | .normal=>bif X.ct f (De b)then .cut nd ro d f base b (Ol X f (De b) base st') k else exec X call callD nd ro d f base b st' k
  |e=>k e st'
 | .cond x a b,st,k=>match P2 st x with
  |some (.bl t)=>bif t then exec X call callD nd ro d f base a st k else exec X call callD nd ro d f base b st k
  |some (.dat .bool t)=>match x with
   | .tmp s=>.ite t (exec X call callD nd ro d f base a (st.set s (.bl true)) k) (exec X call callD nd ro d f base b (st.set s (.bl false)) k)
   |_=>.ite t (exec X call callD nd ro d f base a st k) (exec X call callD nd ro d f base b st k)
  |some .ub=>match x with
   | .tmp s=>.both (exec X call callD nd ro d f base a (st.set s (.bl true)) k) (exec X call callD nd ro d f base b (st.set s (.bl false)) k)
   |_=>.fail
  |_=>.fail
 | .block id b,st,k=>exec X call callD nd ro d f base b st fun e st'=>match e with
  | .exit i=>bif zj i id then k .normal st' else k e st'
  |e=>k e st'
 | .loop b,st,k=>.loop nd ro d f base b (Ol X f (De b) base st) k
 | .exit i,st,k=>k (.exit i) st
 | .ret,st,k=>k .ret st
 | .scope b,st,k=>exec X call callD nd ro d f base b st k
 |_,_,_=>.fail
def iU(T:BS)(st:AK):ResultVar->Option PV
 | .tmp t=>some (st.get t)
 | .cell a t=>match ML T st t (st.get a)with
  | .val v _=>some v
  | .HV _ v _=>some v
  |_=>none
def Kk(T:BS)(st:AK):List ResultVar->List Bool
 |[]=>[]
 | .tmp _::rs=>Kk T st rs
 | .cell a t::rs=>match ML T st t (st.get a)with
  | .HV c _ _=>c::Kk T st rs
  |_=>Kk T st rs
def Oz:List Bool->Tr->Tr
 |[],t=>t
 |c::cs,t=>.ite c (Oz cs t) .fail
def gX(T:BS)(st:AK):List ResultVar->Option (List PV)
 |[]=>some []
 |r::rs=>match iU T st r,gX T st rs with
  |some v,some vs=>some (v::vs)
  |_,_=>none
def Ea:List PV->Nat->List (Nat×PV)
 |[],_=>[]
 |v::vs,i=>(i,v)::Ea vs (je i 1)
def enter(X:A1)(call callD:Fy)(nd:Bool)(d:Nat)(f:FuncId)(args:List PV)(st:AK)(k:PV->AK->Tr):Tr:=
 match X.C.fn f with
 |none=>.fail
 |some i=>bif i.cert then
   exec X call callD nd false d f st.nx i.body (AG (je args.length (Nat.sub i.ntmps args.length)) (Ea args 0) st.ob st.nx) fun e s=>match e with
    | .exit _=>.fail
    |_=>match gX X.C.T s i.results.toList with
     |some vs=>Oz (Kk X.C.T s i.results.toList) (k (one vs) ⟨st.n,st.fr,s.ob,s.nx⟩)
     |none=>.fail
  else .fail
def Mp:List Tmp->List PV->AK->AK
 |t::ts,v::vs,st=>Mp ts vs (bif qf t st.n then st.set t v else st)
 |_,_,st=>st
def cU(X:A1)(call callD:Fy)(nd:Bool)(d:Nat)(id:Nat)(args:List PV)(st:AK)(k:PV->AK->Tr):Tr:=
 match st.obj id with
 |some (.lp f _ ps asg b .ready n sl)=>bif zj args.length ps.size then
   exec X call callD nd true d f st.nx asg (Mp ps.toList args (AG n sl st.ob st.nx)) fun e s=>match e with
   | .normal=>match s.obj id with
    |some (.lp f1 r1 ps1 asg1 b1 .ready n1 sl1)=>
     exec X call callD nd true d f st.nx b (s.setObj id (.lp f1 r1 ps1 asg1 b1 .busy n1 sl1)) fun e2 s2=>
      match s2.obj id with
      |some (.lp f2 r2 ps2 asg2 b2 _ n2 sl2)=>match e2 with
       | .normal=>k (.bl true) ⟨st.n,st.fr,(s2.setObj id (.lp f2 r2 ps2 asg2 b2 .ready n2 sl2)).ob,s2.nx⟩
       | .ret=>k (.bl false) ⟨st.n,st.fr,(s2.setObj id (.lp f2 r2 ps2 asg2 b2 .ret n2 sl2)).ob,s2.nx⟩
       | .exit i=>k (.bl false) ⟨st.n,st.fr,(s2.setObj id (.lp f2 r2 ps2 asg2 b2 (.exit i) n2 sl2)).ob,s2.nx⟩
      |_=>.fail
    |_=>.fail
   |_=>.fail
  else .fail
 |_=>.fail
def wX(args:List PV)(st:AK)(k:PV->AK->Tr):Tr:=
 match args with
 |[.ptr id off]=>bif HW (st.obj id)then k (.ptr id off) st else .fail
 |_=>.fail
def Cj(X:A1)(nd:Bool):Nat->Fy
 |0=>fun _ _ _ _=>.fail
 |d+1=>fun c args st k=>match c with
  | .fn g=>match X.sp g with
   |some sp=>bif nd|| !sp.nd then fW sp args st k else .fail
   |none=>match X.ws g with
    |some w=>WE w args st k
    |none=>bif X.esc.any (zj g)then wX args st k else match X.C.prim g,X.C.spec g with
     |none,none=>enter X (Cj X nd d) (Cj X false d) nd d g args st k
     |_,_=>.fail
  | .rnd _=>.fail
def tree(X:A1)(nd:Bool)(d:Nat)(f:FuncId)(args:List PV):Tr:=
 enter X (Cj X nd d) (Cj X false d) nd d f args (AG 0 [] [] 0) fun v st=>.leaf v st.ob
def body(X:A1)(nd ro:Bool)(d:Nat)(f:FuncId)(base:Nat)(b:Code)(st:AK)(k:DX->AK->Tr):Tr:=
 exec X (Cj X nd d) (Cj X false d) nd ro d f base b st fun e st'=>match e with
  | .normal=>.loop nd ro d f base b (Ol X f (De b) base st') k
  |e=>k e st'
def AM(X:A1)(nd ro:Bool)(d:Nat)(f:FuncId)(base:Nat)(b:Code)(st:AK)(k:DX->AK->Tr):Tr:=exec X (Cj X nd d) (Cj X false d) nd ro d f base b st k
inductive Ev (X:A1) (Q:PV->Ob->Prop):Nat->Tr->Prop where
 |leaf {n:Nat} {v:PV} {ob:Ob}:Q v ob->Ev X Q n (.leaf v ob)
 |ite {n:Nat} {c:Bool} {a b:Tr}:(c=true->Ev X Q n a)->(c=false->Ev X Q n b)->Ev X Q n (.ite c a b)
 |both {n:Nat} {a b:Tr}:Ev X Q n a->Ev X Q n b->Ev X Q n (.both a b)
 |cut {n:Nat} {nd ro:Bool} {d:Nat} {f:FuncId} {base:Nat} {b:Code} {st:AK} {k:DX->AK->Tr}:Ev X Q n (AM X nd ro d f base b st k)->Ev X Q n (.cut nd ro d f base b st k)
 |alts {n m:Nat} {f:Nat->Tr}:(∀i,i<m->Ev X Q n (f i))->Ev X Q n (.alts m f)
 |loop {n:Nat} {nd ro:Bool} {d:Nat} {f:FuncId} {base:Nat} {b:Code} {st:AK} {k:DX->AK->Tr}:Ev X Q n (body X nd ro d f base b st k)->Ev X Q (n+1) (.loop nd ro d f base b st k)
abbrev Fz:=Nat->Option (List V)
abbrev D2:=Nat->Option (Nat×Nat)
def DC(F:Fz):(s:Sh)->s.T->List V->Prop
 | .int k,x,cs=>cs=[.int k x]
 | .bool,x,cs=>cs=[.bool x]
 | .str,x,cs=>cs=[.str x]
 | .list s,l,cs=>∃v,cs=[v]/\((l=[]/\(v=.nils\/v=.esl\/v=.es0))\/
   ∃b off cap o bs,v=.sl b off l.length cap o/\l.length<=cap/\F b=some bs/\off+l.length*s.sz<=bs.length/\(o=0\/o=s.sz)/\
    ∀i (h:i<l.length),DC F s l[i] ((bs.drop (off+i*s.sz)).take s.sz))
 | .pair a b,x,cs=>∃c d,cs=c++d/\DC F a x.1 c/\DC F b x.2 d
 | .unit,_,cs=>cs=[]
 | .fnv,x,cs=>cs=[match (x:Option Fn)with|some f=>.fn f [] []|none=>.nilf]
 | .nlist s,l,cs=>∃v,cs=[v]/\((l=[]/\v=.nils)\/(l≠[]/\
   ∃b off cap o bs,v=.sl b off l.length cap o/\l.length<=cap/\F b=some bs/\off+l.length*s.sz<=bs.length/\(o=0\/o=s.sz)/\
    ∀i (h:i<l.length),DC F s l[i] ((bs.drop (off+i*s.sz)).take s.sz)))
theorem DC.len{F:Fz}:∀ {s:Sh} {x:s.T} {cs:List V},DC F s x cs->cs.length=s.sz
 | .int _,_,_,h=>by simp only[DC]at h;subst h;rfl
 | .bool,_,_,h=>by simp only[DC]at h;subst h;rfl
 | .str,_,_,h=>by simp only[DC]at h;subst h;rfl
 | .list _,_,_,h=>by simp only[DC]at h;obtain⟨v,rfl,_⟩:=h;rfl
 | .pair a b,x,_,h=>by
  simp only[DC]at h;obtain⟨c,d,rfl,h1,h2⟩:=h;rw[jj,h1.len,h2.len];rfl
 | .unit,_,_,h=>by simp only[DC]at h;subst h;rfl
 | .nlist _,_,_,h=>by simp only[DC]at h;obtain⟨v,rfl,_⟩:=h;rfl
 | .fnv,_,_,h=>by simp only[DC]at h;subst h;rfl
theorem DC.ok{F:Fz}:∀ {s:Sh} {x:s.T} {cs:List V},DC F s x cs->∀v∈cs,v.ok=true
 | .int _,_,_,h=>by simp only[DC]at h;subst h;simp[xi]
 | .bool,_,_,h=>by simp only[DC]at h;subst h;simp[xi]
 | .str,_,_,h=>by simp only[DC]at h;subst h;simp[xi]
 | .list s,_,_,h=>by
  simp only[DC]at h;obtain⟨v,rfl,⟨_,rfl|rfl|rfl⟩|⟨b,off,cap,o,bs,rfl,_⟩⟩:=h<;>simp[xi]
 | .pair a b,x,_,h=>by
  simp only[DC]at h;obtain⟨c,d,rfl,h1,h2⟩:=h;intro v hv;rcases List.mem_append.1 hv with hv|hv
  ·exact h1.ok v hv
  ·exact h2.ok v hv
 | .unit,_,_,h=>by simp only[DC]at h;subst h;simp
 | .fnv,x,_,h=>by simp only[DC]at h;subst h;intro v hv;rw[zg.1 hv];cases (x:Option Fn)<;>rfl
 | .nlist s,_,_,h=>by
  simp only[DC]at h;obtain⟨v,rfl,⟨_,rfl⟩|⟨_,b,off,cap,o,bs,rfl,_⟩⟩:=h<;>simp[xi]
theorem DC.mono{F F':Fz}(hF:∀b cs,F b=some cs->F' b=some cs):∀ {s:Sh} {x:s.T} {cs:List V},DC F s x cs->DC F' s x cs
 | .int _,_,_,h=>by simpa only[DC]using h
 | .bool,_,_,h=>by simpa only[DC]using h
 | .str,_,_,h=>by simpa only[DC]using h
 | .list s,l,_,h=>by
  simp only[DC]at h ⊢;obtain⟨v,rfl,h⟩:=h;refine⟨v,rfl,?_⟩;rcases h with h|⟨b,off,cap,o,bs,h1,h2,h3,h4,h5,h6⟩
  ·exact .inl h
  ·exact .inr ⟨b,off,cap,o,bs,h1,h2,hF _ _ h3,h4,h5,fun i hi=>(h6 i hi).mono hF⟩
 | .pair a b,x,_,h=>by
  simp only[DC]at h ⊢;obtain⟨c,d,rfl,h1,h2⟩:=h;exact⟨c,d,rfl,h1.mono hF,h2.mono hF⟩
 | .unit,_,_,h=>by simpa only[DC]using h
 | .fnv,_,_,h=>by simpa only[DC]using h
 | .nlist s,l,_,h=>by
  simp only[DC]at h ⊢;obtain⟨v,rfl,h⟩:=h;refine⟨v,rfl,?_⟩;rcases h with h|⟨h0,b,off,cap,o,bs,h1,h2,h3,h4,h5,h6⟩
  ·exact .inl h
  ·exact .inr ⟨h0,b,off,cap,o,bs,h1,h2,hF _ _ h3,h4,h5,fun i hi=>(h6 i hi).mono hF⟩
theorem DC.nl{F:Fz}{s:Sh}{l:List s.T}{cs:List V}(h:DC F (.nlist s) l cs):DC F (.list s) l cs:=by
 simp only[DC]at h ⊢;obtain⟨v,rfl,h⟩:=h;rcases h with⟨rfl,rfl⟩|⟨_,h⟩
 ·exact⟨_,rfl,.inl ⟨rfl,.inl rfl⟩⟩
 ·exact⟨_,rfl,.inr h⟩
theorem DC.nl'{F:Fz}{s:Sh}{l:List s.T}{cs:List V}(h:DC F (.list s) l cs)(h0:0<l.length):DC F (.nlist s) l cs:=by
 have hne:l≠[]:=by rintro rfl;simp at h0
 simp only[DC]at h ⊢;obtain⟨v,rfl,h⟩:=h;rcases h with⟨rfl,_⟩|h
 ·exact wh rfl hne
 ·exact⟨_,rfl,.inr ⟨hne,h⟩⟩
mutual
def PR(F:Fz)(ρ:D2)(N:Nat):PV->V->Prop
 | .any,_=>True
 | .bl b,v=>v=.bool b
 | .ub,v=>∃b,v=.bool b
 | .dat s x,v=>DC F s x [v]
 | .nil,v=>v=.nils
 | .nilp,v=>v=.nilp
 | .nilm,v=>v=.nilm
 | .nilf,v=>v=.nilf
 | .nili,v=>v=.nili
 | .agg l,v=>∃cs,v=.agg cs/\Bc F ρ N l cs
 | .tup l,v=>∃cs,v=.tup cs/\Bc F ρ N l cs
 | .ptr id off,v=>id<N/\∀b n,ρ id=some (b,n)->v=.ptr b off
 | .eptr id sz i off,v=>id<N/\∀b n,ρ id=some (b,n)->v=.ptr b (i*sz+off)
 | .FO s x off,v=>∃b o cs,v=.ptr b (o+off)/\F b=some cs/\o+s.sz<=cs.length/\DC F s x ((cs.drop o).take s.sz)
 | .sl id sz off len cap,v=>id<N/\∀b n,ρ id=some (b,n)->
   (len<=cap.getD len/\off+cap.getD len<=n/\∃o,(o=0\/o=sz)/\v=.sl b (off*sz) len (cap.getD len) o)\/
   (len=0/\cap=some 0/\off<=n/\(v=.esl\/∃off',v=.sl b off' 0 0 0/\off'<=off*sz))
 | .mp id,v=>id<N/\∀b n,ρ id=some (b,n)->v=.map b
 | .fn f first captured,v=>∃a b,v=.fn f a b/\Bc F ρ N first a/\Bc F ρ N captured b
 | .yl id,v=>id<N/\∀b n,ρ id=some (b,n)->v=.yld b
def Bc(F:Fz)(ρ:D2)(N:Nat):List PV->List V->Prop
 |[],l=>l=[]
 |p::ps,l=>∃v vs,l=v::vs/\PR F ρ N p v/\Bc F ρ N ps vs
end
section
variable {F F':Fz}{ρ ρ':D2}{N N':Nat}
@[simp] theorem B3(l:List V):Bc F ρ N [] l↔l=[]:=by simp[Bc]
@[simp] theorem A2(p:PV)(ps:List PV)(v:V)(vs:List V):Bc F ρ N (p::ps) (v::vs)↔PR F ρ N p v/\Bc F ρ N ps vs:=by
 simp only[Bc];constructor
 ·rintro⟨_,_,h,h1,h2⟩;cases h;exact⟨h1,h2⟩
 ·rintro⟨h1,h2⟩;exact⟨v,vs,rfl,h1,h2⟩
theorem Bc.len:∀ {ps:List PV} {vs:List V},Bc F ρ N ps vs->ps.length=vs.length
 |[],vs,h=>by simp at h;simp[h]
 |p::ps,vs,h=>by
  simp only[Bc]at h;obtain⟨v,vs,rfl,_,h2⟩:=h;simp[h2.len]
theorem Bc.append:∀ {a:List PV} {x:List V} {b:List PV} {y:List V},Bc F ρ N a x->Bc F ρ N b y->Bc F ρ N (a++b) (x++y)
 |[],x,b,y,h,h'=>by simp at h;subst h;simpa using h'
 |p::ps,x,b,y,h,h'=>by
  simp only[Bc]at h;obtain⟨v,vs,rfl,h1,h2⟩:=h;simp only[List.cons_append,A2];exact⟨h1,h2.append h'⟩
theorem Bc.drop:∀ {a:List PV} {x:List V} (n:Nat),Bc F ρ N a x->Bc F ρ N (a.drop n) (x.drop n)
 |[],x,n,h=>by simp at h;subst h;simp
 |p::ps,x,0,h=>by simpa using h
 |p::ps,x,n+1,h=>by
  simp only[Bc]at h;obtain⟨v,vs,rfl,h1,h2⟩:=h;simpa using h2.drop n
theorem Bc.take:∀ {a:List PV} {x:List V} (n:Nat),Bc F ρ N a x->Bc F ρ N (a.take n) (x.take n)
 |[],x,n,h=>by simp at h;subst h;simp
 |p::ps,x,0,h=>by simp
 |p::ps,x,n+1,h=>by
  simp only[Bc]at h;obtain⟨v,vs,rfl,h1,h2⟩:=h;simpa using⟨h1,h2.take n⟩
theorem Bc.get:∀ {a:List PV} {x:List V},Bc F ρ N a x->∀ {i:Nat} {p:PV},a[i]?=some p->∃v,x[i]?=some v/\PR F ρ N p v
 |[],x,h,i,p,hp=>by simp at hp
 |q::ps,x,h,i,p,hp=>by
  simp only[Bc]at h;obtain⟨v,vs,rfl,h1,h2⟩:=h;cases i with
  |zero=>simp at hp;subst hp;exact⟨v,rfl,h1⟩
  |succ i=>simp at hp;simpa using h2.get hp
structure Le(F:Fz)(ρ:D2)(N:Nat)(F':Fz)(ρ':D2)(N':Nat):Prop where
 fz:∀b cs,F b=some cs->F' b=some cs
 rho:∀id,id<N->ρ' id=ρ id\/ρ' id=none
 n:N<=N'
theorem Le.refl:Le F ρ N F ρ N:=⟨fun _ _ h=>h,fun _ _=>.inl rfl,yv _⟩
theorem Le.trans{F'':Fz}{ρ'':D2}{N'':Nat}(a:Le F ρ N F' ρ' N')(b:Le F' ρ' N' F'' ρ'' N''):Le F ρ N F'' ρ'' N'':=
 ⟨fun c cs h=>b.fz c cs (a.fz c cs h),fun id h=>by
  rcases b.rho id (zq h a.n)with e|e
  ·rw[e];exact a.rho id h
  ·exact .inr e,Nat.le_trans a.n b.n⟩
theorem Le.at(hl:Le F ρ N F' ρ' N'){id:Nat}(h:id<N){x:Nat×Nat}(hx:ρ' id=some x):ρ id=some x:=by
 rcases hl.rho id h with e|e
 ·rw[<-e];exact hx
 ·rw[e]at hx;cases hx
mutual
theorem PR.mono(hl:Le F ρ N F' ρ' N'):∀ {p:PV} {v:V},PR F ρ N p v->PR F' ρ' N' p v
 | .any,_,_=>by simp[PR]
 | .bl _,_,h=>by simpa only[PR]using h
 | .ub,_,h=>by simpa only[PR]using h
 | .dat s x,_,h=>by simp only[PR]at h ⊢;exact h.mono hl.fz
 | .nil,_,h| .nilp,_,h| .nilm,_,h| .nilf,_,h| .nili,_,h=>by simpa only[PR]using h
 | .agg l,_,h=>by simp only[PR]at h ⊢;obtain⟨cs,rfl,h1⟩:=h;exact⟨cs,rfl,h1.mono hl⟩
 | .tup l,_,h=>by simp only[PR]at h ⊢;obtain⟨cs,rfl,h1⟩:=h;exact⟨cs,rfl,h1.mono hl⟩
 | .ptr _ _,_,h=>by simp only[PR]at h ⊢;exact⟨zq h.1 hl.n,fun b n hb=>h.2 b n (hl.at h.1 hb)⟩
 | .eptr _ _ _ _,_,h=>by simp only[PR]at h ⊢;exact⟨zq h.1 hl.n,fun b n hb=>h.2 b n (hl.at h.1 hb)⟩
 | .FO s x off,_,h=>by
  simp only[PR]at h ⊢;obtain⟨b,o,cs,h1,h2,h3,h4⟩:=h;exact⟨b,o,cs,h1,hl.fz _ _ h2,h3,h4.mono hl.fz⟩
 | .sl _ _ _ _ _,_,h=>by simp only[PR]at h ⊢;exact⟨zq h.1 hl.n,fun b n hb=>h.2 b n (hl.at h.1 hb)⟩
 | .mp _,_,h=>by simp only[PR]at h ⊢;exact⟨zq h.1 hl.n,fun b n hb=>h.2 b n (hl.at h.1 hb)⟩
 | .fn f a b,_,h=>by
  simp only[PR]at h ⊢;obtain⟨x,y,rfl,h1,h2⟩:=h;exact⟨x,y,rfl,h1.mono hl,h2.mono hl⟩
 | .yl _,_,h=>by simp only[PR]at h ⊢;exact⟨zq h.1 hl.n,fun b n hb=>h.2 b n (hl.at h.1 hb)⟩
theorem Bc.mono(hl:Le F ρ N F' ρ' N'):∀ {ps:List PV} {vs:List V},Bc F ρ N ps vs->Bc F' ρ' N' ps vs
 |[],_,h=>by simpa using h
 |p::ps,_,h=>by
  simp only[Bc]at h ⊢;obtain⟨v,vs,rfl,h1,h2⟩:=h;exact⟨v,vs,rfl,h1.mono hl,h2.mono hl⟩
end
theorem PR.lz:∀ {p:PV} {v:V},PR F ρ N p v->PR F ρ N (lz p) v:=by
 intro p v h;unfold Pe.lz;split
 ·simp only[PR]at h ⊢;exact h.nl
 ·exact h
theorem Bc.lz:∀ {ps:List PV} {vs:List V},Bc F ρ N ps vs->Bc F ρ N (ps.map Pe.lz) vs
 |[],_,h=>by simpa using h
 |p::ps,_,h=>by
  simp only[Bc]at h;obtain⟨v,vs,rfl,h1,h2⟩:=h;simp only[List.map_cons,A2];exact⟨h1.lz,h2.lz⟩
theorem YD{s:Sh}{p:PV}{v:V}(h:PR F ρ N p v)(hc:(Ti s p).1=true):PR F ρ N (Ti s p).2 v:=by
 unfold Ti at hc ⊢;split
 ·rename_i s s' x;cases hb:(s==s')with
  |false=>exact h
  |true=>
   have hc:(bif s==s' then(decide (0<List.length x),PV.dat s'.nlist x)else(true,PV.dat s'.list x)).1=true:=hc;rw[hb]at hc;simp only[we,w5]at hc;simp only[PR,we]at h ⊢;exact h.nl' hc
 ·rename_i s s' x;cases hb:(s==s')with
  |false=>exact h
  |true=>simp only[PR,we]at h ⊢;exact h.nl
 ·exact h
theorem QW:∀ {l:List Sh} {ps:List PV} {vs:List V},Bc F ρ N ps vs->(Kj l ps).1=true->Bc F ρ N (Kj l ps).2 vs
 |[],ps,vs,h,_=>h
 |s::l,[],vs,h,_=>h
 |s::l,p::ps,vs,h,hc=>by
  simp only[Bc]at h;obtain⟨v,vs,rfl,h1,h2⟩:=h;simp only[Kj,ze]at hc;simp only[Kj,A2];exact⟨YD h1 hc.1,QW h2 hc.2⟩
def D1(F:Fz)(s:Sh)(l:List s.T)(cs:List V):Prop:=cs.length=l.length*s.sz/\∀i (h:i<l.length),DC F s l[i] ((cs.drop (i*s.sz)).take s.sz)
theorem D1.mono(hF:∀b cs,F b=some cs->F' b=some cs){s:Sh}{l:List s.T}{cs:List V}(h:D1 F s l cs):D1 F' s l cs:=⟨h.1,fun i hi=>(h.2 i hi).mono hF⟩
theorem D1.ok{F:Fz}{s:Sh}{l:List s.T}{cs:List V}(h:D1 F s l cs):∀v∈cs,v.ok=true:=by
 intro v hv;obtain⟨k,hk⟩:=List.mem_iff_getElem?.1 hv;have hkl:=(yo.1 hk).1;have hsz:0<s.sz:=by
  rcases Nat.eq_zero_or_pos s.sz with e|e
  ·rw[h.1,e,Nat.mul_zero]at hkl;omega
  ·exact e
 have hi:k/s.sz<l.length:=Nat.div_lt_of_lt_mul (by rw[Nat.mul_comm, <-h.1];exact hkl);refine(h.2 _ hi).ok v ?_;refine List.mem_iff_getElem?.2 ⟨k % s.sz,?_⟩;rw[zk (Nat.mod_lt _ hsz),zp,show k/s.sz*s.sz+k % s.sz=k from by rw[Nat.mul_comm];exact Nat.div_add_mod _ _];exact hk
def DV(F:Fz)(s:Sh)(x:s.T)(v:V):Prop:=(s.PW=true->∃cs,v=.agg cs/\DC F s x cs)/\(s.PW=false->DC F s x [v])
theorem DV.mono(hF:∀b cs,F b=some cs->F' b=some cs){s:Sh}{x:s.T}{v:V}(h:DV F s x v):DV F' s x v:=
 ⟨fun e=>by obtain⟨cs,h1,h2⟩:=h.1 e;exact⟨cs,h1,h2.mono hF⟩,fun e=>(h.2 e).mono hF⟩
inductive MR (F:Fz) (ks vs:Sh):List (ks.T×vs.T)->List (V×V×Nat)->Prop where
 |nil:MR F ks vs [] []
 |cons {k:ks.T} {v:vs.T} {l:List (ks.T×vs.T)} {a b:V} {n:Nat} {es:List (V×V×Nat)}:DV F ks k a->DV F vs v b->MR F ks vs l es->MR F ks vs ((k,v)::l) ((a,b,n)::es)
theorem MR.mono(hF:∀b cs,F b=some cs->F' b=some cs){ks vs:Sh}{l:List (ks.T×vs.T)}{es:List (V×V×Nat)}(h:MR F ks vs l es):MR F' ks vs l es:=by
 induction h with
 |nil=>exact .nil
 |cons h1 h2 _ ih=>exact .cons (h1.mono hF) (h2.mono hF) ih
def SA(sl:List (Nat×PV))(t:Nat):PV:=((Fh sl).get t).getD .any
def LpR:zH->LoopState->Option Code->Prop
 | .ready,st,pe=>st=.ready/\pe=none
 | .busy,st,_=>st=.busy
 | .ret,st,pe=>st=.done/\pe=some .ret
 | .exit i,st,pe=>st=.done/\pe=some (.exit i)
def X2(F:Fz)(ρ:D2)(N n:Nat):Obj->O->Prop
 | .arr _ e s l,o=>∃cs fz,o=.cells cs e fz/\D1 F s l cs/\fz.2<=fz.1/\l.length=n
 | .box ps,o=>∃cs t fz,o=.cells cs t fz/\Bc F ρ N ps cs/\fz.2<=fz.1/\∀v∈cs,v.ok=true
 | .tbox t ps,o=>∃cs fz,o=.cells cs t fz/\Bc F ρ N ps cs/\fz.2<=fz.1/\∀v∈cs,v.ok=true
 | .map ks vs l,o=>∃es clk,o=.map es clk/\MR F ks vs l es
 | .siter s pos,o=>o=.siter s pos
 | .lp _ _ ps asg body s n' sl,o=>∃ls,o=.loop ls/\ls.ps=ps/\ls.asg=asg/\ls.body=body/\LpR s ls.st ls.pend/\ls.fr.n=n'/\∀t,PR F ρ N (SA sl t) (ls.fr.get t)
theorem X2.mono(hl:Le F ρ N F' ρ' N'){n:Nat}{x:Obj}{o:O}(h:X2 F ρ N n x o):X2 F' ρ' N' n x o:=by
 cases x with
 |arr fz e s l=>obtain⟨cs,f,h1,h2,h3⟩:=h;exact⟨cs,f,h1,h2.mono hl.fz,h3⟩
 |box ps=>obtain⟨cs,t,f,h1,h2,h3⟩:=h;exact⟨cs,t,f,h1,h2.mono hl,h3⟩
 |tbox t ps=>obtain⟨cs,f,h1,h2,h3⟩:=h;exact⟨cs,f,h1,h2.mono hl,h3⟩
 |map ks vs l=>obtain⟨es,clk,h1,h2⟩:=h;exact⟨es,clk,h1,h2.mono hl.fz⟩
 |siter s pos=>exact h
 |lp f r ps asg body s n sl=>obtain⟨ls,h1,h2,h3,h4,h5,h6,h7⟩:=h;exact⟨ls,h1,h2,h3,h4,h5,h6,fun t=>(h7 t).mono hl⟩
def Obj.frozen:Obj->Bool
 | .arr fz _ _ _=>fz
 |_=>false
structure H0 where
 h:H
 F:Fz
 pin:List Nat
 ex:Nat->Prop:=fun _=>False
def H0.pins(h0:H0)(ps:List Nat):H0:={ h0 with pin:=ps++h0.pin }
def H0.Zo(h0:H0)(B b:Nat):Prop:=B<=b\/h0.ex b
theorem Nq{h0:H0}{B b c:Nat}(h:h0.Zo B b)(hc:c<B)(he:¬h0.ex c):c≠b:=by
 rintro rfl;rcases h with h|h
 ·omega
 ·exact he h
structure SR(B:Nat)(h0:H0)(F:Fz)(ρ:D2)(N:Nat)(ob:Ob)(h:H):Prop where
 obj:∀id o,AO ob id=some o->∃b n x,ρ id=some (b,n)/\h.get b=some x/\X2 F ρ N n o x/\(o.frozen=false->F b=none)/\
  (o.frozen=true->∃cs t fz,x=.cells cs t fz/\F b=some cs)
 inj:∀id id' o o' b n n',AO ob id=some o->AO ob id'=some o'->ρ id=some (b,n)->ρ id'=some (b,n')->id=id'
 frz:∀b cs,F b=some cs->∃t fz,h.get b=some (.cells cs t fz)
 own:∀id b n,ρ id=some (b,n)->id<N/\h0.Zo B b
 dead:∀id,AO ob id=none->ρ id=none
 old:∀b,b<B->¬h0.ex b->h.get b=h0.h.get b
 lt:∀b o,h.get b=some o->b<h.nx
 le:B<=h.nx
 fo:∀b cs,F b=some cs->h0.F b=some cs\/h0.Zo B b
 gl:∀x∈F4,x.1<B/\¬h0.ex x.1/\h0.h.get x.1=some x.2
 pn:∀b∈h0.pin,h.get b=some (.defd true)/\B<=b/\∀id n,ρ id≠some (b,n)
structure FP(F:Fz)(ρ:D2)(N:Nat)(st:AK)(fr:Fr):Prop where
 n:st.n=fr.n
 slot:∀t,PR F ρ N (st.get t) (fr.get t)
theorem FP.mono(hl:Le F ρ N F' ρ' N'){st:AK}{fr:Fr}(h:FP F ρ N st fr):FP F' ρ' N' st fr:=⟨h.n,fun t=>(h.slot t).mono hl⟩
end
section
variable {B:Nat}{h0:H0}{F:Fz}{ρ:D2}{N:Nat}
mutual
theorem Ys:∀ {v:Value} {p:PV},MP v=some p->∃x,cv v=some x/\PR F ρ N p x
 | .bool b,p,h=>by simp[MP]at h;subst h;exact⟨_,rfl,by simp[PR]⟩
 | .int k n,p,h=>by simp[MP]at h;subst h;exact⟨_,rfl,by simp[PR,DC]⟩
 | .string s,p,h=>by simp[MP]at h;subst h;exact⟨_,rfl,by simp[PR,DC]⟩
 | .pointer none,p,h=>by simp[MP]at h;subst h;exact⟨_,rfl,by simp[PR]⟩
 | .pointer (some a),p,h=>by simp[MP]at h
 | .slice none 0 0,p,h=>by simp[MP]at h;subst h;exact⟨_,rfl,by simp[PR]⟩
 | .slice none 0 (_+1),p,h=>by simp[MP]at h
 | .slice none (_+1) _,p,h=>by simp[MP]at h
 | .slice (some a) _ _,p,h=>by simp[MP]at h
 | .map none,p,h=>by simp[MP]at h;subst h;exact⟨_,rfl,by simp[PR]⟩
 | .map (some a),p,h=>by simp[MP]at h
 | .nilFunc,p,h=>by simp[MP]at h;subst h;exact⟨_,rfl,by simp[PR]⟩
 | .nilIface,p,h=>by simp[MP]at h;subst h;exact⟨_,rfl,by simp[PR]⟩
 | .func f ⟨[]⟩ ⟨[]⟩,p,h=>by simp[MP]at h;subst h;exact⟨_,rfl,by simp[PR]⟩
 | .func f ⟨_::_⟩ _,p,h=>by simp[MP]at h
 | .func f ⟨[]⟩ ⟨_::_⟩,p,h=>by simp[MP]at h
 | .agg ⟨cs⟩,p,h=>by
  simp only[MP,zl]at h;obtain⟨xs,h1,rfl⟩:=h;obtain⟨ys,h2,h3⟩:=PG h1;exact⟨.agg ys,by simp[cv,h2],by simp only[PR];exact⟨ys,rfl,h3⟩⟩
 | .tuple ⟨cs⟩,p,h=>by
  simp only[MP,zl]at h;obtain⟨xs,h1,rfl⟩:=h;obtain⟨ys,h2,h3⟩:=PG h1;exact⟨.tup ys,by simp[cv,h2],by simp only[PR];exact⟨ys,rfl,h3⟩⟩
 | .float _ _,p,h=>by simp[MP]at h
 | .complex _ _ _,p,h=>by simp[MP]at h
 | .chan _,p,h=>by simp[MP]at h
 | .iface _ _,p,h=>by simp[MP]at h
theorem PG:∀ {vs:List Value} {ps:List PV},Zu vs=some ps->∃xs,qZ vs=some xs/\Bc F ρ N ps xs
 |[],ps,h=>by simp[Zu]at h;subst h;exact⟨[],rfl,by simp⟩
 |v::vs,ps,h=>by
  unfold Zu at h;split at h
  case h_2=>cases h
  rename_i x xs h1 h2;cases h;obtain⟨y,g1,g2⟩:=Ys h1;obtain⟨ys,g3,g4⟩:=PG h2;exact⟨y::ys,by simp[qZ,g1,g3],by simp[g2,g4]⟩
end
theorem mM(v:V):PR F ρ N (Vq v) v:=by
 cases v<;>simp[Vq,PR,DC]
theorem Ec:∀vs:List V,Bc F ρ N (vs.map Vq) vs
 |[]=>by simp
 |v::vs=>by simp only[List.map_cons,A2];exact⟨mM v,Ec vs⟩
variable {C:Ctx}{st st':AK}{fr:Fr}{h:H}
theorem B4(hf:FP F ρ N st fr){x:Operand}{p:PV}(hd:P2 st x=some p):∃v,ev C fr x=some v/\PR F ρ N p v:=by
 cases x with
 |tmp t=>simp only[P2,zm]at hd;subst hd;exact⟨_,rfl,hf.slot t⟩
 |const v=>exact Ys hd
 |global g=>simp[P2]at hd
 |func f=>simp only[P2,zm]at hd;subst hd;exact⟨_,rfl,by simp[PR]⟩
theorem EO(hf:FP F ρ N st fr):∀ {xs:List Operand} {ps:List PV},Mm st xs=some ps->∃vs,QM C fr xs=some vs/\Bc F ρ N ps vs
 |[],ps,hd=>by simp[Mm]at hd;subst hd;exact⟨[],rfl,by simp⟩
 |x::xs,ps,hd=>by
  unfold Mm at hd;split at hd
  case h_2=>cases hd
  rename_i v vs h1 h2;cases hd;obtain⟨y,g1,g2⟩:=B4 (C:=C) hf h1;obtain⟨ys,g3,g4⟩:=EO hf h2;exact⟨y::ys,by simp[QM,g1,g3],by simp[g2,g4]⟩
inductive sL (F:Fz) (ρ:D2) (N:Nat):List (Nat×PV)->List (Nat×V)->Prop
 |nil:sL F ρ N [] []
 |cons {i:Nat} {p:PV} {v:V} {l:List (Nat×PV)} {l':List (Nat×V)}:PR F ρ N p v->sL F ρ N l l'->sL F ρ N ((i,p)::l) ((i,v)::l')
theorem N8(hf:FP F ρ N st fr):∀ {xs:List (Nat×Operand)} {ps:List (Nat×PV)},ZK st xs=some ps->∃vs,Vv C fr xs=some vs/\sL F ρ N ps vs
 |[],ps,hd=>by simp[ZK]at hd;subst hd;exact⟨[],rfl,.nil⟩
 |(i,x)::xs,ps,hd=>by
  unfold ZK at hd;split at hd
  case h_2=>cases hd
  rename_i v vs h1 h2;cases hd;obtain⟨y,g1,g2⟩:=B4 (C:=C) hf h1;obtain⟨ys,g3,g4⟩:=N8 hf h2;exact⟨(i,y)::ys,by simp[Vv,g1,g3],.cons g2 g4⟩
structure Rel(B:Nat)(h0:H0)(F:Fz)(ρ:D2)(st:AK)(fr:Fr)(h:H):Prop where
 fp:FP F ρ st.nx st fr
 sr:SR B h0 F ρ st.nx st.ob h
inductive PO.To:PO->PV->AK->Prop
 |val {v:PV} {st:AK}:PO.To (.val v st) v st
 |tt {a b:PO} {v:PV} {st:AK}:PO.To a v st->PO.To (.ite true a b) v st
 |ff {a b:PO} {v:PV} {st:AK}:PO.To b v st->PO.To (.ite false a b) v st
@[simp] theorem L0{v:PV}{s:AK}:¬PO.To .bad v s:=by intro h;cases h
@[simp] theorem AR{v u:PV}{s t:AK}:PO.To (.val v s) u t↔v=u/\s=t:=by
 constructor
 ·intro h;cases h;exact⟨rfl,rfl⟩
 ·rintro⟨rfl,rfl⟩;exact .val
@[simp] theorem BI{c:Bool}{v u:PV}{s t:AK}:PO.To (.HV c v s) u t↔c=true/\v=u/\s=t:=by
 constructor
 ·intro h;unfold PO.HV at h;cases h with
  |tt h=>cases h;exact⟨rfl,rfl,rfl⟩
  |ff h=>cases h
 ·rintro⟨rfl,rfl,rfl⟩;exact .tt .val
@[simp] theorem Kr{o:Option PV}{u:PV}{s t:AK}:PO.To (ov s o) u t↔o=some u/\s=t:=by
 cases o with
 |none=>simp[ov]
 |some v=>simp only[ov,AR,zm]
@[simp] theorem N4{c:Bool}{o:Option PV}{u:PV}{s t:AK}:PO.To (uX c s o) u t↔c=true/\o=some u/\s=t:=by
 cases o with
 |none=>simp[uX]
 |some v=>simp only[uX,BI,zm]
def OK(B:Nat)(h0:H0)(F:Fz)(ρ:D2)(st:AK)(h:H)(tch:List Nat)(d:Option OR)(v:PV)(st':AK):Prop:=
 ∃v' h' F' ρ',(d=some (.val v' h')\/(d=some (.skip h')/\v'=.tup []))/\PR F' ρ' st'.nx v v'/\SR B h0 F' ρ' st'.nx st'.ob h'/\Le F ρ st.nx F' ρ' st'.nx/\
  st'.fr=st.fr/\st'.n=st.n/\h.nx<=h'.nx/\∀b,b<h.nx->h'.get b=h.get b\/∃id∈tch,∃n,ρ id=some (b,n)
theorem OK.pure{tch:List Nat}(hr:SR B h0 F ρ st.nx st.ob h){d:Option OR}{v:PV}{v':V}(hd:d=some (.val v' h))(hv:PR F ρ st.nx v v'):OK B h0 F ρ st h tch d v st:=
 ⟨v',h,F,ρ,.inl hd,hv,hr,Le.refl,rfl,rfl,yv _,fun _ _=>.inl rfl⟩
theorem LU{α:Type}(n:Nat)(l:List α):Det.H5 n l=l.drop n:=Kv n l
theorem rd_some{h:H}{b off n:Nat}{cs:List V}{t:TypeId}{fz:Nat×Nat}(hg:h.get b=some (.cells cs t fz))(hl:off+n<=cs.length)(hk:∀v∈(cs.drop off).take n,v.ok=true):rd h b off n=some ((cs.drop off).take n):=by
 rw[W9];unfold uY;rw[hg];simp only;rw[wd ⟨hl,ku.2 hk⟩]
theorem Ki{d:TypeDesc}{n:Nat}{ps:List PV}{cs:List V}(hp:Bc F ρ N ps cs){p:PV}(hd:pick d n ps=some p):
  (DN d=true/\0<n/\n<=cs.length/\PR F ρ N p (.agg (cs.take n)))\/(DN d=false/\∃v vs,cs=v::vs/\PR F ρ N p v):=by
 unfold pick at hd;cases ha:DN d with
 |true=>
  left;simp only[ha,we]at hd;rw[Cy,Kw]at hd;cases hb:(zr n ps.length&&qf 0 n)with
  |false=>rw[hb]at hd;cases hd
  |true=>
   rw[hb]at hd;simp only[we,zm]at hd;subst hd;simp only[ze]at hb;obtain⟨hb,hb2⟩:=hb;refine⟨rfl,zh hb2,by rw[<-hp.len];exact zh hb,?_⟩;simp only[PR];exact⟨_,rfl,hp.take n⟩
 |false=>
  right;simp only[ha,wg]at hd;cases ps with
  |nil=>cases hd
  |cons q qs=>
   cases hd;simp only[Bc]at hp;obtain⟨v,vs,rfl,h1,_⟩:=hp;exact⟨rfl,v,vs,rfl,h1⟩
theorem CT:∀ {s:Sh} {x:s.T} {cs:List V},DC F s x cs->Bc F ρ N (flat s x) cs
 | .pair a b,(x,y),cs,h=>by
  simp only[DC]at h;obtain⟨c,d,rfl,h1,h2⟩:=h;exact(CT h1).append (CT h2)
 | .unit,_,cs,h=>by simp only[DC]at h;subst h;simp[flat]
 | .int k,x,cs,h=>by simp only[DC]at h;subst h;simp only[flat,A2,B3,wn];simp[PR,DC]
 | .bool,x,cs,h=>by simp only[DC]at h;subst h;simp only[flat,A2,B3,wn];simp[PR,DC]
 | .str,x,cs,h=>by simp only[DC]at h;subst h;simp only[flat,A2,B3,wn];simp[PR,DC]
 | .list s,x,cs,h=>by
  have h':=h;simp only[DC]at h;obtain⟨v,rfl,_⟩:=h;simp only[flat,A2,B3,wn,PR];exact h'
 | .fnv,x,cs,h=>by simp only[DC]at h;subst h;simp only[flat,A2,B3,wn];cases (x:Option Fn)<;>simp[PR]
 | .nlist s,x,cs,h=>by
  have h':=h;simp only[DC]at h;obtain⟨v,rfl,_⟩:=h;simp only[flat,A2,B3,wn,PR];exact h'
theorem FG{α:Type}(l:List α)(a b:Nat):l.drop (a+b)=(l.drop a).drop b:=by rw[List.drop_drop]
theorem GV{T:BS}{t:TypeId}{d:TypeDesc}{i:TI}(hd:T.und t=some d)(hi:T.inf t=some i){b off:Nat}{cs:List V}{te:TypeId}{fz:Nat×Nat}(hg:h.get b=some (.cells cs te fz))
  {m:Nat} (hok:∀v∈(cs.drop off).take m,v.ok=true) {ps:List PV} (hp:Bc F ρ N ps ((cs.drop off).take m)) {p:PV} (hpk:pick d i.size ps=some p):∃v,EV T h t (.ptr b off)=some v/\PR F ρ N p v:=by
 unfold EV;simp only[hd,hi];have hlen:((cs.drop off).take m).length<=cs.length-off:=by simp;omega
 have hoff:off<=cs.length:=by
  have:0<((cs.drop off).take m).length:=by
   rcases Ki hp hpk with⟨_,h0,hn,_⟩|⟨_,v,vs,e,_⟩
   ·omega
   ·rw[e];simp
  simp at this;omega
 rcases Ki hp hpk with⟨ha,_,hn,hv⟩|⟨ha,v,vs,hcs,hv⟩
 ·simp only[ha,we];have:(cs.drop off).take i.size=((cs.drop off).take m).take i.size:=by
   rw[List.take_take];have:i.size<=m:=by
    have:=hn;simp at this;omega
   rw[Nat.min_eq_left this]
  rw[rd_some hg (by omega) (fun v hv=>hok v (ye (by rwa [this]at hv)))];refine⟨_,rfl,?_⟩;rw[this];exact hv
 ·simp only[ha,wg];have h1:off+1<=cs.length:=by
   have:((cs.drop off).take m).length=vs.length+1:=by rw[hcs];rfl
   omega
  have h2:(cs.drop off).take 1=[v]:=by
   have:m≠0:=by rintro rfl;simp at hcs
   obtain⟨k,rfl⟩:=Nat.exists_eq_succ_of_ne_zero this;cases hc:cs.drop off with
   |nil=>rw[hc]at hcs;simp at hcs
   |cons a AaJ=>rw[hc]at hcs;simp only[List.take_succ_cons,List.cons.injEq]at hcs;simp[hcs.1]
  rw[rd_some hg h1 (fun u hu=>by rw[h2]at hu;cases zg.1 hu;exact hok v (by rw[hcs];simp)),h2];exact⟨v,rfl,hv⟩
end
section
variable {B:Nat}{h0:H0}{F:Fz}{ρ:D2}{N:Nat}{C:Ctx}{st st':AK}{fr:Fr}{h:H}
theorem SR.at(hr:SR B h0 F ρ N st.ob h){id:Nat}{o:Obj}(ho:st.obj id=some o):∃b n x,ρ id=some (b,n)/\h.get b=some x/\X2 F ρ N n o x/\(o.frozen=false->F b=none)/\
  (o.frozen=true->∃cs t fz,x=.cells cs t fz/\F b=some cs):=hr.obj id o ho
theorem Od{s:Sh}{l:List s.T}{cs:List V}(hd:D1 F s l cs)(hs:s.sz=1):∀(n j:Nat),j+n=l.length->Bc F ρ N (Oy s l j n) (cs.drop j)
 |0,j,hj=>by
  have:cs.length=l.length:=by rw[hd.1,hs,jt]
  rw[List.drop_eq_nil_of_le (by omega)];unfold Oy;simp
 |n+1,j,hj=>by
  have hl:cs.length=l.length:=by rw[hd.1,hs,jt]
  have hjl:j<l.length:=by omega
  have h1:=hd.2 j hjl;rw[hs,jt]at h1;have e:cs.drop j=(cs.drop j).take 1++cs.drop (j+1):=by
   have:=List.take_append_drop 1 (cs.drop j);rw[List.drop_drop]at this;exact this.symm
  unfold Oy;rw[e,show l.getD j s.Ht=l[j]from by simp[hjl]];exact(CT h1).append (Od hd hs n (j+1) (by omega))
theorem cZ(hr:SR B h0 F ρ st.nx st.ob h){t:TypeId}{p:PV}{a:V}(ha:PR F ρ st.nx p a){v:PV}(ht:(ML C.T st t p).To v st'):
  OK B h0 F ρ st h [] (Bv h (EV C.T h t a)) v st':=by
 unfold ML at ht;split at ht
 case h_2=>simp at ht
 rename_i d i hd hi;split at ht
 case h_4=>simp at ht
 case h_1=>
  rename_i id off;split at ht
  case h_4=>simp at ht
  case h_3=>
   rename_i tb ps ho;simp only[Kr]at ht;obtain⟨hpk,rfl⟩:=ht;obtain⟨b,n,x,h1,h2,⟨cs,fz,rfl,h4,_,hbok⟩,_⟩:=hr.at ho;simp only[PR]at ha;obtain rfl:=ha.2 b n h1;rw[LU]at hpk;obtain⟨v',g1,g2⟩:=GV (h:=h) hd hi h2 (m:=cs.length) (fun u hu=>hbok u (zt (ye hu))) (by rw[zu (by simp)];exact h4.drop off) hpk;exact OK.pure hr (by rw[g1];rfl) g2
  case h_2=>
   rename_i fzb e s l ho;cases hsz:(zj off 0&&zj s.sz 1)with
   |false=>rw[hsz]at ht;simp at ht
   |true=>
    rw[hsz]at ht;simp only[we,N4,w5]at ht;obtain⟨hj,hpk,rfl⟩:=ht;rw[ze]at hsz;have h0:=zc hsz.1;have h1s:=zc hsz.2;subst h0;obtain⟨b,n,x,h1,h2,⟨cs,fz,rfl,h4,_⟩,_⟩:=hr.at ho;simp only[PR]at ha;obtain rfl:=ha.2 b n h1;have hp:=Od (ρ:=ρ) (N:=st.nx) h4 h1s i.size 0 (by omega);obtain⟨v',g1,g2⟩:=GV (h:=h) hd hi h2 (m:=cs.length) (fun u hu=>h4.ok u (zt (ye hu))) (by rw[zu (by simp)];exact hp) hpk;exact OK.pure hr (by rw[g1];rfl) g2
  rename_i ps ho;simp only[Kr]at ht;obtain⟨hpk,rfl⟩:=ht;obtain⟨b,n,x,h1,h2,⟨cs,te,fz,rfl,h4,_,hbok⟩,_⟩:=hr.at ho;simp only[PR]at ha;obtain rfl:=ha.2 b n h1;rw[LU]at hpk;obtain⟨v',g1,g2⟩:=GV (h:=h) hd hi h2 (m:=cs.length) (fun u hu=>hbok u (zt (ye hu))) (by rw[zu (by simp)];exact h4.drop off) hpk;exact OK.pure hr (by rw[g1];rfl) g2
 case h_2=>
  rename_i id sz j off;split at ht
  case h_2=>simp at ht
  rename_i fzb e s l ho;cases hsz:zj sz s.sz with
  |false=>rw[hsz]at ht;simp at ht
  |true=>
   rw[hsz]at ht;simp only[we,N4,w5]at ht;obtain⟨hj,hpk,rfl⟩:=ht;have hsz:=zc hsz;subst hsz;obtain⟨b,n,x,h1,h2,⟨cs,fz,rfl,h4,_⟩,_⟩:=hr.at ho;simp only[PR]at ha;obtain rfl:=ha.2 b n h1;have hdc:=h4.2 j hj;rw[show l.getD j s.Ht=l[j]from by simp[hj],LU]at hpk;have hp:Bc F ρ st.nx ((flat s l[j]).drop off) ((cs.drop (j*s.sz+off)).take (s.sz-off)):=by
    have:=(CT (F:=F) (ρ:=ρ) (N:=st.nx) hdc).drop off;rw[FG, <-jk]at*;exact this
   obtain⟨v',g1,g2⟩:=GV (h:=h) hd hi h2 (fun u hu=>hdc.ok u (zt (i:=off) (by rw[FG, <-jk]at hu;exact hu))) hp hpk;exact OK.pure hr (by rw[g1];rfl) g2
 case h_3=>
  rename_i s x off;simp only[Kr]at ht;obtain⟨hpk,rfl⟩:=ht;simp only[PR]at ha;obtain⟨b,o,cs,rfl,h1,h2,h3⟩:=ha;obtain⟨te,fz,h4⟩:=hr.frz b cs h1;rw[LU]at hpk;have hp:Bc F ρ st.nx ((flat s x).drop off) ((cs.drop (o+off)).take (s.sz-off)):=by
   have:=(CT (F:=F) (ρ:=ρ) (N:=st.nx) h3).drop off;rw[FG, <-jk]at*;exact this
  obtain⟨v',g1,g2⟩:=GV (h:=h) hd hi h4 (fun u hu=>h3.ok u (zt (i:=off) (by rw[FG, <-jk]at hu;exact hu))) hp hpk;exact OK.pure hr (by rw[g1];rfl) g2
theorem DC.Rb:∀ {s:Sh} {x:s.T} {cs:List V},DC F s x cs->∀v∈cs,v.one=true
 | .int _,_,_,h=>by simp only[DC]at h;subst h;intro v hv;rw[zg.1 hv];rfl
 | .bool,_,_,h=>by simp only[DC]at h;subst h;intro v hv;rw[zg.1 hv];rfl
 | .str,_,_,h=>by simp only[DC]at h;subst h;intro v hv;rw[zg.1 hv];rfl
 | .list s,l,_,h=>by
  simp only[DC]at h;obtain⟨u,rfl,h⟩:=h;intro v hv;rw[zg.1 hv];rcases h with⟨_,rfl|rfl|rfl⟩|⟨b,off,cap,o,bs,rfl,_⟩<;>rfl
 | .pair a b,x,_,h=>by
  simp only[DC]at h;obtain⟨c,d,rfl,h1,h2⟩:=h;intro v hv;rcases List.mem_append.1 hv with hv|hv
  ·exact h1.Rb v hv
  ·exact h2.Rb v hv
 | .unit,_,_,h=>by simp only[DC]at h;subst h;intro v hv;cases hv
 | .fnv,x,_,h=>by simp only[DC]at h;subst h;intro v hv;rw[zg.1 hv];cases (x:Option Fn)<;>rfl
 | .nlist s,l,_,h=>by
  simp only[DC]at h;obtain⟨u,rfl,h⟩:=h;intro v hv;rw[zg.1 hv];rcases h with⟨_,rfl⟩|⟨_,b,off,cap,o,bs,rfl,_⟩<;>rfl
theorem HY{o:Option Obj}(h:HW o=true):∃x,o=some x:=by cases o with|none=>cases h|some x=>exact⟨x,rfl⟩
theorem QY(hr:SR B h0 F ρ st.nx st.ob h){p:PV}{v:V}(hs:JG st p=true)(hp:PR F ρ st.nx p v):v.one=true:=by
 have key:∀ {id:Nat},HW (st.obj id)=true->∃b n,ρ id=some (b,n):=by
  intro id hi;obtain⟨o,ho⟩:=HY hi;obtain⟨b,n,_,h1,_⟩:=hr.at ho;exact⟨b,n,h1⟩
 cases p<;>simp only[JG]at hs<;>simp only[PR]at hp<;>try (cases hs;done)
 case bl=>subst hp;rfl
 case dat=>exact hp.Rb v (zg.2 rfl)
 case nil|nilp|nilm|nilf|nili=>subst hp;rfl
 case ptr=>obtain⟨b,n,h1⟩:=key hs;rw[hp.2 b n h1];rfl
 case eptr=>obtain⟨b,n,h1⟩:=key hs;rw[hp.2 b n h1];rfl
 case FO=>obtain⟨b,o,cs,rfl,_⟩:=hp;rfl
 case sl=>
  obtain⟨b,n,h1⟩:=key hs;rcases hp.2 b n h1 with⟨_,_,o,_,rfl⟩|⟨_,_,_,rfl|⟨_,rfl,_⟩⟩<;>rfl
 case mp|yl=>obtain⟨b,n,h1⟩:=key hs;rw[hp.2 b n h1];rfl
 case fn=>obtain⟨a,b,rfl,_⟩:=hp;rfl
theorem ZI{v:V}(h:v.one=true):v.cells=[v]:=by cases v<;>first|rfl|cases h
theorem No(hr:SR B h0 F ρ st.nx st.ob h){p:PV}{v:V}{ps:List PV}(hp:PR F ρ st.nx p v)(hd:vD st p=some ps):Bc F ρ st.nx ps v.cells:=by
 unfold vD at hd;split at hd
 ·cases hd;simp only[PR]at hp;obtain⟨cs,rfl,h1⟩:=hp;exact h1
 ·rename_i q hq;cases hs:JG st p with
  |false=>rw[hs]at hd;cases hd
  |true=>
   rw[hs]at hd;cases hd;rw[ZI (QY hr hs hp)];simpa using hp
theorem J3(hr:SR B h0 F ρ st.nx st.ob h):∀ {ps:List PV} {vs:List V},ps.all (JG st)=true->Bc F ρ st.nx ps vs->vs.all V.one=true
 |[],vs,_,h=>by simp at h;subst h;rfl
 |p::ps,vs,ha,h=>by
  simp only[Bc]at h;obtain⟨v,vs,rfl,h1,h2⟩:=h;simp only[List.all_cons,ze]at ha ⊢;exact⟨QY hr ha.1 h1,J3 hr ha.2 h2⟩
theorem Bc.JE:∀ {a:List PV} {x:List V} {b:List PV} {y:List V},Bc F ρ N a x->Bc F ρ N b y->Bc F ρ N (JE a b) (JE x y)
 |[],x,b,y,h,h'=>by simp at h;subst h;exact h'
 |p::ps,x,b,y,h,h'=>by
  simp only[Bc]at h;obtain⟨v,vs,rfl,h1,h2⟩:=h;cases b with
  |nil=>simp at h';subst h';show Bc F ρ N [] [];simp
  |cons q qs=>
   simp only[Bc]at h';obtain⟨u,us,rfl,g1,g2⟩:=h';show Bc F ρ N (p::Det.JE ps qs) (v::Det.JE vs us);simp only[A2];exact⟨h1,h2.JE g2⟩
theorem Bc.Ck{a:List PV}{x:List V}(ha:Bc F ρ N a x):∀(n:Nat) {b:List PV} {y:List V},Bc F ρ N b y->Bc F ρ N (Ck n a b) (Ck n x y)
 |0,b,y,h=>ha.JE h
 |n+1,[],y,h=>by simp at h;subst h;show Bc F ρ N [] [];simp
 |n+1,q::qs,y,h=>by
  simp only[Bc]at h;obtain⟨u,us,rfl,g1,g2⟩:=h;show Bc F ρ N (q::xj n a qs) (u::xj n x us);simp only[A2];exact⟨g1,Bc.Ck ha n g2⟩
theorem GZ:∀(l:Ob) (i:Nat) (x:Obj) (j:Nat),(AO l i).isSome=true->AO (Dx l i x) j=if j=i then some x else AO l j
 |[],i,x,j,h=>by cases h
 |(a,o)::l,i,x,j,h=>by
  simp only[Dx,AO,Bp]at h ⊢;by_cases e:a=i
  ·subst e;simp only[decide_true,we,AO,Bp];by_cases e2:a=j
   ·subst e2;simp
   ·rw[wc (fun h=>e2 h.symm)];simp[e2]
  ·simp only[e,decide_false,wg]at h ⊢;simp only[AO,Bp];by_cases e2:a=j
   ·subst e2;simp[e]
   ·simp only[e2,decide_false,wg];exact GZ l i x j h
theorem MD{b off:Nat}{vs cs:List V}{t:TypeId}{fz:Nat×Nat}(hg:h.get b=some (.cells cs t fz))(hl:off+vs.length<=cs.length)(hfz:fz.2<=fz.1)(ho:vs.all V.one=true):
  wr h b off vs=some (h.put b (.cells (Ck off vs cs) t fz)):=by
 unfold wr;simp only[hg,Cy,E8,ho];have h1:zr (je off vs.length) cs.length=true:=Nat.ble_eq_true_of_le hl;have h2:Det.clear fz off vs.length=true:=by
  unfold Det.clear;rw[show zr fz.2 fz.1=true from Nat.ble_eq_true_of_le hfz,Bool.or_true]
 rw[h1,h2];rfl
theorem SR.set(hr:SR B h0 F ρ st.nx st.ob h){id b n:Nat}{o o':Obj}{x x':O}(ho:st.obj id=some o)(hb:ρ id=some (b,n))(hg:h.get b=some x)(hf:o.frozen=false)(hf':o'.frozen=false)
  (hx:X2 F ρ st.nx n o' x'):SR B h0 F ρ st.nx (Dx st.ob id o') (h.put b x'):=by
 have hob:AO st.ob id=some o:=ho;have hFb:F b=none:=by
  obtain⟨b',n',_,h1,_,_,h2,_⟩:=hr.at ho;rw[hb]at h1;cases h1;exact h2 hf
 have hset:∀j,AO (Dx st.ob id o') j=if j=id then some o' else AO st.ob j:=fun j=>GZ _ _ _ _ (by rw[hob];rfl)
 refine⟨fun j oj hj=>?_,fun i j oi oj c m m' hi hj h1 h2=>?_,fun c cs hc=>?_,hr.own,fun j hj=>?_,fun c hc he=>?_,fun c oc hc=>?_,hr.le,hr.fo,hr.gl,fun c hc=>?_⟩
 ·rw[hset]at hj;by_cases e:j=id
  ·subst e;simp only[wk,zm]at hj;subst hj;exact⟨b,n,x',hb,by simp,hx,fun _=>hFb,fun e=>by rw[hf']at e;cases e⟩
  ·rw[wc e]at hj;obtain⟨c,m,y,h1,h2,h3,h4,h5⟩:=hr.obj j oj hj;have hne:c≠b:=fun ec=>e (hr.inj j id oj o c m n hj hob h1 (ec▸hb))
   exact⟨c,m,y,h1,by rw[H.Bm,wc hne];exact h2,h3,h4,h5⟩
 ·have get':∀k ok,AO (Dx st.ob id o') k=some ok->∃o2,AO st.ob k=some o2:=by
   intro k ok hk;rw[hset]at hk;by_cases e:k=id
   ·exact⟨o,e▸hob⟩
   ·rw[wc e]at hk;exact⟨ok,hk⟩
  obtain⟨_,g1⟩:=get' i oi hi;obtain⟨_,g2⟩:=get' j oj hj;exact hr.inj i j _ _ c m m' g1 g2 h1 h2
 ·have hne:c≠b:=fun e=>by rw[e,hFb]at hc;cases hc
  rw[H.Bm,wc hne];exact hr.frz c cs hc
 ·rw[hset]at hj;by_cases e:j=id
  ·rw[wd e]at hj;cases hj
  ·rw[wc e]at hj;exact hr.dead j hj
 ·have hne:c≠b:=Nq (hr.own id b n hb).2 hc he;rw[H.Bm,wc hne];exact hr.old c hc he
 ·rw[H.Bm]at hc;by_cases e:c=b
  ·subst e;exact hr.lt _ _ hg
  ·rw[wc e]at hc;exact hr.lt c oc hc
 ·obtain⟨g1,g2,g3⟩:=hr.pn c hc;have hne:c≠b:=fun e=>g3 id n (e▸hb)
  exact⟨by rw[H.Bm,wc hne];exact g1,g2,g3⟩
def BJ(ρ:D2)(i:Nat)(x:Option (Nat×Nat)):D2:=fun j=>if j=i then x else ρ j
theorem Le.M8(i:Nat):Le F ρ N F (BJ ρ i none) N:=⟨fun _ _ h=>h,fun id _=>by unfold BJ;split<;>simp_all,yv _⟩
theorem Le.new(x:Nat×Nat):Le F ρ N F (BJ ρ N (some x)) (N+1):=⟨fun _ _ h=>h,fun id h=>by unfold BJ;rw[wc (by omega)];exact .inl rfl,Nat.le_succ _⟩
theorem SR.push{ob:Ob}(hr:SR B h0 F ρ N ob h){o:Obj}{x:O}{n:Nat}(hf:o.frozen=false)(hx:X2 F (BJ ρ N (some (h.nx,n))) (N+1) n o x):
  SR B h0 F (BJ ρ N (some (h.nx,n))) (N+1) ((N,o)::ob) (h.push x):=by
 have hl:Le F ρ N F (BJ ρ N (some (h.nx,n))) (N+1):=Le.new _;have hget:∀j,AO ((N,o)::ob) j=if j=N then some o else AO ob j:=by
  intro j;simp only[AO,Bp];by_cases e:N=j
  ·subst e;simp
  ·rw[wc (fun h=>e h.symm)];simp[e]
 have hlt:∀id b m,ρ id=some (b,m)->id<N:=fun id b m hb=>(hr.own id b m hb).1
 have hnew:∀b y,h.get b=some y->b≠h.nx:=fun b y hb=>by have:=hr.lt b y hb;omega
 refine⟨fun j oj hj=>?_,fun i j oi oj c m m' hi hj h1 h2=>?_,fun c cs hc=>?_,fun id b m hb=>?_,fun j hj=>?_,fun c hc he=>?_,fun c oc hc=>?_,?_,?_,hr.gl,fun c hc=>?_⟩
 ·rw[hget]at hj;by_cases e:j=N
  ·subst e;simp only[wk,zm]at hj;subst hj;refine⟨h.nx,n,x,by simp[BJ],by simp,hx,fun _=>?_,fun e=>by rw[hf]at e;cases e⟩;cases hc:F h.nx with
   |none=>rfl
   |some cs=>
    obtain⟨t,fz,hg⟩:=hr.frz _ _ hc;exact wh rfl (hnew _ _ hg)
  ·rw[wc e]at hj;obtain⟨c,m,y,h1,h2,h3,h4,h5⟩:=hr.obj j oj hj;exact⟨c,m,y,by simp[BJ,e,h1],by rw[H.BE,wc (hnew c y h2)];exact h2,h3.mono hl,h4,h5⟩
 ·rw[hget]at hi hj;have key:∀k ok m,(if k=N then some o else AO ob k)=some ok->BJ ρ N (some (h.nx,n)) k=some (c,m)->(k=N/\c=h.nx)\/(k≠N/\AO ob k=some ok/\ρ k=some (c,m)/\c≠h.nx):=by
   intro k ok m hk hr';by_cases e:k=N
   ·subst e;simp[BJ]at hr';exact .inl ⟨rfl,hr'.1.symm⟩
   ·rw[wc e]at hk;simp only[BJ,e,ve]at hr';obtain⟨c',m',y,g1,g2,_⟩:=hr.obj k ok hk;rw[hr']at g1;cases g1;exact .inr ⟨e,hk,hr',hnew c y g2⟩
  rcases key i oi m hi h1 with⟨e1,e2⟩|⟨e1,e2,e3,e4⟩<;>rcases key j oj m' hj h2 with⟨f1,f2⟩|⟨f1,f2,f3,f4⟩
  ·rw[e1,f1]
  ·exact wh e2 f4
  ·exact wh f2 e4
  ·exact hr.inj i j oi oj c m m' e2 f2 e3 f3
 ·obtain⟨t,fz,hg⟩:=hr.frz c cs hc;exact⟨t,fz,by rw[H.BE,wc (hnew c _ hg)];exact hg⟩
 ·unfold BJ at hb;split at hb
  ·rename_i e;cases hb;subst e;exact⟨Nat.lt_succ_self _,.inl hr.le⟩
  ·have:=hr.own id b m hb;exact⟨by omega,this.2⟩
 ·rw[hget]at hj;by_cases e:j=N
  ·rw[wd e]at hj;cases hj
  ·rw[wc e]at hj;simp[BJ,e,hr.dead j hj]
 ·have:=hr.le;rw[H.BE,wc (by omega)];exact hr.old c hc he
 ·rw[H.BE]at hc;by_cases e:c=h.nx
  ·subst e;exact Nat.lt_succ_self _
  ·rw[wc e]at hc;have:=hr.lt c oc hc;show c<h.nx+1;omega
 ·have:=hr.le;show B<=h.nx+1;omega
 ·exact hr.fo
 ·obtain⟨g1,g2,g3⟩:=hr.pn c hc;have hne:=hnew c _ g1;refine⟨by rw[H.BE,wc hne];exact g1,g2,fun id m e=>?_⟩;unfold BJ at e;split at e
  ·cases e;exact hne rfl
  ·exact g3 id m e
theorem DZ:∀(l:Ob) (i j:Nat),AO (F8 l i) j=if j=i then none else AO l j
 |[],i,j=>by simp[F8,AO]
 |(a,o)::l,i,j=>by
  simp only[F8,Bp];by_cases e:a=i
  ·subst e;simp only[decide_true,we];rw[DZ l a j];simp only[AO,Bp];by_cases e2:j=a
   ·simp[e2]
   ·rw[wc e2];have e3:¬a=j:=fun h=>e2 h.symm
    simp[e3,e2]
  ·simp only[e,decide_false,wg,AO,Bp];rw[DZ l i j];by_cases e2:a=j
   ·subst e2;simp[e]
   ·simp[e2]
theorem SR.del{ob:Ob}(hr:SR B h0 F ρ N ob h)(id:Nat):SR B h0 F (BJ ρ id none) N (F8 ob id) h:=by
 have hl:Le F ρ N F (BJ ρ id none) N:=Le.M8 id;refine⟨fun j oj hj=>?_,fun i j oi oj c m m' hi hj h1 h2=>?_,hr.frz,fun j b m hb=>?_,fun j hj=>?_,hr.old,hr.lt,hr.le,hr.fo,hr.gl,fun c hc=>?_⟩
 ·rw[DZ]at hj;split at hj
  ·cases hj
  ·rename_i e;obtain⟨c,m,y,h1,h2,h3,h4⟩:=hr.obj j oj hj;exact⟨c,m,y,by simp[BJ,e,h1],h2,h3.mono hl,h4⟩
 ·rw[DZ]at hi hj;split at hi
  ·cases hi
  split at hj
  ·cases hj
  rename_i e1 e2;simp only[BJ,e1,e2,ve]at h1 h2;exact hr.inj i j oi oj c m m' hi hj h1 h2
 ·unfold BJ at hb;split at hb
  ·cases hb
  ·exact hr.own j b m hb
 ·rw[DZ]at hj;unfold BJ;split
  ·rfl
  ·rename_i e;rw[wc e]at hj;exact hr.dead j hj
 ·obtain⟨g1,g2,g3⟩:=hr.pn c hc;refine⟨g1,g2,fun j m e=>?_⟩;unfold BJ at e;split at e
  ·cases e
  ·exact g3 j m e
theorem SR.kill{ob:Ob}(hr:SR B h0 F ρ N ob h){b:Nat}(h1:∀id o n,AO ob id=some o->ρ id≠some (b,n))(h2:F b=none)(h3:h0.Zo B b)(h4:b∉h0.pin):SR B h0 F ρ N ob (h.kill b):=by
 refine⟨fun j oj hj=>?_,hr.inj,fun c cs hc=>?_,hr.own,hr.dead,fun c hc he=>?_,fun c oc hc=>?_,hr.le,hr.fo,hr.gl,fun c hc=>?_⟩
 ·obtain⟨c,m,y,g1,g2,g3⟩:=hr.obj j oj hj;have:c≠b:=fun e=>h1 j oj m hj (e▸g1)
  exact⟨c,m,y,g1,by rw[H.B2,wc this];exact g2,g3⟩
 ·have:c≠b:=fun e=>by rw[e,h2]at hc;cases hc
  rw[H.B2,wc this];exact hr.frz c cs hc
 ·have:c≠b:=Nq h3 hc he;rw[H.B2,wc this];exact hr.old c hc he
 ·rw[H.B2]at hc;split at hc
  ·cases hc
  ·exact hr.lt c oc hc
 ·obtain⟨g1,g2,g3⟩:=hr.pn c hc;have hne:c≠b:=fun e=>h4 (e▸hc)
  exact⟨by rw[H.B2,wc hne];exact g1,g2,g3⟩
theorem CE{s s':Sh}{x:s.T}{y:s'.T}(h:DU s s' x=some y):∃e:s=s',e▸x=y:=by
 unfold DU at h;split at h
 ·rename_i e;cases h;exact⟨e,rfl⟩
 ·cases h
theorem G7{s:Sh}{p:PV}{x:s.T}{v:V}(hp:PR F ρ N p v)(hd:nY s p=some x):DC F s x [v]:=by
 unfold nY at hd;split at hd
 ·obtain⟨rfl,rfl⟩:=CE hd;simpa only[PR]using hp
 ·obtain⟨rfl,rfl⟩:=CE hd;simp only[PR]at hp;subst hp;simp[DC]
 ·obtain⟨rfl,rfl⟩:=CE hd;simp only[PR,B3]at hp;obtain⟨_,_,rfl,rfl,rfl⟩:=hp;simp[DC]
 ·obtain⟨rfl,rfl⟩:=CE hd;simp only[PR]at hp;subst hp;simp[DC]
 ·split at hd
  ·cases hd;simp only[PR]at hp;subst hp;simp[DC]
  ·cases hd;simp only[PR]at hp;subst hp;simp[DC]
  ·cases hd
 ·cases hd
theorem Hd:∀ {s:Sh} {ps:List PV} {vs:List V} {x:s.T} {rest:List PV},Bc F ρ N ps vs->Ct s ps=some (x,rest)->∃a b,vs=a++b/\DC F s x a/\Bc F ρ N rest b
 | .pair s t,ps,vs,x,rest,hp,hd=>by
  unfold Ct at hd;split at hd
  case h_2=>cases hd
  rename_i y l1 h1;split at hd
  case h_2=>cases hd
  rename_i z l2 h2;cases hd;obtain⟨a,b,rfl,g1,g2⟩:=Hd hp h1;obtain⟨c,d,rfl,g3,g4⟩:=Hd g2 h2;exact⟨a++c,d,by simp,by simp only[DC];exact⟨a,c,rfl,g1,g3⟩,g4⟩
 | .unit,ps,vs,x,rest,hp,hd=>by
  unfold Ct at hd;cases hd;exact⟨[],vs,rfl,by simp[DC],hp⟩
 | .int k,[],vs,x,rest,hp,hd=>by simp[Ct]at hd
 | .bool,[],vs,x,rest,hp,hd=>by simp[Ct]at hd
 | .str,[],vs,x,rest,hp,hd=>by simp[Ct]at hd
 | .list s,[],vs,x,rest,hp,hd=>by simp[Ct]at hd
 | .nlist s,[],vs,x,rest,hp,hd=>by simp[Ct]at hd
 | .fnv,[],vs,x,rest,hp,hd=>by simp[Ct]at hd
 | .int k,p::ps,vs,x,rest,hp,hd=>by
  simp only[Bc]at hp;obtain⟨v,vs,rfl,h1,h2⟩:=hp;simp only[Ct]at hd;split at hd
  ·rename_i y hy;cases hd;exact⟨[v],vs,rfl,G7 h1 hy,h2⟩
  ·cases hd
 | .bool,p::ps,vs,x,rest,hp,hd=>by
  simp only[Bc]at hp;obtain⟨v,vs,rfl,h1,h2⟩:=hp;simp only[Ct]at hd;split at hd
  ·rename_i y hy;cases hd;exact⟨[v],vs,rfl,G7 h1 hy,h2⟩
  ·cases hd
 | .str,p::ps,vs,x,rest,hp,hd=>by
  simp only[Bc]at hp;obtain⟨v,vs,rfl,h1,h2⟩:=hp;simp only[Ct]at hd;split at hd
  ·rename_i y hy;cases hd;exact⟨[v],vs,rfl,G7 h1 hy,h2⟩
  ·cases hd
 | .list s,p::ps,vs,x,rest,hp,hd=>by
  simp only[Bc]at hp;obtain⟨v,vs,rfl,h1,h2⟩:=hp;simp only[Ct]at hd;split at hd
  ·rename_i y hy;cases hd;exact⟨[v],vs,rfl,G7 h1 hy,h2⟩
  ·cases hd
 | .fnv,p::ps,vs,x,rest,hp,hd=>by
  simp only[Bc]at hp;obtain⟨v,vs,rfl,h1,h2⟩:=hp;simp only[Ct]at hd;split at hd
  ·rename_i y hy;cases hd;exact⟨[v],vs,rfl,G7 h1 hy,h2⟩
  ·cases hd
 | .nlist s,p::ps,vs,x,rest,hp,hd=>by
  simp only[Bc]at hp;obtain⟨v,vs,rfl,h1,h2⟩:=hp;simp only[Ct]at hd;split at hd
  ·rename_i y hy;cases hd;exact⟨[v],vs,rfl,G7 h1 hy,h2⟩
  ·cases hd
theorem CN{s:Sh}{ps:List PV}{vs:List V}{x:s.T}(hp:Bc F ρ N ps vs)(hd:C1 s ps=some x):DC F s x vs:=by
 unfold C1 at hd;split at hd
 ·rename_i y hy;cases hd;obtain⟨a,b,rfl,h1,h2⟩:=Hd hp hy;simp at h2;subst h2;simpa using h1
 ·cases hd
theorem Tp{v:V}:∀(vs cs:List V) (off:Nat),v∈Gv cs off vs->v∈vs\/v∈cs
 |[],cs,off,h=>.inr h
 |u::vs,cs,off,h=>by
  have h:v∈Gv (cs.set off u) (off+1) vs:=h;rcases Tp vs _ _ h with h|h
  ·exact .inl (List.mem_cons_of_mem _ h)
  ·rcases List.mem_or_eq_of_mem_set h with h|h
   ·exact .inr h
   ·exact .inl (by simp[h])
theorem S8{v:V}{vs cs:List V}{off:Nat}(h:v∈xj off vs cs):v∈vs\/v∈cs:=by
 rw[IV]at h;exact Tp _ _ _ h
theorem GR{cs vs:List V}{off:Nat}(hl:off+vs.length<=cs.length)(j:Nat):(Ck off vs cs)[j]?=if off<=j/\j<off+vs.length then vs[j-off]? else cs[j]?:=by
 rw[IV];exact NH vs cs off j hl
theorem aG{cs vs:List V}{off:Nat}:(Ck off vs cs).length=cs.length:=by
 rw[IV];exact Gt vs cs off
theorem sF{cs vs:List V}{m off k:Nat}(hk:off+vs.length<=k)(hl:m+k<=cs.length):((Ck (m+off) vs cs).drop m).take k=Ck off vs ((cs.drop m).take k):=by
 apply jz;intro j;rw[GR (by simp;omega)];by_cases hj:j<k
 ·rw[zk hj,zp,GR (by omega)];by_cases hc:off<=j/\j<off+vs.length
  ·rw[wd hc,wd (by omega)];congr 1;omega
  ·rw[wc hc,wc (by omega),zk hj,zp]
 ·rw[wc (by omega),zn (by simp;omega),zn (by simp;omega)]
theorem oI{cs vs:List V}{m p k:Nat}(hd:p+vs.length<=m\/m+k<=p)(hl:p+vs.length<=cs.length):((Ck p vs cs).drop m).take k=(cs.drop m).take k:=by
 apply jz;intro j;by_cases hj:j<k
 ·rw[zk hj,zk hj,zp,zp,GR hl,wc (by omega)]
 ·rw[zn (by simp;omega),zn (by simp;omega)]
theorem D1.set{s:Sh}{l:List s.T}{cs vs:List V}{j off:Nat}{y:s.T}(hd:D1 F s l cs)(hj:j<l.length)(hoff:off+vs.length<=s.sz)(hy:DC F s y (Ck off vs ((cs.drop (j*s.sz)).take s.sz))):
  D1 F s (l.set j y) (Ck (j*s.sz+off) vs cs):=by
 have hb:j*s.sz+s.sz<=cs.length:=by
  rw[hd.1, <-yi];exact yf _ hj
 refine⟨by rw[aG,List.length_set];exact hd.1,fun i hi=>?_⟩;have hi':i<l.length:=by simpa using hi
 by_cases e:i=j
 ·subst e;rw[sF hoff hb,List.getElem_set_self];exact hy
 ·rw[List.getElem_set_ne (fun h=>e h.symm),oI ?_ (by omega)]
  ·exact hd.2 i hi'
  ·rcases Nat.lt_or_gt_of_ne e with h1|h1
   ·right;have:(i+1)*s.sz<=j*s.sz:=yf _ h1;rw[yi]at this;omega
   ·left;have:(j+1)*s.sz<=i*s.sz:=yf _ h1;rw[yi]at this;omega
theorem Jf{s:Sh}:∀ {n:Nat} {ps:List PV} {vs:List V} {l:List s.T},Bc F ρ N ps vs->chunk s n ps=some l->vs.length=n*s.sz->l.length=n/\D1 F s l vs
 |0,ps,vs,l,hp,hd,hn=>by
  cases hd;simp at hn;subst hn;exact⟨rfl,by simp[D1]⟩
 |n+1,ps,vs,l,hp,hd,hn=>by
  unfold chunk at hd;split at hd
  case h_2=>cases hd
  rename_i x rest hx;rw[zl]at hd;obtain⟨l',h1,rfl⟩:=hd;obtain⟨a,b,rfl,h2,h3⟩:=Hd hp hx;have ha:=h2.len;have hb:b.length=n*s.sz:=by rw[jj,ha,yi]at hn;omega
  obtain⟨g1,g2⟩:=Jf h3 h1 hb;refine⟨by simp[g1],by rw[jj,ha,hb,List.length_cons,g1,yi];omega,fun i hi=>?_⟩;cases i with
  |zero=>
   simp only[Nat.zero_mul,List.drop_zero,List.getElem_cons_zero];rw[<-ha,List.take_left];exact h2
  |succ i=>
   simp only[List.getElem_cons_succ];have hi':i<l'.length:=by simpa using hi
   have:=g2.2 i hi';have e:(a++b).drop ((i+1)*s.sz)=b.drop (i*s.sz):=by
    rw[yi,Nat.add_comm,FG, <-ha,List.drop_left]
   rw[e];exact this
theorem bQ{cs xs:List V}(h:xs.length=cs.length):xj 0 xs cs=xs:=by
 apply jz;intro j;rw[GR (by omega)];by_cases hj:j<xs.length
 ·rw[wd (by omega)];rfl
 ·rw[wc (by omega),zn (by omega),zn (by omega)]
theorem oA(hr:SR B h0 F ρ st.nx st.ob h){t:TypeId}{p q:PV}{a x:V}(ha:PR F ρ st.nx p a)(hx:PR F ρ st.nx q x){v:PV}(ht:(Wx C.T st t p q).To v st'):
  ∃id,((∃off,p=.ptr id off)\/∃sz j off,p=.eptr id sz j off)/\OK B h0 F ρ st h [id] (Z7 (Hj C.T h t a x)) v st':=by
 unfold Wx at ht;split at ht
 case h_2=>simp at ht
 rename_i i xs hi hxs;cases hc:(zj (Det.DB xs) i.size&&Det.KS (JG st) xs)with
 |false=>rw[hc]at ht;simp at ht
 |true=>
  rw[hc]at ht;simp only[ze]at hc;obtain⟨hc1,hc2⟩:=hc;rw[Cy]at hc1;rw[E8]at hc2;have hxs':=No hr hx hxs;have hlen:x.cells.length=i.size:=by rw[<-hxs'.len];exact zc hc1
  have hone:=J3 hr hc2 hxs';have hb1:zj x.cells.length i.size=true:=by rw[hlen];exact Nat.beq_refl _
  simp only[we]at ht;split at ht
  case h_3=>simp at ht
  case h_1=>
   rename_i id off;split at ht
   case h_4=>exact wh ht (by simp)
   case h_3=>
    rename_i tb ps ho;cases hble:zr (je off i.size) (Det.DB ps)with
    |false=>rw[hble]at ht;simp at ht
    |true=>
     rw[hble]at ht;simp only[we,AR]at ht;obtain⟨rfl,rfl⟩:=ht;obtain⟨b,n,y,h1,h2,⟨cs,fz,rfl,h4,h5,hbok⟩,hf,_⟩:=hr.at ho;simp only[PR]at ha;obtain rfl:=ha.2 b n h1;rw[Cy]at hble;have hle:off+x.cells.length<=cs.length:=by rw[<-h4.len,hlen];exact zh hble
     refine⟨id,.inl ⟨off,rfl⟩,.tup [],_,F,ρ,.inr ⟨?_,rfl⟩,by simp[PR],hr.set ho h1 h2 rfl rfl (o':=.tbox tb (xj off xs ps)) ⟨_,fz,rfl,hxs'.Ck off h4,h5,fun u hu=>(S8 hu).elim (fun hu=>V.Lr (ku.1 hone u hu)) (hbok u)⟩,Le.refl,rfl,rfl,yv _,fun c _=>?_⟩
     ·unfold Hj;simp only[hi,hb1,we];rw[MD h2 hle h5 hone];rfl
     ·rw[H.Bm];by_cases e:c=b
      ·exact .inr ⟨id,zg.2 rfl,n,e▸h1⟩
      ·rw[wc e];exact .inl rfl
   case h_2=>
    rename_i e s l ho;cases hcc:(zj off 0&&zj s.sz 1)with
    |false=>rw[hcc]at ht;simp at ht
    |true=>
     rw[hcc]at ht;rw[ze]at hcc;have hoff:=zc hcc.1;have hs1:=zc hcc.2;subst hoff;simp only[we]at ht;split at ht
     case h_2=>exact wh ht (by simp)
     rename_i y hy;simp only[BI,w5]at ht;obtain⟨hj,rfl,rfl⟩:=ht;obtain⟨b,n,z,h1,h2,⟨cs,fz,rfl,h4,h5,h6⟩,hf,_⟩:=hr.at ho;simp only[PR]at ha;obtain rfl:=ha.2 b n h1;have hcl:cs.length=x.cells.length:=by rw[h4.1,hs1,jt,hlen];exact hj
     obtain⟨k1,k2⟩:=Jf hxs' hy (by rw[hs1,jt];exact hlen);have hle:0+x.cells.length<=cs.length:=by omega
     refine⟨id,.inl ⟨0,rfl⟩,.tup [],_,F,ρ,.inr ⟨?_,rfl⟩,by simp[PR],hr.set ho h1 h2 rfl rfl (o':=.arr false e s y) ⟨xj 0 x.cells cs,fz,rfl,by rw[bQ hcl.symm];exact k2,h5,by omega⟩,Le.refl,rfl,rfl,yv _,fun c _=>?_⟩
     ·unfold Hj;simp only[hi,hb1,we];rw[MD h2 hle h5 hone];rfl
     ·rw[H.Bm];by_cases e:c=b
      ·exact .inr ⟨id,zg.2 rfl,n,e▸h1⟩
      ·rw[wc e];exact .inl rfl
   rename_i ps ho;cases hble:zr (je off i.size) (Det.DB ps)with
   |false=>rw[hble]at ht;simp at ht
   |true=>
    rw[hble]at ht;simp only[we,AR]at ht;obtain⟨rfl,rfl⟩:=ht;obtain⟨b,n,y,h1,h2,⟨cs,te,fz,rfl,h4,h5,hbok⟩,hf,_⟩:=hr.at ho;simp only[PR]at ha;obtain rfl:=ha.2 b n h1;rw[Cy]at hble;have hle:off+x.cells.length<=cs.length:=by rw[<-h4.len,hlen];exact zh hble
    refine⟨id,.inl ⟨off,rfl⟩,.tup [],_,F,ρ,.inr ⟨?_,rfl⟩,by simp[PR],hr.set ho h1 h2 rfl rfl (o':=.box (xj off xs ps)) ⟨_,te,fz,rfl,hxs'.Ck off h4,h5,fun u hu=>(S8 hu).elim (fun hu=>V.Lr (ku.1 hone u hu)) (hbok u)⟩,Le.refl,rfl,rfl,yv _,fun c _=>?_⟩
    ·unfold Hj;simp only[hi,hb1,we];rw[MD h2 hle h5 hone];rfl
    ·rw[H.Bm];by_cases e:c=b
     ·exact .inr ⟨id,zg.2 rfl,n,e▸h1⟩
     ·rw[wc e];exact .inl rfl
  case h_2=>
   rename_i id sz j off;split at ht
   case h_2=>simp at ht
   rename_i e s l ho;cases hcc:(zj sz s.sz&&zr (je off i.size) sz)with
   |false=>rw[hcc]at ht;simp at ht
   |true=>
    rw[hcc]at ht;simp only[ze]at hcc;have hsz:=zc hcc.1;have hoff:=zh hcc.2;subst hsz;simp only[we]at ht;split at ht
    case h_2=>simp at ht
    rename_i y hy;simp only[BI,w5]at ht;obtain⟨hj,rfl,rfl⟩:=ht;obtain⟨b,n,z,h1,h2,⟨cs,fz,rfl,h4,h5,h6⟩,hf,_⟩:=hr.at ho;simp only[PR]at ha;obtain rfl:=ha.2 b n h1;rw[show l.getD j s.Ht=l[j]from by simp[hj]]at hy;have hfl:=CT (F:=F) (ρ:=ρ) (N:=st.nx) (h4.2 j hj);have hdc:=CN (hxs'.Ck off hfl) hy;have hset:=D1.set h4 hj (by rw[hlen];exact hoff) hdc;have hle:j*s.sz+off+x.cells.length<=cs.length:=by
     have:j*s.sz+s.sz<=cs.length:=by rw[h4.1, <-yi];exact yf _ hj
     have:off+i.size<=s.sz:=hoff;omega
    refine⟨id,.inr ⟨_,_,_,rfl⟩,.tup [],_,F,ρ,.inr ⟨?_,rfl⟩,by simp[PR],hr.set ho h1 h2 rfl rfl (o':=.arr false e s (l.set j y)) ⟨_,fz,rfl,hset,h5,by simpa using h6⟩,Le.refl,rfl,rfl,yv _,fun c _=>?_⟩
    ·unfold Hj;simp only[hi,hb1,we];rw[MD h2 hle h5 hone];rfl
    ·rw[H.Bm];by_cases e:c=b
     ·exact .inr ⟨id,zg.2 rfl,n,e▸h1⟩
     ·rw[wc e];exact .inl rfl
theorem CA{k:IntKind}{n:Int}{v:V}(h:PR F ρ N (.dat (.int k) n) v):v=.int k n:=by simpa [PR,DC]using h
theorem EX{s:List UInt8}{v:V}(h:PR F ρ N (.dat .str s) v):v=.str s:=by simpa [PR,DC]using h
theorem HB{b:Bool}{v:V}(h:PR F ρ N (.dat .bool b) v):v=.bool b:=by simpa [PR,DC]using h
theorem Pb{b:Bool}{v:V}(h:PR F ρ N (.bl b) v):v=.bool b:=by simpa [PR]using h
theorem Da(k:IntKind)(n:Int):PR F ρ N (.dat (.int k) n) (.int k n):=by simp[PR,DC]
theorem J6(s:List UInt8):PR F ρ N (.dat .str s) (.str s):=by simp[PR,DC]
theorem DE(b:Bool):PR F ρ N (.dat .bool b) (.bool b):=by simp[PR,DC]
theorem Iv(b:Bool):PR F ρ N (.bl b) (.bool b):=by simp[PR]
theorem Ha{p:PV}{b:Bool}{v:V}(h:Jl p=some b)(hp:PR F ρ N p v):v=.bool b:=by
 unfold Jl at h;split at h
 ·cases h;exact Pb hp
 ·cases h;exact HB hp
 ·cases h
theorem wU(hr:SR B h0 F ρ st.nx st.ob h){op:BinOp}{k:IntKind}{a b:Int}{v:PV}(ht:(sE op k a b st).To v st'):OK B h0 F ρ st h [] (Bv h (NR op k a b)) v st':=by
 unfold sE at ht;split at ht<;>simp only[L0,AR,BI,w5,wm]at ht
 all_goals first
  |(obtain⟨rfl,rfl⟩:=ht;exact OK.pure hr rfl (Da _ _))
  |(obtain⟨rfl,rfl⟩:=ht;exact OK.pure hr rfl (DE _))
  |(obtain⟨hb,rfl,rfl⟩:=ht;exact OK.pure hr (by simp only[NR,hb,ve,Bv]) (Da _ _))
theorem zQ(hr:SR B h0 F ρ st.nx st.ob h){op:BinOp}{k:IntKind}{a b:Int}{v:PV}(ht:(yY op k a b st).To v st'):OK B h0 F ρ st h [] (Bv h (YH op k a b)) v st':=by
 unfold yY at ht;split at ht<;>simp only[L0,BI,w5]at ht
 all_goals
  obtain⟨hb,rfl,rfl⟩:=ht;exact OK.pure hr (by simp only[YH,Int.not_lt.2 hb,ve,Bv]) (Da _ _)
theorem xN(hr:SR B h0 F ρ st.nx st.ob h){op:BinOp}{x y:List UInt8}{v:PV}(ht:(tQ op x y st).To v st'):OK B h0 F ρ st h [] (Bv h (T0 op x y)) v st':=by
 unfold tQ at ht;split at ht<;>simp only[L0,AR,BI,w5]at ht
 all_goals first
  |(obtain⟨rfl,rfl⟩:=ht;exact OK.pure hr rfl (DE _))
  |(obtain⟨hb,rfl,rfl⟩:=ht;exact OK.pure hr (by simp only[T0,hb,wk,Bv]) (J6 _))
theorem QP:∀ {ks:List FK} {ps qs:List PV} {xs ys:List V} {r:Bool},Bc F ρ N ps xs->Bc F ρ N qs ys->GY ks ps qs=some r->fit ks xs=true/\fit ks ys=true/\BN xs ys=some r
 |[],[],[],xs,ys,r,hx,hy,hd=>by
  simp at hx hy;subst hx hy;simp only[GY,zm]at hd;subst hd;exact⟨rfl,rfl,rfl⟩
 |[],_::_,_,xs,ys,r,hx,hy,hd=>by simp[GY]at hd
 |[],[],_::_,xs,ys,r,hx,hy,hd=>by simp[GY]at hd
 |k::ks,[],_,xs,ys,r,hx,hy,hd=>by cases k<;>simp[GY]at hd
 |k::ks,_::_,[],xs,ys,r,hx,hy,hd=>by cases k<;>simp[GY]at hd
 |k::ks,p::ps,q::qs,xs,ys,r,hx,hy,hd=>by
  simp only[Bc]at hx hy;obtain⟨x,xs,rfl,hx1,hx2⟩:=hx;obtain⟨y,ys,rfl,hy1,hy2⟩:=hy;have key:∀ {c:Bool},k.ok x=true->k.ok y=true->Dy x y=some c->(GY ks ps qs).map (fun r=>c&&r)=some r->fit (k::ks) (x::xs)=true/\fit (k::ks) (y::ys)=true/\BN (x::xs) (y::ys)=some r:=by
   intro c h1 h2 h3 h4;rw[zl]at h4;obtain⟨r',h5,rfl⟩:=h4;obtain⟨g1,g2,g3⟩:=QP hx2 hy2 h5;refine⟨by simp[fit,h1,g1],by simp[fit,h2,g2],?_⟩;have hl:xs.length=ys.length:=by rw[<-Rn g1, <-Rn g2]
   cases c with
   |true=>simp only[BN,h3,g3,Bool.true_and]
   |false=>simp only[BN,h3,Bool.false_and,hl,wk]
  unfold GY at hd;split at hd
  case h_1=>rename_i e _ _;cases e
  case h_2=>
   rename_i k' ks' k1 a xs' k2 b ys' e1 e2 e3;cases e1;cases e2;cases e3;cases hk:(k'==k1&&k'==k2)with
   |false=>rw[hk]at hd;cases hd
   |true=>
    rw[hk]at hd;simp only[ze,wj]at hk;obtain⟨rfl,rfl⟩:=hk;obtain rfl:=CA hx1;obtain rfl:=CA hy1;exact key (by simp[FK.ok]) (by simp[FK.ok]) (by simp[Dy]) hd
  case h_3=>
   rename_i e1 e2 e3;cases e1;cases e2;cases e3;obtain rfl:=EX hx1;obtain rfl:=EX hy1;exact key rfl rfl (by simp[Dy]) hd
  case h_4=>
   rename_i e1 e2 e3;cases e1;cases e2;cases e3;split at hd
   case h_2=>cases hd
   rename_i a b ha hb;obtain rfl:=Ha ha hx1;obtain rfl:=Ha hb hy1;exact key rfl rfl rfl hd
  case h_5=>cases hd
theorem Yh(hr:SR B h0 F ρ st.nx st.ob h){op:BinOp}{t e:TypeId}(hu:C.T.und t=some (.slice e)){p:PV}{x:V}(hx:PR F ρ st.nx p x){ng:Bool}{v:PV}(ht:(SJ st ng p).To v st'):
  (∀(_:x=.nili),False)/\∃b,Bt C.T t x .nils=some b/\PR F ρ st.nx v (.bool (b !=ng))/\Me C.T op t x .nils=(match op with| .eql=>(Bt C.T t x .nils).map fun b=>.bool b| .neq=>(Bt C.T t x .nils).map fun b=>.bool !b|_=>none)/\st'=st:=by
 have dq:∀ {x:V},x=.nils\/x=.esl\/x=.es0\/(∃b off len cap o,x=.sl b off len cap o)->Me C.T op t x .nils=(match op with| .eql=>(Bt C.T t x .nils).map fun b=>.bool b| .neq=>(Bt C.T t x .nils).map fun b=>.bool !b|_=>none):=by
  rintro x (rfl|rfl|rfl|⟨b,off,len,cap,o,rfl⟩)<;>cases op<;>rfl
 have no:∀ {x:V},x=.esl\/x=.es0\/(∃b off len cap o,x=.sl b off len cap o)->Bt C.T t x .nils=some false:=by
  rintro x (rfl|rfl|⟨b,off,len,cap,o,rfl⟩)<;>simp[Bt,hu]
 have yes:Bt C.T t .nils .nils=some true:=by simp[Bt,hu]
 unfold SJ at ht;split at ht
 case h_1=>
  simp only[AR]at ht;obtain⟨rfl,rfl⟩:=ht;simp only[PR]at hx;subst hx;exact⟨fun e=>(by cases e),true,yes,by simp[PR],dq (.inl rfl),rfl⟩
 case h_2=>
  rename_i id sz off len cap;cases hl:HW (st.obj id)with
  |false=>rw[hl]at ht;simp at ht
  |true=>
   rw[hl]at ht;simp only[we,AR]at ht;obtain⟨rfl,rfl⟩:=ht;obtain⟨o,ho⟩:=HY hl;obtain⟨b,n,_,h1,_⟩:=hr.at ho;simp only[PR]at hx;have:x=.esl\/x=.es0\/(∃b off len cap o,x=.sl b off len cap o):=by
    rcases hx.2 b n h1 with⟨_,_,o,_,rfl⟩|⟨rfl,_,_,rfl|⟨_,rfl,_⟩⟩
    ·exact .inr (.inr ⟨_,_,_,_,_,rfl⟩)
    ·exact .inl rfl
    ·exact .inr (.inr ⟨_,_,_,_,_,rfl⟩)
   exact⟨fun e=>(by subst e;rcases this with h|h|⟨_,_,_,_,_,h⟩<;>cases h),false,no this,by simp[PR],dq (.inr this),rfl⟩
 case h_3=>
  rename_i s l;simp only[PR,DC]at hx;obtain⟨u,hu1,hx⟩:=hx;obtain rfl:x=u:=by simpa using hu1
  have ht2:(decide (0<(l:List s.T).length)=true/\v=.bl ng/\st'=st)\/(v=.ub/\st'=st):=by
   generalize decide (0<(l:List s.T).length)=c at ht;cases ht with
   |tt ht=>simp only[AR]at ht;exact .inl ⟨rfl,ht.1.symm,ht.2.symm⟩
   |ff ht=>simp only[AR]at ht;exact .inr ⟨ht.1.symm,ht.2.symm⟩
  rcases ht2 with⟨hd,rfl,rfl⟩|⟨rfl,rfl⟩
  ·rcases hx with⟨rfl,_⟩|⟨b,off,cap,o,bs,rfl,_⟩
   ·simp at hd
   ·exact⟨fun e=>(by cases e),false,no (.inr (.inr ⟨_,_,_,_,_,rfl⟩)),by simp[PR],dq (.inr (.inr (.inr ⟨_,_,_,_,_,rfl⟩))),rfl⟩
  ·rcases hx with⟨rfl,rfl|rfl|rfl⟩|⟨b,off,cap,o,bs,rfl,_⟩
   ·exact⟨fun e=>(by cases e),true,yes,by simp[PR],dq (.inl rfl),rfl⟩
   ·exact⟨fun e=>(by cases e),false,no (.inl rfl),by simp[PR],dq (.inr (.inl rfl)),rfl⟩
   ·exact⟨fun e=>(by cases e),false,no (.inr (.inl rfl)),by simp[PR],dq (.inr (.inr (.inl rfl))),rfl⟩
   ·exact⟨fun e=>(by cases e),false,no (.inr (.inr ⟨_,_,_,_,_,rfl⟩)),by simp[PR],dq (.inr (.inr (.inr ⟨_,_,_,_,_,rfl⟩))),rfl⟩
 case h_4=>
  rename_i s l;simp only[AR]at ht;obtain⟨rfl,rfl⟩:=ht;simp only[PR,DC]at hx;obtain⟨u,hu1,hx⟩:=hx;obtain rfl:x=u:=by simpa using hu1
  rcases hx with⟨rfl,rfl⟩|⟨h0,b,off,cap,o,bs,rfl,_⟩
  ·exact⟨fun e=>(by cases e),true,yes,by cases ng<;>simp[PR,DC],dq (.inl rfl),rfl⟩
  ·have hpos:0<(l:List s.T).length:=List.length_pos_iff.2 h0;exact⟨fun e=>(by cases e),false,no (.inr (.inr ⟨_,_,_,_,_,rfl⟩)),by cases ng<;>simp[PR,DC,hpos],dq (.inr (.inr (.inr ⟨_,_,_,_,_,rfl⟩))),rfl⟩
 case h_5=>simp at ht
theorem Vc{o:Option Obj}(h:HW o=true):∃x,o=some x:=by
 cases o with
 |none=>cases h
 |some x=>exact⟨x,rfl⟩
theorem Qs(hr:SR B h0 F ρ st.nx st.ob h){t e:TypeId}{p q:PV}{x y:V}(hu:C.T.und t=some (.pointer e))(hx:PR F ρ st.nx p x)(hy:PR F ρ st.nx q y){r:Bool}(hd:ptrEq C.T e st p q=some r):
  Bt C.T t x y=some r/\x≠ .nili/\∀op,Me C.T op t x y=(match op with| .eql=>(Bt C.T t x y).map .bool| .neq=>(Bt C.T t x y).map fun b=>.bool !b|_=>none):=by
 have live:∀ {id off:Nat} {v:V},PR F ρ st.nx (.ptr id off) v->HW (st.obj id)=true->∃b n,ρ id=some (b,n)/\v=.ptr b off:=by
  intro id off v hv hs;obtain⟨o,ho⟩:=Vc hs;obtain⟨b,n,_,h1,_⟩:=hr.at ho;simp only[PR]at hv;exact⟨b,n,h1,hv.2 b n h1⟩
 unfold ptrEq at hd;split at hd
 case h_5=>cases hd
 case h_1=>
  cases hd;simp only[PR]at hx hy;subst hx hy;exact⟨by unfold Bt;rw[hu],(by intro e;cases e),fun op=>by cases op<;>rfl⟩
 case h_2=>
  rename_i id off;cases hs:HW (st.obj id)with
  |false=>rw[hs]at hd;cases hd
  |true=>
   rw[hs]at hd;cases hd;obtain⟨b,n,_,rfl⟩:=live hx hs;simp only[PR]at hy;subst hy;exact⟨by unfold Bt;rw[hu],(by intro e;cases e),fun op=>by cases op<;>rfl⟩
 case h_3=>
  rename_i id off;cases hs:HW (st.obj id)with
  |false=>rw[hs]at hd;cases hd
  |true=>
   rw[hs]at hd;cases hd;obtain⟨b,n,_,rfl⟩:=live hy hs;simp only[PR]at hx;subst hx;exact⟨by unfold Bt;rw[hu],(by intro e;cases e),fun op=>by cases op<;>rfl⟩
 case h_4=>
  rename_i a i b j;cases hs:(zj a b&&HW (st.obj a))with
  |false=>rw[hs]at hd;cases hd
  |true=>
   rw[hs]at hd;rw[ze]at hs;have hab:=zc hs.1;subst hab;simp only[we]at hd;split at hd
   case h_2=>cases hd
   rename_i ti hti;cases hz:qf 0 ti.size with
   |false=>rw[hz]at hd;cases hd
   |true=>
    rw[hz]at hd;cases hd;rw[Nat.blt_eq]at hz;obtain⟨b,n,g1,rfl⟩:=live hx hs.2;obtain⟨b',n',g2,rfl⟩:=live hy hs.2;rw[g1]at g2;cases g2;refine⟨?_,(by intro e;cases e),fun op=>by cases op<;>rfl⟩;unfold Bt;rw[hu];simp only[wk,hti];rw[wd (by omega)];congr 1;rw[Bp,Bool.eq_iff_iff];simp
theorem xE(hr:SR B h0 F ρ st.nx st.ob h){op:BinOp}{t:TypeId}{ox oy:Operand}{p q:PV}{x y:V}(hx:PR F ρ st.nx p x)(hy:PR F ρ st.nx q y){v:PV}(ht:(rO C.T op t p q st).To v st'):
  OK B h0 F ρ st h [] (Bv h (Mw C.T op t ox oy x y)) v st':=by
 have nn:∀ {x y:V},(∀(e:x=.nili),False)->Mw C.T op t ox oy x y=Me C.T op t x y:=by
  intro x y hn;unfold Mw kZ;split
  ·rename_i h;split at h
   ·exact(hn rfl).elim
   ·exact(hn rfl).elim
   ·cases h
  ·rfl
 unfold rO at ht;split at ht
 case h_1=>
  rename_i k a k' b;obtain rfl:=CA hx;obtain rfl:=CA hy;rw[nn (fun e=>by cases e)];cases hs:mI op with
  |true=>
   rw[hs]at ht;simp only[we]at ht;have:=zQ hr ht;unfold Me;cases op<;>simp only[mI]at hs<;>first|(cases hs;done)|exact this
  |false=>
   rw[hs]at ht;simp only[wg]at ht;cases hk:(k==k')with
   |false=>rw[hk]at ht;simp at ht
   |true=>
    rw[hk]at ht;simp only[we]at ht;have:=wU hr ht;have hk:=wj.1 hk;subst hk;unfold Me;cases op<;>simp only[mI]at hs<;>first|(cases hs;done)|(simp only[wk];exact this)
 case h_2=>
  rename_i a b;obtain rfl:=EX hx;obtain rfl:=EX hy;rw[nn (fun e=>by cases e)];have:=xN hr ht;unfold Me;cases op<;>exact this
 case h_3=>
  rename_i ps qs;simp only[PR]at hx hy;obtain⟨xs,rfl,hx⟩:=hx;obtain⟨ys,rfl,hy⟩:=hy;rw[nn (fun e=>by cases e)];split at ht
  case h_2=>simp at ht
  rename_i ks hks;have eq:∀ {r:Bool},GY ks ps qs=some r->Bt C.T t (.agg xs) (.agg ys)=some r:=by
   intro r hr';obtain⟨g1,g2,g3⟩:=QP hx hy hr';have:MG (C.T.flat t) xs ys=some r:=by simp[MG,hks,g1,g2,g3]
   unfold Bt;split<;>first|exact this|(simp_all;done)
  split at ht
  case h_1=>
   rename_i r hr';simp only[AR]at ht;obtain⟨rfl,rfl⟩:=ht;exact OK.pure hr (by show Bv h ((Bt C.T t (.agg xs) (.agg ys)).map _)=_;rw[eq hr'];rfl) (DE _)
  case h_2=>
   rename_i r hr';simp only[AR]at ht;obtain⟨rfl,rfl⟩:=ht;exact OK.pure hr (by show Bv h ((Bt C.T t (.agg xs) (.agg ys)).map _)=_;rw[eq hr'];rfl) (DE _)
  case h_3=>simp at ht
 case h_4=>
  split at ht
  case h_4=>simp at ht
  case h_3=>
   rename_i e _ _ hu;split at ht
   case h_3=>simp at ht
   case h_1=>
    rename_i r he;simp only[AR]at ht;obtain⟨rfl,rfl⟩:=ht;obtain⟨k1,k2,k3⟩:=Qs hr hu hx hy he;rw[nn k2,k3];exact OK.pure hr (by simp only[k1];rfl) (Iv _)
   case h_2=>
    rename_i r he;simp only[AR]at ht;obtain⟨rfl,rfl⟩:=ht;obtain⟨k1,k2,k3⟩:=Qs hr hu hx hy he;rw[nn k2,k3];exact OK.pure hr (by simp only[k1];rfl) (Iv _)
  case h_2=>
   rename_i e _ _ hu;unfold aX at ht;split at ht
   case h_3=>simp at ht
   case h_1=>
    have hs:=Yh (op:=.eql) hr hu hx ht;obtain⟨hn,b,h1,h2,h3,e⟩:=hs;subst e;simp only[PR]at hy;subst hy;rw[nn hn,h3];exact OK.pure hr (v':=.bool b) (by simp only[h1];rfl) (by simpa using h2)
   case h_2=>
    have hs:=Yh (op:=.neq) hr hu hx ht;obtain⟨hn,b,h1,h2,h3,e⟩:=hs;subst e;simp only[PR]at hy;subst hy;rw[nn hn,h3];exact OK.pure hr (v':=.bool (!b)) (by simp only[h1];rfl) (by simpa using h2)
  rename_i a b ha hb hu;obtain rfl:=Ha ha hx;obtain rfl:=Ha hb hy;rw[nn (fun e=>by cases e)];have eq:Bt C.T t (.bool a) (.bool b)=some (a==b):=by unfold Bt;rw[hu]
  split at ht
  case h_1=>
   simp only[AR]at ht;obtain⟨rfl,rfl⟩:=ht;exact OK.pure hr (by show Bv h ((Bt C.T t (.bool a) (.bool b)).map _)=_;rw[eq];rfl) (DE _)
  case h_2=>
   simp only[AR]at ht;obtain⟨rfl,rfl⟩:=ht;exact OK.pure hr (by show Bv h ((Bt C.T t (.bool a) (.bool b)).map _)=_;rw[eq];rfl) (DE _)
  case h_3=>simp at ht
theorem zM(hr:SR B h0 F ρ st.nx st.ob h){op:UnOp}{p:PV}{x:V}(hx:PR F ρ st.nx p x){v:PV}(ht:(zB op p st).To v st'):OK B h0 F ρ st h [] (Bv h (vT op x)) v st':=by
 unfold zB at ht;split at ht<;>simp only[L0,AR]at ht
 ·obtain⟨rfl,rfl⟩:=ht;obtain rfl:=CA hx;exact OK.pure hr rfl (Da _ _)
 ·obtain⟨rfl,rfl⟩:=ht;obtain rfl:=Pb hx;exact OK.pure hr rfl (Iv _)
 ·obtain⟨rfl,rfl⟩:=ht;simp only[PR]at hx;obtain⟨b,rfl⟩:=hx;exact OK.pure hr (v':=.bool (!b)) rfl (by simp[PR])
 ·obtain⟨rfl,rfl⟩:=ht;obtain rfl:=HB hx;exact OK.pure hr rfl (DE _)
theorem tE(hr:SR B h0 F ρ st.nx st.ob h){s d:TypeId}{p:PV}{x:V}(hx:PR F ρ st.nx p x){v:PV}(ht:(dR C.T s d p st).To v st'):OK B h0 F ρ st h [] (Bv h (FC C.T h s d x)) v st':=by
 unfold dR at ht;split at ht<;>simp only[L0,AR]at ht
 ·rename_i h1 h2;obtain⟨rfl,rfl⟩:=ht;obtain rfl:=CA hx;exact OK.pure hr (by simp[FC,h1,h2,Bv]) (Da _ _)
 ·rename_i h1 h2;obtain⟨rfl,rfl⟩:=ht;obtain rfl:=EX hx;exact OK.pure hr (by simp[FC,h1,h2,Bv]) (J6 _)
theorem rD(hr:SR B h0 F ρ st.nx st.ob h){c a b:PV}{x y z:V}(hc:PR F ρ st.nx c x)(ha:PR F ρ st.nx a y)(hb:PR F ρ st.nx b z){v:PV}(ht:(bC c a b st).To v st'):
  ∃t,x=.bool t/\OK B h0 F ρ st h [] (Bv h (some (if t then y else z))) v st':=by
 unfold bC at ht;split at ht
 case h_3=>simp at ht
 case h_1=>
  rename_i t;simp only[AR]at ht;obtain⟨rfl,rfl⟩:=ht;refine⟨t,Pb hc,OK.pure hr rfl ?_⟩;cases t<;>assumption
 case h_2=>
  rename_i t;refine⟨t,HB hc,?_⟩;split at ht
  case h_1=>
   simp only[AR]at ht;obtain⟨rfl,rfl⟩:=ht;obtain rfl:=HB ha;obtain rfl:=Pb hb;refine OK.pure hr rfl ?_;cases t<;>exact DE _
  case h_2=>
   simp only[AR]at ht;obtain⟨rfl,rfl⟩:=ht;obtain rfl:=Pb ha;obtain rfl:=HB hb;refine OK.pure hr rfl ?_;cases t<;>exact DE _
  case h_3=>
   cases ht with
   |tt h=>simp only[AR]at h;obtain⟨rfl,rfl⟩:=h;exact OK.pure hr rfl ha
   |ff h=>simp only[AR]at h;obtain⟨rfl,rfl⟩:=h;exact OK.pure hr rfl hb
theorem jR(hr:SR B h0 F ρ st.nx st.ob h){t:TypeId}{p:PV}{x:V}(hx:PR F ρ st.nx p x){f:Nat}{v:PV}(ht:(U9 C.T t p f st).To v st'):OK B h0 F ρ st h [] (Bv h (JW C.T t x f)) v st':=by
 unfold U9 at ht;split at ht
 case h_2=>simp at ht
 rename_i fs ps hu;split at ht
 case h_2=>simp at ht
 rename_i fd hfd;split at ht
 case h_2=>simp at ht
 rename_i d i hd hi;simp only[Kr]at ht;obtain⟨hpk,rfl⟩:=ht;simp only[PR]at hx;obtain⟨cs,rfl,hps⟩:=hx;rw[LU]at hpk;have hp:=hps.drop fd.offset;rcases Ki hp hpk with⟨ha,_,hn,hv⟩|⟨ha,u,us,e,hv⟩
 ·exact OK.pure hr (by simp only[JW,hu,hfd,Lh,hd,hi,ha,we,Bv]) hv
 ·have:cs[fd.offset]?=some u:=by
   have:=wi (·[0]?) e;simpa using this
  exact OK.pure hr (by simp only[JW,hu,hfd,Lh,hd,hi,ha,wg,this,Bv]) hv
theorem jT(hr:SR B h0 F ρ st.nx st.ob h){t:TypeId}{p:PV}{x:V}(hx:PR F ρ st.nx p x){f:Nat}{v:PV}(ht:(Wb C.T t p f st).To v st'):
  OK B h0 F ρ st h [] (Bv h (JV C.T t x f)) v st':=by
 have live:∀ {id},HW (st.obj id)=true->∃b n,ρ id=some (b,n):=by
  intro id hi;obtain⟨o,ho⟩:=HY hi;obtain⟨b,n,_,h1,_⟩:=hr.at ho;exact⟨b,n,h1⟩
 unfold Wb at ht;split at ht
 case h_2=>simp at ht
 rename_i fs hu;split at ht
 case h_2=>simp at ht
 rename_i fd hfd;split at ht
 case h_2=>simp at ht
 rename_i i hi;cases hz:zj i.size 0 with
 |true=>rw[hz]at ht;simp at ht
 |false=>
  have hz':i.size≠0:=by intro e;rw[e]at hz;cases hz
  rw[hz]at ht;simp only[wg]at ht;have core:∀b off,JV C.T t (.ptr b off) f=some (.ptr b (off+fd.offset)):=by
   intro b off;simp only[JV,hu,hfd,hi,hz',ve]
  split at ht
  ·rename_i id off;cases hl:HW (st.obj id)with
   |false=>rw[hl]at ht;simp at ht
   |true=>
   rw[hl]at ht;simp only[we,AR]at ht;obtain⟨rfl,rfl⟩:=ht;have hx':=hx;simp only[PR]at hx';obtain⟨b,n,h1⟩:=live hl;obtain rfl:=hx'.2 b n h1;refine OK.pure hr (by rw[core];rfl) ?_;simp only[PR];exact⟨hx'.1,fun b' n' hb=>by rw[h1]at hb;cases hb;rfl⟩
  ·rename_i id sz j off;cases hl:HW (st.obj id)with
   |false=>rw[hl]at ht;simp at ht
   |true=>
   rw[hl]at ht;simp only[we,AR]at ht;obtain⟨rfl,rfl⟩:=ht;have hx':=hx;simp only[PR]at hx';obtain⟨b,n,h1⟩:=live hl;obtain rfl:=hx'.2 b n h1;refine OK.pure hr (by rw[core];rfl) ?_;simp only[PR];exact⟨hx'.1,fun b' n' hb=>by rw[h1]at hb;cases hb;simp[Nat.add_assoc]⟩
  ·rename_i s y off;simp only[AR]at ht;obtain⟨rfl,rfl⟩:=ht;simp only[PR]at hx;obtain⟨b,o,cs,rfl,h1,h2⟩:=hx;refine OK.pure hr (by rw[core];rfl) ?_;simp only[PR];exact⟨b,o,cs,by simp[Nat.add_assoc],h1,h2⟩
  ·simp at ht
end
end Go.Pe
