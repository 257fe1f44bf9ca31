import Derived.Test.YtnbinppdjnlhpaaGreatDoorX04
/- A part of a proof (no law is stated here). Made by program out of texts by AI agents. -/
open Bool renaming and_eq_true → zc, or_true → z6
open Nat renaming eq_of_beq_eq_true → zd, beq → ze, mul_le_mul_right → zf, succ_mul → zh, ble_eq_true_of_le → zl, le_refl → zn, lt_of_lt_of_le → zo, min_eq_left → zw, le_of_ble_eq_true → zx, beq_refl → zA, ble → zB, mul_one → zD, add_mul → zE, lt_succ_self → zI, add_assoc → zJ, add → zN, blt → zQ, zero_mul → zV, add_comm → zW, sub_self → z7
open List renaming mem_singleton → zg, getElem?_eq_none → zj, getElem?_take_of_lt → zm, replicate → zp, replicate_succ → zq, all_eq_true → zr, getElem?_drop → zu, mem_of_mem_drop → zy, drop_take → zz, length_append → zC, length_eq_zero_iff → zF, ext_getElem? → zG, getElem_cons_zero → zH, mem_of_mem_take → zK, getElem?_range → zM, drop_drop → zO, length → zP, flatten_cons → zR, getElem?_map → zS, length_cons → zT, take_of_length_le → zU, length_nil → zX, take_take → zY, drop_zero → zZ
open Option renaming map_eq_some_iff → zi, map_some → zL
open Option.some renaming injEq → zk
open Int renaming ofNat → zt
open Go.Det.V renaming ok → z5
section
namespace Go.Pe
open Go.Det
noncomputable section
@[reducible] def Bi:List Sh→Sh
 |[]=>.unit
 |[a]=>a
 |a::b::l=>.pair a (Bi (b::l))
def Ag:(l:List Sh)→(Bi l).T→List PV
 |[],_=>[]
 |[a],x=>[BY a x]
 |a::b::l,x=>BY a x.1::Ag (b::l) x.2
structure As where
 ins:List Sh
 pre:(Bi ins).T→Bool
 outs:List Sh
 f:(Bi ins).T→(Bi outs).T
 nd:Bool:=false
def Sh.sc:Sh→Bool
 | .int _| .bool| .str| .unit| .fnv=>true
 | .list _| .nlist _=>false
 | .pair a b=>a.sc&&b.sc
structure Fi where
 ins:List Sh
 ty:TypeId
 el:Sh
 pre:(Bi ins).T→List el.T→Bool
 g:(Bi ins).T→List el.T→List el.T
structure AW where
 C:Ctx
 sp:FuncId→Option As
 pl:FuncId→Nat→List Nat
 ct:FuncId→Nat→Bool
 fz:FuncId→Nat→List (Nat×Sh)
 ws:FuncId→Option Fi:=fun _=>none
def Df(st:AF)(s:Sh)(p:PV):Option (Bool×s.T):=
 bif Ix p==s.Mo then
  match Dq st p.cells with
  |some (c,cs)=>match Ck s (Jh s.leaves cs).2 with
   |some x=>some ((Jh s.leaves cs).1&&c,x)
   |none=>none
  |none=>none
 else none
def Cn(st:AF):(l:List Sh)→List PV→Option (Bool×(Bi l).T)
 |[],[]=>some (true,())
 |[a],[p]=>Df st a p
 |a::b::l,p::ps=>match Df st a p,Cn st (b::l) ps with
  |some (c,x),some (d,y)=>some (c&&d,(x,y))
  |_,_=>none
 |_,_=>none
def one:List PV→PV
 |[v]=>v
 |l=>.tup l
def Yd(sp:As)(args:List PV)(st:AF)(k:PV→AF→Tr):Tr:=
 match Cn st sp.ins args with
 |some (c,i)=>.ite (c&&sp.pre i) (k (one (Ag sp.outs (sp.f i))) (bif sp.outs.all Sh.sc then st else Ba (args.flatMap PV.cells) st)) .fail
 |none=>.fail
def Tu(w:Fi)(args:List PV)(st:AF)(k:PV→AF→Tr):Tr:=
 match args.reverse with
 | .sl id sz 0 n none::r=>match Cn st w.ins r.reverse,(Ba (r.reverse.flatMap PV.cells) st).obj id with
  |some (c,i),some (.arr false t s l)=>bif ze t w.ty then
    match DS (.list s) (.list w.el) l with
    |some l'=>.ite (c&&w.pre i l'&&decide (n=zP (α:=w.el.T) l')&&ze sz w.el.sz) (k (.tup []) ((Ba (r.reverse.flatMap PV.cells) st).setObj id (.arr false w.ty w.el (w.g i l')))) .fail
    |none=>.fail
   else .fail
  |_,_=>.fail
 | .nil::r=>match Cn st w.ins r.reverse with
  |some (c,i)=>.ite (c&&w.pre i []) (k (.tup []) (Ba (r.reverse.flatMap PV.cells) st)) .fail
  |none=>.fail
 |_=>.fail
mutual
def nR:PV→List Nat
 | .ptr id _| .eptr id _ _ _| .sl id _ _ _ _| .mp id| .yl id=>[id]
 | .agg l| .tup l=>Jq l
 | .fn _ a b=>Jq a++Jq b
 |_=>[]
def Jq:List PV→List Nat
 |[]=>[]
 |v::vs=>nR v++Jq vs
end
def lS:Obj→List Nat
 | .box cs=>Jq cs
 | .lp _ _ _ _ _ _ _ sl=>Jq (sl.map (·.2))
 |_=>[]
def GU(st:AF)(base:Nat):Nat→List Nat→List Nat→List Nat
 |0,_,acc=>acc
 |_+1,[],acc=>acc
 |f+1,i::is,acc=>bif zQ i base||acc.any (ze i)then GU st base f is acc
  else match st.obj i with
   |some o=>GU st base f (is++lS o) (acc++[i])
   |none=>GU st base f is acc
def Na(base:Nat):List Nat→Nat→Nat→Option Nat
 |[],_,i=>bif zQ i base then some i else none
 |j::js,n,i=>bif ze i j then some n else Na base js (zN n 1) i
mutual
def E1(f:Nat→Option Nat):PV→PV
 | .ptr i o=>match f i with|some j=>.ptr j o|none=>.any
 | .eptr i a b c=>match f i with|some j=>.eptr j a b c|none=>.any
 | .sl i a b c d=>match f i with|some j=>.sl j a b c d|none=>.any
 | .mp i=>match f i with|some j=>.mp j|none=>.any
 | .yl i=>match f i with|some j=>.yl j|none=>.any
 | .agg l=>.agg (JC f l)
 | .tup l=>.tup (JC f l)
 | .fn g a b=>.fn g (JC f a) (JC f b)
 |v=>v
def JC(f:Nat→Option Nat):List PV→List PV
 |[]=>[]
 |v::vs=>E1 f v::JC f vs
end
def Pu(f:Nat→Option Nat):Obj→Obj
 | .box cs=>.box (JC f cs)
 | .lp g r ps asg body s n sl=>.lp g r ps asg body s n (sl.map fun x=>(x.1,E1 f x.2))
 |o=>o
def low(f:Nat→Option Nat)(base:Nat):Ob→Ob
 |[]=>[]
 |(i,o)::l=>bif zQ i base then(i,Pu f o)::low f base l else low f base l
def kept(st:AF)(f:Nat→Option Nat):List Nat→Nat→Ob→Ob
 |[],_,acc=>acc
 |j::js,n,acc=>match st.obj j with
  |some o=>kept st f js (zN n 1) ((n,Pu f o)::acc)
  |none=>kept st f js (zN n 1) acc
def NI(base:Nat):Ob→List Nat
 |[]=>[]
 |(i,o)::l=>bif zQ i base then lS o++NI base l else NI base l
def Al(n:Nat)(vs:List (Nat×PV))(ob:Ob)(nx:Nat):AF:=⟨n,DK vs,ob,nx⟩
def canon(base:Nat)(L:List Nat)(st:AF):AF:=
 let vs:=L.map fun t=>(t,st.get t)
 let ids:=GU st base 100 (Jq (vs.map (·.2))++NI base st.ob) []
 let f:=Na base ids base
 Al st.n (vs.map fun x=>(x.1,E1 f x.2)) (kept st f ids base (low f base st.ob)) (zN base ids.length)
def aW(base:Nat)(x:Nat×Sh)(st:AF):AF:=
 match st.get x.1 with
 | .nil=>st.set x.1 (.dat (.list x.2) [])
 | .sl id sz off len _=>match st.obj id with
  |some (.arr _ e s l)=>bif ze sz s.sz then(st.setObj id (.arr true e s l)).set x.1 (.dat (.list s) ((l.drop off).take len))else st
  |_=>st
 | .ptr id 0=>bif zB base id then match st.obj id with
   |some (.box ps)=>match Ck x.2 ps with
    |some v=>(st.Ph id).set x.1 (.dptr x.2 v 0)
    |none=>st
   |_=>st
  else st
 |_=>st
def aK(base:Nat):List (Nat×Sh)→AF→AF
 |[],st=>st
 |x::l,st=>aK base l (aW base x st)
def CM:Code→Nat
 | .region id _ _=>id
 | .seq a _=>CM a
 | .block _ b=>CM b
 | .loop b=>CM b
 | .scope b=>CM b
 |_=>0
def Nw(X:AW)(f:FuncId)(r:Nat)(base:Nat)(st:AF):AF:=canon base (X.pl f r) (aK base (X.fz f r) st)
inductive iX where
 |fn (g:FuncId)
 |rnd (id:Nat)
abbrev E9:=iX→List PV→AF→(PV→AF→Tr)→Tr
def LW(d:Option Nat)(k:AF→Tr):PO→Tr
 | .bad=>.fail
 | .val v st=>match st.put d v with
  |some st'=>k st'
  |none=>.fail
 | .ite c a b=>.ite c (LW d k a) (LW d k b)
inductive CK where
 |no
 |bad
 |yes (g:iX) (args:List PV)
def IG(st:AF)(o:Op):CK:=
 match o with
 | .call c=>match c.callee with
  | .value f=>match Ow st f,KY st c.args.toList with
   |some (.fn (.func g) first cap),some args=>.yes (.fn g) (first++args++cap)
   |some (.yl id),some args=>.yes (.rnd id) args
   |_,_=>.bad
  |_=>.no
 |_=>.no
def Gp(T:BZ)(call:E9)(o:Oper)(st:AF)(k:AF→Tr):Tr:=
 match IG st o.op with
 | .yes g args=>call g args st fun v st=>match st.put o.dst v with
  |some st'=>k st'
  |none=>.fail
 | .bad=>.fail
 | .no=>LW o.dst k (pop o.op T st)
def SG(T:BZ)(st:AF)(o:Op):Option (PV×AF):=
 match o with
 | .convert s d x=>match T.und s,T.und d,Ow st x with
  |some .string,some (.slice e),some (.dat .str l)=>match T.und e with
   |some (.int .u8)=>some (.sl st.nx 1 0 (zP l) none,st.push (.arr false e (.int .u8) (List.map (fun b:UInt8=>(b.toNat:Int)) l)))
   |_=>none
  |_,_,_=>none
 |_=>none
def dX(T:BZ)(call:E9)(o:Oper)(st:AF)(k:AF→Tr):Tr:=
 match SG T st o.op with
 |some (v,st1)=>match st1.put o.dst v with
  |some st2=>k st2
  |none=>.fail
 |none=>Gp T call o st k
def guarded(ops:Array Oper)(o:Oper)(st:AF)(yes no:AF→Tr):Tr:=
 match o.guard with
 |none=>yes st
 |some (j,want)=>match (ops[j]?).bind (·.dst)with
  |some t=>bif zQ t st.n then(match st.get t with
   | .bl b=>bif b==want then yes st else no st
   | .dat .bool b=>bif want then .ite b (yes (st.set t (.bl true))) (no (st.set t (.bl false)))else .ite b (no (st.set t (.bl true))) (yes (st.set t (.bl false)))
   | .tup _=>no st
   | .ub=>.both (bif want then yes (st.set t (.bl true))else no (st.set t (.bl true))) (bif want then no (st.set t (.bl false))else yes (st.set t (.bl false)))
   |_=>.fail)else .fail
  |none=>.fail
def J9(o:Oper)(k:AF→Tr)(st:AF):Tr:=
 match st.put o.dst (.tup [])with
 |some st'=>k st'
 |none=>.fail
def prun(T:BZ)(call:E9)(ops:Array Oper):List Oper→AF→(AF→Tr)→Tr
 |[],st,k=>k st
 |o::rest,st,k=>guarded ops o st
   (fun st=>dX T call o st fun st'=>prun T call ops rest st' k)
   (fun st=>J9 o (fun st'=>prun T call ops rest st' k) st)
def cH(st:AF)(o:Op):Option (List Nat):=
 match o with
 | .load _ x=>match Ow st x with
  |some (.ptr id _)|some (.eptr id _ _ _)=>some [id]
  |some (.dptr _ _ _)=>some []
  |_=>none
 | .convert _ _ x=>match Ow st x with
  |some (.dat (.int _) _)|some (.dat .str _)=>some []
  |_=>none
 | .call c=>match c.callee,KY st c.args.toList with
  | .builtin .len,some [.dat _ _]| .builtin .len,some [.sl _ _ _ _ _]| .builtin .len,some [.nil]=>some []
  | .builtin .len,some [.mp id]=>some [id]
  |_,_=>none
 | .lookup _ x _ _=>match Ow st x with
  |some (.mp id)=>some [id]
  |some .nilm=>some []
  |_=>none
 |_=>none
def FE(sp:FuncId→Option As)(st:AF)(o:Op):Option (List Nat):=
 match o with
 | .store _ x _=>match Ow st x with
  |some (.ptr id _)|some (.eptr id _ _ _)=>some [id]
  |_=>none
 | .mapUpdate _ x _ _| .insert _ x _ _=>match Ow st x with
  |some (.mp id)=>some [id]
  |_=>none
 | .makeMap _ _| .makeSlice _ _ _=>some []
 | .call c=>match c.callee with
  | .value f=>match Ow st f with
   |some (.fn (.func g) _ _)=>match sp g with
    |some _=>some []
    |none=>none
   |_=>none
  | .builtin .append=>match KY st c.args.toList with
   |some (.sl id _ _ _ _::_)=>some [id]
   |some _=>some []
   |none=>none
  | .builtin .delete=>match KY st c.args.toList with
   |some (.mp id::_)=>some [id]
   |_=>none
  |_=>none
 |_=>none
abbrev Rs:=List (Nat×Option (List Nat))
def VD:Option (List Nat)→Option (List Nat)→Bool
 |some a,some b=>a.all fun i=> !(b.any (ze i))
 |some [],none=>true
 |_,_=>false
def Ji(st:AF):Option (List Nat)→Bool
 |some l=>l.all fun i=>Ln (st.obj i)
 |none=>false
def apart(anc:Nat→Nat→Bool)(i:Nat)(st:AF)(t:Option (List Nat))(rs:Rs):Bool:=rs.all fun r=>anc i r.1||(VD r.2 t&&Ji st r.2)
def behind(st:AF)(t:Option (List Nat))(rs:Rs):Rs:=rs.map fun r=>bif VD r.2 t&&Ji st r.2 then r else(r.1,none)
def Yg(st:AF)(o:Op):Bool:=match IG st o with
 | .yes (.rnd _) _=>false
 |_=>true
def Ih(T:BZ)(sp:FuncId→Option As)(call:E9)(ops:Array Oper)(anc:Nat→Nat→Bool):List Nat→AF→Rs→(AF→Tr)→Tr
 |[],st,_,k=>k st
 |i::is,st,rs,k=>match ops[i]? with
  |none=>.fail
  |some o=>guarded ops o st
    (fun st=>bif DI o then Gp T call o st (fun st'=>Ih T sp call ops anc is st' (bif M6 o then(i,cH st o.op)::rs else rs) k)
     else bif B3 o then Gp T call o st (fun st'=>Ih T sp call ops anc is st' rs k)
     else bif apart anc i st (FE sp st o.op) rs&&Yg st o.op then Gp T call o st (fun st'=>Ih T sp call ops anc is st' (behind st (FE sp st o.op) rs) k)else .fail)
    (fun st=>bif Ci o then(bif apart anc i st (some []) rs then J9 o (fun st'=>Ih T sp call ops anc is st' (behind st (some []) rs) k) st else .fail)
     else J9 o (fun st'=>Ih T sp call ops anc is st' rs k) st)
def exec(X:AW)(call callD:E9)(nd ro:Bool)(d:Nat)(f:FuncId)(base:Nat):Code→AF→(DX→AF→Tr)→Tr
 | .skip,st,k| .label _,st,k=>k .normal st
 | .region _ ops dr,st,k=>bif dr then(bif !ro||GM ops (DY ops)then Ih X.C.T X.sp callD ops (DY ops).a (DY ops).ord st [] (k .normal)else .fail)else prun X.C.T call ops ops.toList st (k .normal)
 | .seq a b,st,k=>exec X call callD nd ro d f base a st fun e st'=>match e with
  | .normal=>bif X.ct f (CM b)then .cut nd ro d f base b (Nw X f (CM b) base st') k else exec X call callD nd ro d f base b st' k
  |e=>k e st'
 | .cond x a b,st,k=>match Ow st x with
  |some (.bl t)=>bif t then exec X call callD nd ro d f base a st k else exec X call callD nd ro d f base b st k
  |some (.dat .bool t)=>match x with
   | .tmp s=>.ite t (exec X call callD nd ro d f base a (st.set s (.bl true)) k) (exec X call callD nd ro d f base b (st.set s (.bl false)) k)
   |_=>.ite t (exec X call callD nd ro d f base a st k) (exec X call callD nd ro d f base b st k)
  |some .ub=>match x with
   | .tmp s=>.both (exec X call callD nd ro d f base a (st.set s (.bl true)) k) (exec X call callD nd ro d f base b (st.set s (.bl false)) k)
   |_=>.fail
  |_=>.fail
 | .block id b,st,k=>exec X call callD nd ro d f base b st fun e st'=>match e with
  | .exit i=>bif ze i id then k .normal st' else k e st'
  |e=>k e st'
 | .loop b,st,k=>.loop nd ro d f base b (Nw X f (CM b) base st) k
 | .exit i,st,k=>k (.exit i) st
 | .ret,st,k=>k .ret st
 | .scope b,st,k=>exec X call callD nd ro d f base b st k
 |_,_,_=>.fail
def XU(T:BZ)(st:AF):ResultVar→Option PV
 | .tmp t=>some (st.get t)
 | .cell a t=>match KS T st t (st.get a)with
  | .val v _=>some v
  | .HQ _ v _=>some v
  |_=>none
def Jy(T:BZ)(st:AF):List ResultVar→List Bool
 |[]=>[]
 | .tmp _::rs=>Jy T st rs
 | .cell a t::rs=>match KS T st t (st.get a)with
  | .HQ c _ _=>c::Jy T st rs
  |_=>Jy T st rs
def LV:List Bool→Tr→Tr
 |[],t=>t
 |c::cs,t=>.ite c (LV cs t) .fail
def WC(T:BZ)(st:AF):List ResultVar→Option (List PV)
 |[]=>some []
 |r::rs=>match XU T st r,WC T st rs with
  |some v,some vs=>some (v::vs)
  |_,_=>none
def DL:List PV→Nat→List (Nat×PV)
 |[],_=>[]
 |v::vs,i=>(i,v)::DL vs (zN i 1)
def enter(X:AW)(call callD:E9)(nd:Bool)(d:Nat)(f:FuncId)(args:List PV)(st:AF)(k:PV→AF→Tr):Tr:=
 match X.C.fn f with
 |none=>.fail
 |some i=>bif i.cert then
   exec X call callD nd false d f st.nx i.body (Al (zN args.length (Nat.sub i.ntmps args.length)) (DL args 0) st.ob st.nx) fun e s=>match e with
    | .exit _=>.fail
    |_=>match WC X.C.T s i.results.toList with
     |some vs=>LV (Jy X.C.T s i.results.toList) (k (one vs) ⟨st.n,st.fr,s.ob,s.nx⟩)
     |none=>.fail
  else .fail
def B5(X:AW)(nd:Bool):Nat→E9
 |0=>fun _ _ _ _=>.fail
 |d+1=>fun c args st k=>match c with
  | .fn g=>match X.sp g with
   |some sp=>bif nd|| !sp.nd then Yd sp args st k else .fail
   |none=>match X.ws g with
    |some w=>Tu w args st k
    |none=>match X.C.prim g,X.C.spec g with
     |none,none=>enter X (B5 X nd d) (B5 X false d) nd d g args st k
     |_,_=>.fail
  | .rnd _=>.fail
def tree(X:AW)(nd:Bool)(d:Nat)(f:FuncId)(args:List PV):Tr:=
 enter X (B5 X nd d) (B5 X false d) nd d f args (Al 0 [] [] 0) fun v st=>.leaf v st.ob
def TR(X:AW)(d:Nat)(f:FuncId)(w:Fi)(i:(Bi w.ins).T)(l:List w.el.T):Tr:=
 enter X (B5 X false d) (B5 X false d) false d f (Ag w.ins i++[.sl 0 w.el.sz 0 (zP l) none]) (Al 0 [] [(0,.arr false w.ty w.el l)] 1) fun v st=>.leaf v st.ob
def PH(X:AW)(d:Nat)(f:FuncId)(w:Fi)(i:(Bi w.ins).T):Tr:=
 enter X (B5 X false d) (B5 X false d) false d f (Ag w.ins i++[.nil]) (Al 0 [] [] 0) fun v st=>.leaf v st.ob
def body(X:AW)(nd ro:Bool)(d:Nat)(f:FuncId)(base:Nat)(b:Code)(st:AF)(k:DX→AF→Tr):Tr:=
 exec X (B5 X nd d) (B5 X false d) nd ro d f base b st fun e st'=>match e with
  | .normal=>.loop nd ro d f base b (Nw X f (CM b) base st') k
  |e=>k e st'
def AG(X:AW)(nd ro:Bool)(d:Nat)(f:FuncId)(base:Nat)(b:Code)(st:AF)(k:DX→AF→Tr):Tr:=exec X (B5 X nd d) (B5 X false d) nd ro d f base b st k
inductive Ev (X:AW) (Q:PV→Ob→Prop):Nat→Tr→Prop where
 |leaf {n:Nat} {v:PV} {ob:Ob}:Q v ob→Ev X Q n (.leaf v ob)
 |ite {n:Nat} {c:Bool} {a b:Tr}:(c=true→Ev X Q n a)→(c=false→Ev X Q n b)→Ev X Q n (.ite c a b)
 |both {n:Nat} {a b:Tr}:Ev X Q n a→Ev X Q n b→Ev X Q n (.both a b)
 |cut {n:Nat} {nd ro:Bool} {d:Nat} {f:FuncId} {base:Nat} {b:Code} {st:AF} {k:DX→AF→Tr}:Ev X Q n (AG X nd ro d f base b st k)→Ev X Q n (.cut nd ro d f base b st k)
 |alts {n m:Nat} {f:Nat→Tr}:(∀i,i<m→Ev X Q n (f i))→Ev X Q n (.alts m f)
 |loop {n:Nat} {nd ro:Bool} {d:Nat} {f:FuncId} {base:Nat} {b:Code} {st:AF} {k:DX→AF→Tr}:Ev X Q n (body X nd ro d f base b st k)→Ev X Q (n+1) (.loop nd ro d f base b st k)
end
abbrev Fz:=Nat→Option (List V)
abbrev DF:=Nat→Option (Nat×Nat)
def DC(F:Fz):(s:Sh)→s.T→List V→Prop
 | .int k,x,cs=>cs=[.int k x]
 | .bool,x,cs=>cs=[.bool x]
 | .str,x,cs=>cs=[.str x]
 | .list s,l,cs=>∃v,cs=[v]∧((l=[]∧(v=.nils∨v=.esl∨v=.es0))∨
   ∃b off cap o bs,v=.sl b off l.length cap o∧l.length≤cap∧F b=some bs∧off+l.length*s.sz≤bs.length∧(o=0∨o=s.sz)∧
    ∀i (h:i<l.length),DC F s l[i] ((bs.drop (off+i*s.sz)).take s.sz))
 | .pair a b,x,cs=>∃c d,cs=c++d∧DC F a x.1 c∧DC F b x.2 d
 | .unit,_,cs=>cs=[]
 | .fnv,x,cs=>cs=[match (x:Option Fn)with|some f=>.fn f [] []|none=>.nilf]
 | .nlist s,l,cs=>∃v,cs=[v]∧((l=[]∧v=.nils)∨(l≠[]∧
   ∃b off cap o bs,v=.sl b off l.length cap o∧l.length≤cap∧F b=some bs∧off+l.length*s.sz≤bs.length∧(o=0∨o=s.sz)∧
    ∀i (h:i<l.length),DC F s l[i] ((bs.drop (off+i*s.sz)).take s.sz)))
theorem DC.len{F:Fz}:∀ {s:Sh} {x:s.T} {cs:List V},DC F s x cs→cs.length=s.sz
 | .int _,_,_,h=>by simp only[DC]at h;subst h;rfl
 | .bool,_,_,h=>by simp only[DC]at h;subst h;rfl
 | .str,_,_,h=>by simp only[DC]at h;subst h;rfl
 | .list _,_,_,h=>by simp only[DC]at h;obtain⟨v,rfl,_⟩:=h;rfl
 | .pair a b,x,_,h=>by
  simp only[DC]at h;obtain⟨c,d,rfl,h1,h2⟩:=h;rw[zC,h1.len,h2.len];rfl
 | .unit,_,_,h=>by simp only[DC]at h;subst h;rfl
 | .nlist _,_,_,h=>by simp only[DC]at h;obtain⟨v,rfl,_⟩:=h;rfl
 | .fnv,_,_,h=>by simp only[DC]at h;subst h;rfl
theorem DC.ok{F:Fz}:∀ {s:Sh} {x:s.T} {cs:List V},DC F s x cs→∀v∈cs,v.ok=true
 | .int _,_,_,h=>by simp only[DC]at h;subst h;simp[z5]
 | .bool,_,_,h=>by simp only[DC]at h;subst h;simp[z5]
 | .str,_,_,h=>by simp only[DC]at h;subst h;simp[z5]
 | .list s,_,_,h=>by
  simp only[DC]at h;obtain⟨v,rfl,⟨_,rfl|rfl|rfl⟩|⟨b,off,cap,o,bs,rfl,_⟩⟩:=h<;>simp[z5]
 | .pair a b,x,_,h=>by
  simp only[DC]at h;obtain⟨c,d,rfl,h1,h2⟩:=h;intro v hv;rcases List.mem_append.1 hv with hv|hv
  ·exact h1.ok v hv
  ·exact h2.ok v hv
 | .unit,_,_,h=>by simp only[DC]at h;subst h;simp
 | .fnv,x,_,h=>by simp only[DC]at h;subst h;intro v hv;rw[zg.1 hv];cases (x:Option Fn)<;>rfl
 | .nlist s,_,_,h=>by
  simp only[DC]at h;obtain⟨v,rfl,⟨_,rfl⟩|⟨_,b,off,cap,o,bs,rfl,_⟩⟩:=h<;>simp[z5]
theorem DC.mono{F F':Fz}(hF:∀b cs,F b=some cs→F' b=some cs):∀ {s:Sh} {x:s.T} {cs:List V},DC F s x cs→DC F' s x cs
 | .int _,_,_,h=>by simpa only[DC]using h
 | .bool,_,_,h=>by simpa only[DC]using h
 | .str,_,_,h=>by simpa only[DC]using h
 | .list s,l,_,h=>by
  simp only[DC]at h ⊢;obtain⟨v,rfl,h⟩:=h;refine⟨v,rfl,?_⟩;rcases h with h|⟨b,off,cap,o,bs,h1,h2,h3,h4,h5,h6⟩
  ·exact .inl h
  ·exact .inr ⟨b,off,cap,o,bs,h1,h2,hF _ _ h3,h4,h5,fun i hi=>(h6 i hi).mono hF⟩
 | .pair a b,x,_,h=>by
  simp only[DC]at h ⊢;obtain⟨c,d,rfl,h1,h2⟩:=h;exact⟨c,d,rfl,h1.mono hF,h2.mono hF⟩
 | .unit,_,_,h=>by simpa only[DC]using h
 | .fnv,_,_,h=>by simpa only[DC]using h
 | .nlist s,l,_,h=>by
  simp only[DC]at h ⊢;obtain⟨v,rfl,h⟩:=h;refine⟨v,rfl,?_⟩;rcases h with h|⟨h0,b,off,cap,o,bs,h1,h2,h3,h4,h5,h6⟩
  ·exact .inl h
  ·exact .inr ⟨h0,b,off,cap,o,bs,h1,h2,hF _ _ h3,h4,h5,fun i hi=>(h6 i hi).mono hF⟩
theorem DC.nl{F:Fz}{s:Sh}{l:List s.T}{cs:List V}(h:DC F (.nlist s) l cs):DC F (.list s) l cs:=by
 simp only[DC]at h ⊢;obtain⟨v,rfl,h⟩:=h;rcases h with⟨rfl,rfl⟩|⟨_,h⟩
 ·exact⟨_,rfl,.inl ⟨rfl,.inl rfl⟩⟩
 ·exact⟨_,rfl,.inr h⟩
theorem DC.pQ{F:Fz}{s:Sh}{l:List s.T}{cs:List V}(h:DC F (.list s) l cs)(h0:0<l.length):DC F (.nlist s) l cs:=by
 have hne:l≠[]:=by rintro rfl;simp at h0
 simp only[DC]at h ⊢;obtain⟨v,rfl,h⟩:=h;rcases h with⟨rfl,_⟩|h
 ·exact absurd rfl hne
 ·exact⟨_,rfl,.inr ⟨hne,h⟩⟩
mutual
def PR(F:Fz)(ρ:DF)(N:Nat):PV→V→Prop
 | .any,_=>True
 | .bl b,v=>v=.bool b
 | .ub,v=>∃b,v=.bool b
 | .dat s x,v=>DC F s x [v]
 | .nil,v=>v=.nils
 | .nilp,v=>v=.nilp
 | .nilm,v=>v=.nilm
 | .nilf,v=>v=.nilf
 | .nili,v=>v=.nili
 | .agg l,v=>∃cs,v=.agg cs∧A8 F ρ N l cs
 | .tup l,v=>∃cs,v=.tup cs∧A8 F ρ N l cs
 | .ptr id off,v=>id<N∧∀b n,ρ id=some (b,n)→v=.ptr b off
 | .eptr id sz i off,v=>id<N∧∀b n,ρ id=some (b,n)→v=.ptr b (i*sz+off)
 | .dptr s x off,v=>∃b o cs,v=.ptr b (o+off)∧F b=some cs∧o+s.sz≤cs.length∧DC F s x ((cs.drop o).take s.sz)
 | .sl id sz off len cap,v=>id<N∧∀b n,ρ id=some (b,n)→
   (len≤cap.getD len∧off+cap.getD len≤n∧∃o,(o=0∨o=sz)∧v=.sl b (off*sz) len (cap.getD len) o)∨
   (len=0∧cap=some 0∧off≤n∧(v=.esl∨∃off',v=.sl b off' 0 0 0∧off'≤off*sz))
 | .mp id,v=>id<N∧∀b n,ρ id=some (b,n)→v=.map b
 | .fn f first captured,v=>∃a b,v=.fn f a b∧A8 F ρ N first a∧A8 F ρ N captured b
 | .yl id,v=>id<N∧∀b n,ρ id=some (b,n)→v=.yld b
def A8(F:Fz)(ρ:DF)(N:Nat):List PV→List V→Prop
 |[],l=>l=[]
 |p::ps,l=>∃v vs,l=v::vs∧PR F ρ N p v∧A8 F ρ N ps vs
end
section
variable {F F':Fz}{ρ ρ':DF}{N N':Nat}
@[simp] theorem BU(l:List V):A8 F ρ N [] l↔l=[]:=by simp[A8]
@[simp] theorem AQ(p:PV)(ps:List PV)(v:V)(vs:List V):A8 F ρ N (p::ps) (v::vs)↔PR F ρ N p v∧A8 F ρ N ps vs:=by
 simp only[A8];constructor
 ·rintro⟨_,_,h,h1,h2⟩;cases h;exact⟨h1,h2⟩
 ·rintro⟨h1,h2⟩;exact⟨v,vs,rfl,h1,h2⟩
theorem A8.len:∀ {ps:List PV} {vs:List V},A8 F ρ N ps vs→ps.length=vs.length
 |[],vs,h=>by simp at h;simp[h]
 |p::ps,vs,h=>by
  simp only[A8]at h;obtain⟨v,vs,rfl,_,h2⟩:=h;simp[h2.len]
theorem A8.append:∀ {a:List PV} {x:List V} {b:List PV} {y:List V},A8 F ρ N a x→A8 F ρ N b y→A8 F ρ N (a++b) (x++y)
 |[],x,b,y,h,h'=>by simp at h;subst h;simpa using h'
 |p::ps,x,b,y,h,h'=>by
  simp only[A8]at h;obtain⟨v,vs,rfl,h1,h2⟩:=h;simp only[List.cons_append,AQ];exact⟨h1,h2.append h'⟩
theorem A8.drop:∀ {a:List PV} {x:List V} (n:Nat),A8 F ρ N a x→A8 F ρ N (a.drop n) (x.drop n)
 |[],x,n,h=>by simp at h;subst h;simp
 |p::ps,x,0,h=>by simpa using h
 |p::ps,x,n+1,h=>by
  simp only[A8]at h;obtain⟨v,vs,rfl,h1,h2⟩:=h;simpa using h2.drop n
theorem A8.take:∀ {a:List PV} {x:List V} (n:Nat),A8 F ρ N a x→A8 F ρ N (a.take n) (x.take n)
 |[],x,n,h=>by simp at h;subst h;simp
 |p::ps,x,0,h=>by simp
 |p::ps,x,n+1,h=>by
  simp only[A8]at h;obtain⟨v,vs,rfl,h1,h2⟩:=h;simpa using⟨h1,h2.take n⟩
theorem A8.get:∀ {a:List PV} {x:List V},A8 F ρ N a x→∀ {i:Nat} {p:PV},a[i]?=some p→∃v,x[i]?=some v∧PR F ρ N p v
 |[],x,h,i,p,hp=>by simp at hp
 |q::ps,x,h,i,p,hp=>by
  simp only[A8]at h;obtain⟨v,vs,rfl,h1,h2⟩:=h;cases i with
  |zero=>simp at hp;subst hp;exact⟨v,rfl,h1⟩
  |succ i=>simp at hp;simpa using h2.get hp
structure Le(F:Fz)(ρ:DF)(N:Nat)(F':Fz)(ρ':DF)(N':Nat):Prop where
 fz:∀b cs,F b=some cs→F' b=some cs
 rho:∀id,id<N→ρ' id=ρ id∨ρ' id=none
 n:N≤N'
theorem Le.refl:Le F ρ N F ρ N:=⟨fun _ _ h=>h,fun _ _=>.inl rfl,zn _⟩
theorem Le.trans{F'':Fz}{ρ'':DF}{N'':Nat}(a:Le F ρ N F' ρ' N')(b:Le F' ρ' N' F'' ρ'' N''):Le F ρ N F'' ρ'' N'':=
 ⟨fun c cs h=>b.fz c cs (a.fz c cs h),fun id h=>by
  rcases b.rho id (zo h a.n)with e|e
  ·rw[e];exact a.rho id h
  ·exact .inr e,Nat.le_trans a.n b.n⟩
theorem Le.at(hl:Le F ρ N F' ρ' N'){id:Nat}(h:id<N){x:Nat×Nat}(hx:ρ' id=some x):ρ id=some x:=by
 rcases hl.rho id h with e|e
 ·rw[←e];exact hx
 ·rw[e]at hx;cases hx
mutual
theorem PR.mono(hl:Le F ρ N F' ρ' N'):∀ {p:PV} {v:V},PR F ρ N p v→PR F' ρ' N' p v
 | .any,_,_=>by simp[PR]
 | .bl _,_,h=>by simpa only[PR]using h
 | .ub,_,h=>by simpa only[PR]using h
 | .dat s x,_,h=>by simp only[PR]at h ⊢;exact h.mono hl.fz
 | .nil,_,h| .nilp,_,h| .nilm,_,h| .nilf,_,h| .nili,_,h=>by simpa only[PR]using h
 | .agg l,_,h=>by simp only[PR]at h ⊢;obtain⟨cs,rfl,h1⟩:=h;exact⟨cs,rfl,h1.mono hl⟩
 | .tup l,_,h=>by simp only[PR]at h ⊢;obtain⟨cs,rfl,h1⟩:=h;exact⟨cs,rfl,h1.mono hl⟩
 | .ptr _ _,_,h=>by simp only[PR]at h ⊢;exact⟨zo h.1 hl.n,fun b n hb=>h.2 b n (hl.at h.1 hb)⟩
 | .eptr _ _ _ _,_,h=>by simp only[PR]at h ⊢;exact⟨zo h.1 hl.n,fun b n hb=>h.2 b n (hl.at h.1 hb)⟩
 | .dptr s x off,_,h=>by
  simp only[PR]at h ⊢;obtain⟨b,o,cs,h1,h2,h3,h4⟩:=h;exact⟨b,o,cs,h1,hl.fz _ _ h2,h3,h4.mono hl.fz⟩
 | .sl _ _ _ _ _,_,h=>by simp only[PR]at h ⊢;exact⟨zo h.1 hl.n,fun b n hb=>h.2 b n (hl.at h.1 hb)⟩
 | .mp _,_,h=>by simp only[PR]at h ⊢;exact⟨zo h.1 hl.n,fun b n hb=>h.2 b n (hl.at h.1 hb)⟩
 | .fn f a b,_,h=>by
  simp only[PR]at h ⊢;obtain⟨x,y,rfl,h1,h2⟩:=h;exact⟨x,y,rfl,h1.mono hl,h2.mono hl⟩
 | .yl _,_,h=>by simp only[PR]at h ⊢;exact⟨zo h.1 hl.n,fun b n hb=>h.2 b n (hl.at h.1 hb)⟩
theorem A8.mono(hl:Le F ρ N F' ρ' N'):∀ {ps:List PV} {vs:List V},A8 F ρ N ps vs→A8 F' ρ' N' ps vs
 |[],_,h=>by simpa using h
 |p::ps,_,h=>by
  simp only[A8]at h ⊢;obtain⟨v,vs,rfl,h1,h2⟩:=h;exact⟨v,vs,rfl,h1.mono hl,h2.mono hl⟩
end
theorem PR.lz:∀ {p:PV} {v:V},PR F ρ N p v→PR F ρ N (lz p) v:=by
 intro p v h;unfold Pe.lz;split
 ·simp only[PR]at h ⊢;exact h.nl
 ·exact h
theorem A8.lz:∀ {ps:List PV} {vs:List V},A8 F ρ N ps vs→A8 F ρ N (ps.map Pe.lz) vs
 |[],_,h=>by simpa using h
 |p::ps,_,h=>by
  simp only[A8]at h;obtain⟨v,vs,rfl,h1,h2⟩:=h;simp only[List.map_cons,AQ];exact⟨h1.lz,h2.lz⟩
theorem Vj{s:Sh}{p:PV}{v:V}(h:PR F ρ N p v)(hc:(QZ s p).1=true):PR F ρ N (QZ s p).2 v:=by
 unfold QZ at hc ⊢;split
 ·rename_i s s' x;cases hb:(s==s')with
  |false=>exact h
  |true=>
   have hc:(bif s==s' then(decide (0<zP x),PV.dat s'.nlist x)else(true,PV.dat s'.list x)).1=true:=hc;rw[hb]at hc;simp only[cond_true,decide_eq_true_eq]at hc;simp only[PR,cond_true]at h ⊢;exact h.pQ hc
 ·rename_i s s' x;cases hb:(s==s')with
  |false=>exact h
  |true=>simp only[PR,cond_true]at h ⊢;exact h.nl
 ·exact h
theorem OT:∀ {l:List Sh} {ps:List PV} {vs:List V},A8 F ρ N ps vs→(Jh l ps).1=true→A8 F ρ N (Jh l ps).2 vs
 |[],ps,vs,h,_=>h
 |s::l,[],vs,h,_=>h
 |s::l,p::ps,vs,h,hc=>by
  simp only[A8]at h;obtain⟨v,vs,rfl,h1,h2⟩:=h;simp only[Jh,zc]at hc;simp only[Jh,AQ];exact⟨Vj h1 hc.1,OT h2 hc.2⟩
def DH(F:Fz)(s:Sh)(l:List s.T)(cs:List V):Prop:=cs.length=l.length*s.sz∧∀i (h:i<l.length),DC F s l[i] ((cs.drop (i*s.sz)).take s.sz)
theorem DH.mono(hF:∀b cs,F b=some cs→F' b=some cs){s:Sh}{l:List s.T}{cs:List V}(h:DH F s l cs):DH F' s l cs:=⟨h.1,fun i hi=>(h.2 i hi).mono hF⟩
theorem DH.ok{F:Fz}{s:Sh}{l:List s.T}{cs:List V}(h:DH F s l cs):∀v∈cs,v.ok=true:=by
 intro v hv;obtain⟨k,hk⟩:=List.mem_iff_getElem?.1 hv;have hkl:=(List.getElem?_eq_some_iff.1 hk).1;have hsz:0<s.sz:=by
  rcases Nat.eq_zero_or_pos s.sz with e|e
  ·rw[h.1,e,Nat.mul_zero]at hkl;omega
  ·exact e
 have hi:k/s.sz<l.length:=Nat.div_lt_of_lt_mul (by rw[Nat.mul_comm, ←h.1];exact hkl);refine(h.2 _ hi).ok v ?_;refine List.mem_iff_getElem?.2 ⟨k % s.sz,?_⟩;rw[zm (Nat.mod_lt _ hsz),zu,show k/s.sz*s.sz+k % s.sz=k from by rw[Nat.mul_comm];exact Nat.div_add_mod _ _];exact hk
def DV(F:Fz)(s:Sh)(x:s.T)(v:V):Prop:=(s.Mo=true→∃cs,v=.agg cs∧DC F s x cs)∧(s.Mo=false→DC F s x [v])
theorem DV.mono(hF:∀b cs,F b=some cs→F' b=some cs){s:Sh}{x:s.T}{v:V}(h:DV F s x v):DV F' s x v:=
 ⟨fun e=>by obtain⟨cs,h1,h2⟩:=h.1 e;exact⟨cs,h1,h2.mono hF⟩,fun e=>(h.2 e).mono hF⟩
inductive MR (F:Fz) (ks vs:Sh):List (ks.T×vs.T)→List (V×V×Nat)→Prop where
 |nil:MR F ks vs [] []
 |cons {k:ks.T} {v:vs.T} {l:List (ks.T×vs.T)} {a b:V} {n:Nat} {es:List (V×V×Nat)}:DV F ks k a→DV F vs v b→MR F ks vs l es→MR F ks vs ((k,v)::l) ((a,b,n)::es)
theorem MR.mono(hF:∀b cs,F b=some cs→F' b=some cs){ks vs:Sh}{l:List (ks.T×vs.T)}{es:List (V×V×Nat)}(h:MR F ks vs l es):MR F' ks vs l es:=by
 induction h with
 |nil=>exact .nil
 |cons h1 h2 _ ih=>exact .cons (h1.mono hF) (h2.mono hF) ih
noncomputable def PF(sl:List (Nat×PV))(t:Nat):PV:=((DK sl).get t).getD .any
def pX:pF→LoopState→Option Code→Prop
 | .ready,st,pe=>st=.ready∧pe=none
 | .busy,st,_=>st=.busy
 | .ret,st,pe=>st=.done∧pe=some .ret
 | .exit i,st,pe=>st=.done∧pe=some (.exit i)
def Ur(F:Fz)(ρ:DF)(N n:Nat):Obj→O→Prop
 | .arr _ e s l,o=>∃cs fz,o=.cells cs e fz∧DH F s l cs∧fz.2≤fz.1∧l.length=n
 | .box ps,o=>∃cs t fz,o=.cells cs t fz∧A8 F ρ N ps cs∧fz.2≤fz.1∧∀v∈cs,v.ok=true
 | .map ks vs l,o=>∃es clk,o=.map es clk∧MR F ks vs l es
 | .siter s pos,o=>o=.siter s pos
 | .lp _ _ ps asg body s n' sl,o=>∃ls,o=.loop ls∧ls.ps=ps∧ls.asg=asg∧ls.body=body∧pX s ls.st ls.pend∧ls.fr.n=n'∧∀t,PR F ρ N (PF sl t) (ls.fr.get t)
theorem Ur.mono(hl:Le F ρ N F' ρ' N'){n:Nat}{x:Obj}{o:O}(h:Ur F ρ N n x o):Ur F' ρ' N' n x o:=by
 cases x with
 |arr fz e s l=>obtain⟨cs,f,h1,h2,h3⟩:=h;exact⟨cs,f,h1,h2.mono hl.fz,h3⟩
 |box ps=>obtain⟨cs,t,f,h1,h2,h3⟩:=h;exact⟨cs,t,f,h1,h2.mono hl,h3⟩
 |map ks vs l=>obtain⟨es,clk,h1,h2⟩:=h;exact⟨es,clk,h1,h2.mono hl.fz⟩
 |siter s pos=>exact h
 |lp f r ps asg body s n sl=>obtain⟨ls,h1,h2,h3,h4,h5,h6,h7⟩:=h;exact⟨ls,h1,h2,h3,h4,h5,h6,fun t=>(h7 t).mono hl⟩
def Obj.frozen:Obj→Bool
 | .arr fz _ _ _=>fz
 |_=>false
structure H0 where
 h:H
 F:Fz
 pin:List Nat
 ex:Nat→Prop:=fun _=>False
def H0.pins(h0:H0)(ps:List Nat):H0:={ h0 with pin:=ps++h0.pin }
def H0.U7(h0:H0)(B b:Nat):Prop:=B≤b∨h0.ex b
theorem Lt{h0:H0}{B b c:Nat}(h:h0.U7 B b)(hc:c<B)(he:¬h0.ex c):c≠b:=by
 rintro rfl;rcases h with h|h
 ·omega
 ·exact he h
structure SR(B:Nat)(h0:H0)(F:Fz)(ρ:DF)(N:Nat)(ob:Ob)(h:H):Prop where
 obj:∀id o,AE ob id=some o→∃b n x,ρ id=some (b,n)∧h.get b=some x∧Ur F ρ N n o x∧(o.frozen=false→F b=none)∧
  (o.frozen=true→∃cs t fz,x=.cells cs t fz∧F b=some cs)
 inj:∀id id' o o' b n n',AE ob id=some o→AE ob id'=some o'→ρ id=some (b,n)→ρ id'=some (b,n')→id=id'
 frz:∀b cs,F b=some cs→∃t fz,h.get b=some (.cells cs t fz)
 own:∀id b n,ρ id=some (b,n)→id<N∧h0.U7 B b
 dead:∀id,AE ob id=none→ρ id=none
 old:∀b,b<B→¬h0.ex b→h.get b=h0.h.get b
 lt:∀b o,h.get b=some o→b<h.nx
 le:B≤h.nx
 fo:∀b cs,F b=some cs→h0.F b=some cs∨h0.U7 B b
 pn:∀b∈h0.pin,h.get b=some (.defd true)∧B≤b∧∀id n,ρ id≠some (b,n)
structure FP(F:Fz)(ρ:DF)(N:Nat)(st:AF)(fr:Fr):Prop where
 n:st.n=fr.n
 slot:∀t,PR F ρ N (st.get t) (fr.get t)
theorem FP.mono(hl:Le F ρ N F' ρ' N'){st:AF}{fr:Fr}(h:FP F ρ N st fr):FP F' ρ' N' st fr:=⟨h.n,fun t=>(h.slot t).mono hl⟩
end
section
variable {B:Nat}{h0:H0}{F:Fz}{ρ:DF}{N:Nat}
mutual
theorem U2:∀ {v:Value} {p:PV},K0 v=some p→∃x,cv v=some x∧PR F ρ N p x
 | .bool b,p,h=>by simp[K0]at h;subst h;exact⟨_,rfl,by simp[PR]⟩
 | .int k n,p,h=>by simp[K0]at h;subst h;exact⟨_,rfl,by simp[PR,DC]⟩
 | .string s,p,h=>by simp[K0]at h;subst h;exact⟨_,rfl,by simp[PR,DC]⟩
 | .pointer none,p,h=>by simp[K0]at h;subst h;exact⟨_,rfl,by simp[PR]⟩
 | .pointer (some a),p,h=>by simp[K0]at h
 | .slice none 0 0,p,h=>by simp[K0]at h;subst h;exact⟨_,rfl,by simp[PR]⟩
 | .slice none 0 (_+1),p,h=>by simp[K0]at h
 | .slice none (_+1) _,p,h=>by simp[K0]at h
 | .slice (some a) _ _,p,h=>by simp[K0]at h
 | .map none,p,h=>by simp[K0]at h;subst h;exact⟨_,rfl,by simp[PR]⟩
 | .map (some a),p,h=>by simp[K0]at h
 | .nilFunc,p,h=>by simp[K0]at h;subst h;exact⟨_,rfl,by simp[PR]⟩
 | .nilIface,p,h=>by simp[K0]at h;subst h;exact⟨_,rfl,by simp[PR]⟩
 | .func f ⟨[]⟩ ⟨[]⟩,p,h=>by simp[K0]at h;subst h;exact⟨_,rfl,by simp[PR]⟩
 | .func f ⟨_::_⟩ _,p,h=>by simp[K0]at h
 | .func f ⟨[]⟩ ⟨_::_⟩,p,h=>by simp[K0]at h
 | .agg ⟨cs⟩,p,h=>by
  simp only[K0,zi]at h;obtain⟨xs,h1,rfl⟩:=h;obtain⟨ys,h2,h3⟩:=NA h1;exact⟨.agg ys,by simp[cv,h2],by simp only[PR];exact⟨ys,rfl,h3⟩⟩
 | .tuple ⟨cs⟩,p,h=>by
  simp only[K0,zi]at h;obtain⟨xs,h1,rfl⟩:=h;obtain⟨ys,h2,h3⟩:=NA h1;exact⟨.tup ys,by simp[cv,h2],by simp only[PR];exact⟨ys,rfl,h3⟩⟩
 | .float _ _,p,h=>by simp[K0]at h
 | .complex _ _ _,p,h=>by simp[K0]at h
 | .chan _,p,h=>by simp[K0]at h
 | .iface _ _,p,h=>by simp[K0]at h
theorem NA:∀ {vs:List Value} {ps:List PV},Ve vs=some ps→∃xs,eA vs=some xs∧A8 F ρ N ps xs
 |[],ps,h=>by simp[Ve]at h;subst h;exact⟨[],rfl,by simp⟩
 |v::vs,ps,h=>by
  unfold Ve at h;split at h
  case h_2=>cases h
  rename_i x xs h1 h2;cases h;obtain⟨y,g1,g2⟩:=U2 h1;obtain⟨ys,g3,g4⟩:=NA h2;exact⟨y::ys,by simp[eA,g1,g3],by simp[g2,g4]⟩
end
theorem ZS(v:V):PR F ρ N (Uz v) v:=by
 cases v<;>simp[Uz,PR,DC]
theorem Eh:∀vs:List V,A8 F ρ N (vs.map Uz) vs
 |[]=>by simp
 |v::vs=>by simp only[List.map_cons,AQ];exact⟨ZS v,Eh vs⟩
variable {C:Ctx}{st st':AF}{fr:Fr}{h:H}
theorem Cd(hf:FP F ρ N st fr){x:Operand}{p:PV}(hd:Ow st x=some p):∃v,ev C fr x=some v∧PR F ρ N p v:=by
 cases x with
 |tmp t=>simp only[Ow,zk]at hd;subst hd;exact⟨_,rfl,hf.slot t⟩
 |const v=>exact U2 hd
 |global g=>simp[Ow]at hd
 |func f=>simp only[Ow,zk]at hd;subst hd;exact⟨_,rfl,by simp[PR]⟩
theorem Ec(hf:FP F ρ N st fr):∀ {xs:List Operand} {ps:List PV},KY st xs=some ps→∃vs,Pb C fr xs=some vs∧A8 F ρ N ps vs
 |[],ps,hd=>by simp[KY]at hd;subst hd;exact⟨[],rfl,by simp⟩
 |x::xs,ps,hd=>by
  unfold KY at hd;split at hd
  case h_2=>cases hd
  rename_i v vs h1 h2;cases hd;obtain⟨y,g1,g2⟩:=Cd (C:=C) hf h1;obtain⟨ys,g3,g4⟩:=Ec hf h2;exact⟨y::ys,by simp[Pb,g1,g3],by simp[g2,g4]⟩
inductive gA (F:Fz) (ρ:DF) (N:Nat):List (Nat×PV)→List (Nat×V)→Prop
 |nil:gA F ρ N [] []
 |cons {i:Nat} {p:PV} {v:V} {l:List (Nat×PV)} {l':List (Nat×V)}:PR F ρ N p v→gA F ρ N l l'→gA F ρ N ((i,p)::l) ((i,v)::l')
theorem Mx(hf:FP F ρ N st fr):∀ {xs:List (Nat×Operand)} {ps:List (Nat×PV)},VK st xs=some ps→∃vs,Sy C fr xs=some vs∧gA F ρ N ps vs
 |[],ps,hd=>by simp[VK]at hd;subst hd;exact⟨[],rfl,.nil⟩
 |(i,x)::xs,ps,hd=>by
  unfold VK at hd;split at hd
  case h_2=>cases hd
  rename_i v vs h1 h2;cases hd;obtain⟨y,g1,g2⟩:=Cd (C:=C) hf h1;obtain⟨ys,g3,g4⟩:=Mx hf h2;exact⟨(i,y)::ys,by simp[Sy,g1,g3],.cons g2 g4⟩
structure Rel(B:Nat)(h0:H0)(F:Fz)(ρ:DF)(st:AF)(fr:Fr)(h:H):Prop where
 fp:FP F ρ st.nx st fr
 sr:SR B h0 F ρ st.nx st.ob h
inductive PO.To:PO→PV→AF→Prop
 |val {v:PV} {st:AF}:PO.To (.val v st) v st
 |tt {a b:PO} {v:PV} {st:AF}:PO.To a v st→PO.To (.ite true a b) v st
 |ff {a b:PO} {v:PV} {st:AF}:PO.To b v st→PO.To (.ite false a b) v st
@[simp] theorem Kj{v:PV}{s:AF}:¬PO.To .bad v s:=by intro h;cases h
@[simp] theorem AM{v u:PV}{s t:AF}:PO.To (.val v s) u t↔v=u∧s=t:=by
 constructor
 ·intro h;cases h;exact⟨rfl,rfl⟩
 ·rintro⟨rfl,rfl⟩;exact .val
@[simp] theorem By{c:Bool}{v u:PV}{s t:AF}:PO.To (.HQ c v s) u t↔c=true∧v=u∧s=t:=by
 constructor
 ·intro h;unfold PO.HQ at h;cases h with
  |tt h=>cases h;exact⟨rfl,rfl,rfl⟩
  |ff h=>cases h
 ·rintro⟨rfl,rfl,rfl⟩;exact .tt .val
@[simp] theorem LB{o:Option PV}{u:PV}{s t:AF}:PO.To (ov s o) u t↔o=some u∧s=t:=by
 cases o with
 |none=>simp[ov]
 |some v=>simp only[ov,AM,zk]
@[simp] theorem MU{c:Bool}{o:Option PV}{u:PV}{s t:AF}:PO.To (kK c s o) u t↔c=true∧o=some u∧s=t:=by
 cases o with
 |none=>simp[kK]
 |some v=>simp only[kK,By,zk]
def OK(B:Nat)(h0:H0)(F:Fz)(ρ:DF)(st:AF)(h:H)(tch:List Nat)(d:Option OR)(v:PV)(st':AF):Prop:=
 ∃v' h' F' ρ',(d=some (.val v' h')∨(d=some (.skip h')∧v'=.tup []))∧PR F' ρ' st'.nx v v'∧SR B h0 F' ρ' st'.nx st'.ob h'∧Le F ρ st.nx F' ρ' st'.nx∧
  st'.fr=st.fr∧st'.n=st.n∧h.nx≤h'.nx∧∀b,b<h.nx→h'.get b=h.get b∨∃id∈tch,∃n,ρ id=some (b,n)
theorem OK.pure{tch:List Nat}(hr:SR B h0 F ρ st.nx st.ob h){d:Option OR}{v:PV}{v':V}(hd:d=some (.val v' h))(hv:PR F ρ st.nx v v'):OK B h0 F ρ st h tch d v st:=
 ⟨v',h,F,ρ,.inl hd,hv,hr,Le.refl,rfl,rfl,zn _,fun _ _=>.inl rfl⟩
theorem MA{α:Type}(n:Nat)(l:List α):Det.Jd n l=l.drop n:=MD n l
theorem rd_some{h:H}{b off n:Nat}{cs:List V}{t:TypeId}{fz:Nat×Nat}(hg:h.get b=some (.cells cs t fz))(hl:off+n≤cs.length)(hk:∀v∈(cs.drop off).take n,v.ok=true):rd h b off n=some ((cs.drop off).take n):=by
 rw[Up];unfold kG;rw[hg];simp only;rw[if_pos ⟨hl,zr.2 hk⟩]
theorem IT{d:TypeDesc}{n:Nat}{ps:List PV}{cs:List V}(hp:A8 F ρ N ps cs){p:PV}(hd:pick d n ps=some p):
  (Dp d=true∧0<n∧n≤cs.length∧PR F ρ N p (.agg (cs.take n)))∨(Dp d=false∧∃v vs,cs=v::vs∧PR F ρ N p v):=by
 unfold pick at hd;cases ha:Dp d with
 |true=>
  left;simp only[ha,cond_true]at hd;rw[D3,Mv]at hd;cases hb:(zB n ps.length&&zQ 0 n)with
  |false=>rw[hb]at hd;cases hd
  |true=>
   rw[hb]at hd;simp only[cond_true,zk]at hd;subst hd;simp only[zc]at hb;obtain⟨hb,hb2⟩:=hb;refine⟨rfl,zx hb2,by rw[←hp.len];exact zx hb,?_⟩;simp only[PR];exact⟨_,rfl,hp.take n⟩
 |false=>
  right;simp only[ha,cond_false]at hd;cases ps with
  |nil=>cases hd
  |cons q qs=>
   cases hd;simp only[A8]at hp;obtain⟨v,vs,rfl,h1,_⟩:=hp;exact⟨rfl,v,vs,rfl,h1⟩
theorem CP:∀ {s:Sh} {x:s.T} {cs:List V},DC F s x cs→A8 F ρ N (flat s x) cs
 | .pair a b,(x,y),cs,h=>by
  simp only[DC]at h;obtain⟨c,d,rfl,h1,h2⟩:=h;exact(CP h1).append (CP h2)
 | .unit,_,cs,h=>by simp only[DC]at h;subst h;simp[flat]
 | .int k,x,cs,h=>by simp only[DC]at h;subst h;simp only[flat,AQ,BU,and_true];simp[PR,DC]
 | .bool,x,cs,h=>by simp only[DC]at h;subst h;simp only[flat,AQ,BU,and_true];simp[PR,DC]
 | .str,x,cs,h=>by simp only[DC]at h;subst h;simp only[flat,AQ,BU,and_true];simp[PR,DC]
 | .list s,x,cs,h=>by
  have h':=h;simp only[DC]at h;obtain⟨v,rfl,_⟩:=h;simp only[flat,AQ,BU,and_true,PR];exact h'
 | .fnv,x,cs,h=>by simp only[DC]at h;subst h;simp only[flat,AQ,BU,and_true];cases (x:Option Fn)<;>simp[PR]
 | .nlist s,x,cs,h=>by
  have h':=h;simp only[DC]at h;obtain⟨v,rfl,_⟩:=h;simp only[flat,AQ,BU,and_true,PR];exact h'
theorem ES{α:Type}(l:List α)(a b:Nat):l.drop (a+b)=(l.drop a).drop b:=by rw[zO]
theorem HH{T:BZ}{t:TypeId}{d:TypeDesc}{i:TI}(hd:T.und t=some d)(hi:T.inf t=some i){b off:Nat}{cs:List V}{te:TypeId}{fz:Nat×Nat}(hg:h.get b=some (.cells cs te fz))
  {m:Nat} (hok:∀v∈(cs.drop off).take m,v.ok=true) {ps:List PV} (hp:A8 F ρ N ps ((cs.drop off).take m)) {p:PV} (hpk:pick d i.size ps=some p):∃v,Ei T h t (.ptr b off)=some v∧PR F ρ N p v:=by
 unfold Ei;simp only[hd,hi];have hlen:((cs.drop off).take m).length≤cs.length-off:=by simp;omega
 have hoff:off≤cs.length:=by
  have:0<((cs.drop off).take m).length:=by
   rcases IT hp hpk with⟨_,h0,hn,_⟩|⟨_,v,vs,e,_⟩
   ·omega
   ·rw[e];simp
  simp at this;omega
 rcases IT hp hpk with⟨ha,_,hn,hv⟩|⟨ha,v,vs,hcs,hv⟩
 ·simp only[ha,cond_true];have:(cs.drop off).take i.size=((cs.drop off).take m).take i.size:=by
   rw[zY];have:i.size≤m:=by
    have:=hn;simp at this;omega
   rw[zw this]
  rw[rd_some hg (by omega) (fun v hv=>hok v (zK (by rwa [this]at hv)))];refine⟨_,rfl,?_⟩;rw[this];exact hv
 ·simp only[ha,cond_false];have h1:off+1≤cs.length:=by
   have:((cs.drop off).take m).length=vs.length+1:=by rw[hcs];rfl
   omega
  have h2:(cs.drop off).take 1=[v]:=by
   have:m≠0:=by rintro rfl;simp at hcs
   obtain⟨k,rfl⟩:=Nat.exists_eq_succ_of_ne_zero this;cases hc:cs.drop off with
   |nil=>rw[hc]at hcs;simp at hcs
   |cons a qB=>rw[hc]at hcs;simp only[List.take_succ_cons,List.cons.injEq]at hcs;simp[hcs.1]
  rw[rd_some hg h1 (fun u hu=>by rw[h2]at hu;cases zg.1 hu;exact hok v (by rw[hcs];simp)),h2];exact⟨v,rfl,hv⟩
end
section
variable {B:Nat}{h0:H0}{F:Fz}{ρ:DF}{N:Nat}{C:Ctx}{st st':AF}{fr:Fr}{h:H}
theorem SR.at(hr:SR B h0 F ρ N st.ob h){id:Nat}{o:Obj}(ho:st.obj id=some o):∃b n x,ρ id=some (b,n)∧h.get b=some x∧Ur F ρ N n o x∧(o.frozen=false→F b=none)∧
  (o.frozen=true→∃cs t fz,x=.cells cs t fz∧F b=some cs):=hr.obj id o ho
theorem NM{s:Sh}{l:List s.T}{cs:List V}(hd:DH F s l cs)(hs:s.sz=1):∀(n j:Nat),j+n=l.length→A8 F ρ N (LH s l j n) (cs.drop j)
 |0,j,hj=>by
  have:cs.length=l.length:=by rw[hd.1,hs,zD]
  rw[List.drop_eq_nil_of_le (by omega)];unfold LH;simp
 |n+1,j,hj=>by
  have hl:cs.length=l.length:=by rw[hd.1,hs,zD]
  have hjl:j<l.length:=by omega
  have h1:=hd.2 j hjl;rw[hs,zD]at h1;have e:cs.drop j=(cs.drop j).take 1++cs.drop (j+1):=by
   have:=List.take_append_drop 1 (cs.drop j);rw[zO]at this;exact this.symm
  unfold LH;rw[e,show l.getD j s.GA=l[j]from by simp[hjl]];exact(CP h1).append (NM hd hs n (j+1) (by omega))
theorem X8(hr:SR B h0 F ρ st.nx st.ob h){t:TypeId}{p:PV}{a:V}(ha:PR F ρ st.nx p a){v:PV}(ht:(KS C.T st t p).To v st'):
  OK B h0 F ρ st h [] (Bj h (Ei C.T h t a)) v st':=by
 unfold KS at ht;split at ht
 case h_2=>simp at ht
 rename_i d i hd hi;split at ht
 case h_4=>simp at ht
 case h_1=>
  rename_i id off;split at ht
  case h_3=>simp at ht
  case h_2=>
   rename_i fzb e s l ho;cases hsz:(ze off 0&&ze s.sz 1)with
   |false=>rw[hsz]at ht;simp at ht
   |true=>
    rw[hsz]at ht;simp only[cond_true,MU,decide_eq_true_eq]at ht;obtain⟨hj,hpk,rfl⟩:=ht;rw[zc]at hsz;have h0:=zd hsz.1;have h1s:=zd hsz.2;subst h0;obtain⟨b,n,x,h1,h2,⟨cs,fz,rfl,h4,_⟩,_⟩:=hr.at ho;simp only[PR]at ha;obtain rfl:=ha.2 b n h1;have hp:=NM (ρ:=ρ) (N:=st.nx) h4 h1s i.size 0 (by omega);obtain⟨v',g1,g2⟩:=HH (h:=h) hd hi h2 (m:=cs.length) (fun u hu=>h4.ok u (zy (zK hu))) (by rw[zU (by simp)];exact hp) hpk;exact OK.pure hr (by rw[g1];rfl) g2
  rename_i ps ho;simp only[LB]at ht;obtain⟨hpk,rfl⟩:=ht;obtain⟨b,n,x,h1,h2,⟨cs,te,fz,rfl,h4,_,hbok⟩,_⟩:=hr.at ho;simp only[PR]at ha;obtain rfl:=ha.2 b n h1;rw[MA]at hpk;obtain⟨v',g1,g2⟩:=HH (h:=h) hd hi h2 (m:=cs.length) (fun u hu=>hbok u (zy (zK hu))) (by rw[zU (by simp)];exact h4.drop off) hpk;exact OK.pure hr (by rw[g1];rfl) g2
 case h_2=>
  rename_i id sz j off;split at ht
  case h_2=>simp at ht
  rename_i fzb e s l ho;cases hsz:ze sz s.sz with
  |false=>rw[hsz]at ht;simp at ht
  |true=>
   rw[hsz]at ht;simp only[cond_true,MU,decide_eq_true_eq]at ht;obtain⟨hj,hpk,rfl⟩:=ht;have hsz:=zd hsz;subst hsz;obtain⟨b,n,x,h1,h2,⟨cs,fz,rfl,h4,_⟩,_⟩:=hr.at ho;simp only[PR]at ha;obtain rfl:=ha.2 b n h1;have hdc:=h4.2 j hj;rw[show l.getD j s.GA=l[j]from by simp[hj],MA]at hpk;have hp:A8 F ρ st.nx ((flat s l[j]).drop off) ((cs.drop (j*s.sz+off)).take (s.sz-off)):=by
    have:=(CP (F:=F) (ρ:=ρ) (N:=st.nx) hdc).drop off;rw[ES, ←zz]at*;exact this
   obtain⟨v',g1,g2⟩:=HH (h:=h) hd hi h2 (fun u hu=>hdc.ok u (zy (i:=off) (by rw[ES, ←zz]at hu;exact hu))) hp hpk;exact OK.pure hr (by rw[g1];rfl) g2
 case h_3=>
  rename_i s x off;simp only[LB]at ht;obtain⟨hpk,rfl⟩:=ht;simp only[PR]at ha;obtain⟨b,o,cs,rfl,h1,h2,h3⟩:=ha;obtain⟨te,fz,h4⟩:=hr.frz b cs h1;rw[MA]at hpk;have hp:A8 F ρ st.nx ((flat s x).drop off) ((cs.drop (o+off)).take (s.sz-off)):=by
   have:=(CP (F:=F) (ρ:=ρ) (N:=st.nx) h3).drop off;rw[ES, ←zz]at*;exact this
  obtain⟨v',g1,g2⟩:=HH (h:=h) hd hi h4 (fun u hu=>h3.ok u (zy (i:=off) (by rw[ES, ←zz]at hu;exact hu))) hp hpk;exact OK.pure hr (by rw[g1];rfl) g2
theorem DC.P7:∀ {s:Sh} {x:s.T} {cs:List V},DC F s x cs→∀v∈cs,v.one=true
 | .int _,_,_,h=>by simp only[DC]at h;subst h;intro v hv;rw[zg.1 hv];rfl
 | .bool,_,_,h=>by simp only[DC]at h;subst h;intro v hv;rw[zg.1 hv];rfl
 | .str,_,_,h=>by simp only[DC]at h;subst h;intro v hv;rw[zg.1 hv];rfl
 | .list s,l,_,h=>by
  simp only[DC]at h;obtain⟨u,rfl,h⟩:=h;intro v hv;rw[zg.1 hv];rcases h with⟨_,rfl|rfl|rfl⟩|⟨b,off,cap,o,bs,rfl,_⟩<;>rfl
 | .pair a b,x,_,h=>by
  simp only[DC]at h;obtain⟨c,d,rfl,h1,h2⟩:=h;intro v hv;rcases List.mem_append.1 hv with hv|hv
  ·exact h1.P7 v hv
  ·exact h2.P7 v hv
 | .unit,_,_,h=>by simp only[DC]at h;subst h;intro v hv;cases hv
 | .fnv,x,_,h=>by simp only[DC]at h;subst h;intro v hv;rw[zg.1 hv];cases (x:Option Fn)<;>rfl
 | .nlist s,l,_,h=>by
  simp only[DC]at h;obtain⟨u,rfl,h⟩:=h;intro v hv;rw[zg.1 hv];rcases h with⟨_,rfl⟩|⟨_,b,off,cap,o,bs,rfl,_⟩<;>rfl
theorem GZ{o:Option Obj}(h:Ln o=true):∃x,o=some x:=by cases o with|none=>cases h|some x=>exact⟨x,rfl⟩
theorem O5(hr:SR B h0 F ρ st.nx st.ob h){p:PV}{v:V}(hs:Is st p=true)(hp:PR F ρ st.nx p v):v.one=true:=by
 have key:∀ {id:Nat},Ln (st.obj id)=true→∃b n,ρ id=some (b,n):=by
  intro id hi;obtain⟨o,ho⟩:=GZ hi;obtain⟨b,n,_,h1,_⟩:=hr.at ho;exact⟨b,n,h1⟩
 cases p<;>simp only[Is]at hs<;>simp only[PR]at hp<;>try (cases hs;done)
 case bl=>subst hp;rfl
 case dat=>exact hp.P7 v (zg.2 rfl)
 case nil|nilp|nilm|nilf|nili=>subst hp;rfl
 case ptr=>obtain⟨b,n,h1⟩:=key hs;rw[hp.2 b n h1];rfl
 case eptr=>obtain⟨b,n,h1⟩:=key hs;rw[hp.2 b n h1];rfl
 case dptr=>obtain⟨b,o,cs,rfl,_⟩:=hp;rfl
 case sl=>
  obtain⟨b,n,h1⟩:=key hs;rcases hp.2 b n h1 with⟨_,_,o,_,rfl⟩|⟨_,_,_,rfl|⟨_,rfl,_⟩⟩<;>rfl
 case mp|yl=>obtain⟨b,n,h1⟩:=key hs;rw[hp.2 b n h1];rfl
 case fn=>obtain⟨a,b,rfl,_⟩:=hp;rfl
theorem VB{v:V}(h:v.one=true):v.cells=[v]:=by cases v<;>first|rfl|cases h
theorem Ld(hr:SR B h0 F ρ st.nx st.ob h){p:PV}{v:V}{ps:List PV}(hp:PR F ρ st.nx p v)(hd:kI st p=some ps):A8 F ρ st.nx ps v.cells:=by
 unfold kI at hd;split at hd
 ·cases hd;simp only[PR]at hp;obtain⟨cs,rfl,h1⟩:=hp;exact h1
 ·rename_i q hq;cases hs:Is st p with
  |false=>rw[hs]at hd;cases hd
  |true=>
   rw[hs]at hd;cases hd;rw[VB (O5 hr hs hp)];simpa using hp
theorem Iy(hr:SR B h0 F ρ st.nx st.ob h):∀ {ps:List PV} {vs:List V},ps.all (Is st)=true→A8 F ρ st.nx ps vs→vs.all V.one=true
 |[],vs,_,h=>by simp at h;subst h;rfl
 |p::ps,vs,ha,h=>by
  simp only[A8]at h;obtain⟨v,vs,rfl,h1,h2⟩:=h;simp only[List.all_cons,zc]at ha ⊢;exact⟨O5 hr ha.1 h1,Iy hr ha.2 h2⟩
theorem A8.Ig:∀ {a:List PV} {x:List V} {b:List PV} {y:List V},A8 F ρ N a x→A8 F ρ N b y→A8 F ρ N (Ig a b) (Ig x y)
 |[],x,b,y,h,h'=>by simp at h;subst h;exact h'
 |p::ps,x,b,y,h,h'=>by
  simp only[A8]at h;obtain⟨v,vs,rfl,h1,h2⟩:=h;cases b with
  |nil=>simp at h';subst h';show A8 F ρ N [] [];simp
  |cons q qs=>
   simp only[A8]at h';obtain⟨u,us,rfl,g1,g2⟩:=h';show A8 F ρ N (p::Det.Ig ps qs) (v::Det.Ig vs us);simp only[AQ];exact⟨h1,h2.Ig g2⟩
theorem A8.Cj{a:List PV}{x:List V}(ha:A8 F ρ N a x):∀(n:Nat) {b:List PV} {y:List V},A8 F ρ N b y→A8 F ρ N (Cj n a b) (Cj n x y)
 |0,b,y,h=>ha.Ig h
 |n+1,[],y,h=>by simp at h;subst h;show A8 F ρ N [] [];simp
 |n+1,q::qs,y,h=>by
  simp only[A8]at h;obtain⟨u,us,rfl,g1,g2⟩:=h;show A8 F ρ N (q::Det.Cj n a qs) (u::Det.Cj n x us);simp only[AQ];exact⟨g1,A8.Cj ha n g2⟩
theorem FH:∀(l:Ob) (i:Nat) (x:Obj) (j:Nat),(AE l i).isSome=true→AE (C6 l i x) j=if j=i then some x else AE l j
 |[],i,x,j,h=>by cases h
 |(a,o)::l,i,x,j,h=>by
  simp only[C6,AE,Be]at h ⊢;by_cases e:a=i
  ·subst e;simp only[decide_true,cond_true,AE,Be];by_cases e2:a=j
   ·subst e2;simp
   ·rw[if_neg (fun h=>e2 h.symm)];simp[e2]
  ·simp only[e,decide_false,cond_false]at h ⊢;simp only[AE,Be];by_cases e2:a=j
   ·subst e2;simp[e]
   ·simp only[e2,decide_false,cond_false];exact FH l i x j h
theorem ML{b off:Nat}{vs cs:List V}{t:TypeId}{fz:Nat×Nat}(hg:h.get b=some (.cells cs t fz))(hl:off+vs.length≤cs.length)(hfz:fz.2≤fz.1)(ho:vs.all V.one=true):
  wr h b off vs=some (h.put b (.cells (Cj off vs cs) t fz)):=by
 unfold wr;simp only[hg,D3,Et,ho];have h1:zB (zN off vs.length) cs.length=true:=zl hl;have h2:Det.clear fz off vs.length=true:=by
  unfold Det.clear;rw[show zB fz.2 fz.1=true from zl hfz,z6]
 rw[h1,h2];rfl
theorem SR.set(hr:SR B h0 F ρ st.nx st.ob h){id b n:Nat}{o o':Obj}{x x':O}(ho:st.obj id=some o)(hb:ρ id=some (b,n))(hg:h.get b=some x)(hf:o.frozen=false)(hf':o'.frozen=false)
  (hx:Ur F ρ st.nx n o' x'):SR B h0 F ρ st.nx (C6 st.ob id o') (h.put b x'):=by
 have hob:AE st.ob id=some o:=ho;have hFb:F b=none:=by
  obtain⟨b',n',_,h1,_,_,h2,_⟩:=hr.at ho;rw[hb]at h1;cases h1;exact h2 hf
 have hset:∀j,AE (C6 st.ob id o') j=if j=id then some o' else AE st.ob j:=fun j=>FH _ _ _ _ (by rw[hob];rfl)
 refine⟨fun j oj hj=>?_,fun i j oi oj c m m' hi hj h1 h2=>?_,fun c cs hc=>?_,hr.own,fun j hj=>?_,fun c hc he=>?_,fun c oc hc=>?_,hr.le,hr.fo,fun c hc=>?_⟩
 ·rw[hset]at hj;by_cases e:j=id
  ·subst e;simp only[if_true,zk]at hj;subst hj;exact⟨b,n,x',hb,by simp,hx,fun _=>hFb,fun e=>by rw[hf']at e;cases e⟩
  ·rw[if_neg e]at hj;obtain⟨c,m,y,h1,h2,h3,h4,h5⟩:=hr.obj j oj hj;have hne:c≠b:=fun ec=>e (hr.inj j id oj o c m n hj hob h1 (ec▸hb))
   exact⟨c,m,y,h1,by rw[H.A9,if_neg hne];exact h2,h3,h4,h5⟩
 ·have get':∀k ok,AE (C6 st.ob id o') k=some ok→∃o2,AE st.ob k=some o2:=by
   intro k ok hk;rw[hset]at hk;by_cases e:k=id
   ·exact⟨o,e▸hob⟩
   ·rw[if_neg e]at hk;exact⟨ok,hk⟩
  obtain⟨_,g1⟩:=get' i oi hi;obtain⟨_,g2⟩:=get' j oj hj;exact hr.inj i j _ _ c m m' g1 g2 h1 h2
 ·have hne:c≠b:=fun e=>by rw[e,hFb]at hc;cases hc
  rw[H.A9,if_neg hne];exact hr.frz c cs hc
 ·rw[hset]at hj;by_cases e:j=id
  ·rw[if_pos e]at hj;cases hj
  ·rw[if_neg e]at hj;exact hr.dead j hj
 ·have hne:c≠b:=Lt (hr.own id b n hb).2 hc he;rw[H.A9,if_neg hne];exact hr.old c hc he
 ·rw[H.A9]at hc;by_cases e:c=b
  ·subst e;exact hr.lt _ _ hg
  ·rw[if_neg e]at hc;exact hr.lt c oc hc
 ·obtain⟨g1,g2,g3⟩:=hr.pn c hc;have hne:c≠b:=fun e=>g3 id n (e▸hb)
  exact⟨by rw[H.A9,if_neg hne];exact g1,g2,g3⟩
end
section
variable {B:Nat}{h0:H0}{F:Fz}{ρ:DF}{N:Nat}{C:Ctx}{st st':AF}{fr:Fr}{h:H}
def Bx(ρ:DF)(i:Nat)(x:Option (Nat×Nat)):DF:=fun j=>if j=i then x else ρ j
theorem Le.Qh(i:Nat):Le F ρ N F (Bx ρ i none) N:=⟨fun _ _ h=>h,fun id _=>by unfold Bx;split<;>simp_all,zn _⟩
theorem Le.new(x:Nat×Nat):Le F ρ N F (Bx ρ N (some x)) (N+1):=⟨fun _ _ h=>h,fun id h=>by unfold Bx;rw[if_neg (by omega)];exact .inl rfl,Nat.le_succ _⟩
theorem SR.push{ob:Ob}(hr:SR B h0 F ρ N ob h){o:Obj}{x:O}{n:Nat}(hf:o.frozen=false)(hx:Ur F (Bx ρ N (some (h.nx,n))) (N+1) n o x):
  SR B h0 F (Bx ρ N (some (h.nx,n))) (N+1) ((N,o)::ob) (h.push x):=by
 have hl:Le F ρ N F (Bx ρ N (some (h.nx,n))) (N+1):=Le.new _;have hget:∀j,AE ((N,o)::ob) j=if j=N then some o else AE ob j:=by
  intro j;simp only[AE,Be];by_cases e:N=j
  ·subst e;simp
  ·rw[if_neg (fun h=>e h.symm)];simp[e]
 have hlt:∀id b m,ρ id=some (b,m)→id<N:=fun id b m hb=>(hr.own id b m hb).1
 have hnew:∀b y,h.get b=some y→b≠h.nx:=fun b y hb=>by have:=hr.lt b y hb;omega
 refine⟨fun j oj hj=>?_,fun i j oi oj c m m' hi hj h1 h2=>?_,fun c cs hc=>?_,fun id b m hb=>?_,fun j hj=>?_,fun c hc he=>?_,fun c oc hc=>?_,?_,?_,fun c hc=>?_⟩
 ·rw[hget]at hj;by_cases e:j=N
  ·subst e;simp only[if_true,zk]at hj;subst hj;refine⟨h.nx,n,x,by simp[Bx],by simp,hx,fun _=>?_,fun e=>by rw[hf]at e;cases e⟩;cases hc:F h.nx with
   |none=>rfl
   |some cs=>
    obtain⟨t,fz,hg⟩:=hr.frz _ _ hc;exact absurd rfl (hnew _ _ hg)
  ·rw[if_neg e]at hj;obtain⟨c,m,y,h1,h2,h3,h4,h5⟩:=hr.obj j oj hj;exact⟨c,m,y,by simp[Bx,e,h1],by rw[H.BS,if_neg (hnew c y h2)];exact h2,h3.mono hl,h4,h5⟩
 ·rw[hget]at hi hj;have key:∀k ok m,(if k=N then some o else AE ob k)=some ok→Bx ρ N (some (h.nx,n)) k=some (c,m)→(k=N∧c=h.nx)∨(k≠N∧AE ob k=some ok∧ρ k=some (c,m)∧c≠h.nx):=by
   intro k ok m hk hr';by_cases e:k=N
   ·subst e;simp[Bx]at hr';exact .inl ⟨rfl,hr'.1.symm⟩
   ·rw[if_neg e]at hk;simp only[Bx,e,if_false]at hr';obtain⟨c',m',y,g1,g2,_⟩:=hr.obj k ok hk;rw[hr']at g1;cases g1;exact .inr ⟨e,hk,hr',hnew c y g2⟩
  rcases key i oi m hi h1 with⟨e1,e2⟩|⟨e1,e2,e3,e4⟩<;>rcases key j oj m' hj h2 with⟨f1,f2⟩|⟨f1,f2,f3,f4⟩
  ·rw[e1,f1]
  ·exact absurd e2 f4
  ·exact absurd f2 e4
  ·exact hr.inj i j oi oj c m m' e2 f2 e3 f3
 ·obtain⟨t,fz,hg⟩:=hr.frz c cs hc;exact⟨t,fz,by rw[H.BS,if_neg (hnew c _ hg)];exact hg⟩
 ·unfold Bx at hb;split at hb
  ·rename_i e;cases hb;subst e;exact⟨zI _,.inl hr.le⟩
  ·have:=hr.own id b m hb;exact⟨by omega,this.2⟩
 ·rw[hget]at hj;by_cases e:j=N
  ·rw[if_pos e]at hj;cases hj
  ·rw[if_neg e]at hj;simp[Bx,e,hr.dead j hj]
 ·have:=hr.le;rw[H.BS,if_neg (by omega)];exact hr.old c hc he
 ·rw[H.BS]at hc;by_cases e:c=h.nx
  ·subst e;exact zI _
  ·rw[if_neg e]at hc;have:=hr.lt c oc hc;show c<h.nx+1;omega
 ·have:=hr.le;show B≤h.nx+1;omega
 ·exact hr.fo
 ·obtain⟨g1,g2,g3⟩:=hr.pn c hc;have hne:=hnew c _ g1;refine⟨by rw[H.BS,if_neg hne];exact g1,g2,fun id m e=>?_⟩;unfold Bx at e;split at e
  ·cases e;exact hne rfl
  ·exact g3 id m e
theorem DT:∀(l:Ob) (i j:Nat),AE (FT l i) j=if j=i then none else AE l j
 |[],i,j=>by simp[FT,AE]
 |(a,o)::l,i,j=>by
  simp only[FT,Be];by_cases e:a=i
  ·subst e;simp only[decide_true,cond_true];rw[DT l a j];simp only[AE,Be];by_cases e2:j=a
   ·simp[e2]
   ·rw[if_neg e2];have e3:¬a=j:=fun h=>e2 h.symm
    simp[e3,e2]
  ·simp only[e,decide_false,cond_false,AE,Be];rw[DT l i j];by_cases e2:a=j
   ·subst e2;simp[e]
   ·simp[e2]
theorem SR.del{ob:Ob}(hr:SR B h0 F ρ N ob h)(id:Nat):SR B h0 F (Bx ρ id none) N (FT ob id) h:=by
 have hl:Le F ρ N F (Bx ρ id none) N:=Le.Qh id;refine⟨fun j oj hj=>?_,fun i j oi oj c m m' hi hj h1 h2=>?_,hr.frz,fun j b m hb=>?_,fun j hj=>?_,hr.old,hr.lt,hr.le,hr.fo,fun c hc=>?_⟩
 ·rw[DT]at hj;split at hj
  ·cases hj
  ·rename_i e;obtain⟨c,m,y,h1,h2,h3,h4⟩:=hr.obj j oj hj;exact⟨c,m,y,by simp[Bx,e,h1],h2,h3.mono hl,h4⟩
 ·rw[DT]at hi hj;split at hi
  ·cases hi
  split at hj
  ·cases hj
  rename_i e1 e2;simp only[Bx,e1,e2,if_false]at h1 h2;exact hr.inj i j oi oj c m m' hi hj h1 h2
 ·unfold Bx at hb;split at hb
  ·cases hb
  ·exact hr.own j b m hb
 ·rw[DT]at hj;unfold Bx;split
  ·rfl
  ·rename_i e;rw[if_neg e]at hj;exact hr.dead j hj
 ·obtain⟨g1,g2,g3⟩:=hr.pn c hc;refine⟨g1,g2,fun j m e=>?_⟩;unfold Bx at e;split at e
  ·cases e
  ·exact g3 j m e
theorem SR.kill{ob:Ob}(hr:SR B h0 F ρ N ob h){b:Nat}(h1:∀id o n,AE ob id=some o→ρ id≠some (b,n))(h2:F b=none)(h3:h0.U7 B b)(h4:b∉h0.pin):SR B h0 F ρ N ob (h.kill b):=by
 refine⟨fun j oj hj=>?_,hr.inj,fun c cs hc=>?_,hr.own,hr.dead,fun c hc he=>?_,fun c oc hc=>?_,hr.le,hr.fo,fun c hc=>?_⟩
 ·obtain⟨c,m,y,g1,g2,g3⟩:=hr.obj j oj hj;have:c≠b:=fun e=>h1 j oj m hj (e▸g1)
  exact⟨c,m,y,g1,by rw[H.CA,if_neg this];exact g2,g3⟩
 ·have:c≠b:=fun e=>by rw[e,h2]at hc;cases hc
  rw[H.CA,if_neg this];exact hr.frz c cs hc
 ·have:c≠b:=Lt h3 hc he;rw[H.CA,if_neg this];exact hr.old c hc he
 ·rw[H.CA]at hc;split at hc
  ·cases hc
  ·exact hr.lt c oc hc
 ·obtain⟨g1,g2,g3⟩:=hr.pn c hc;have hne:c≠b:=fun e=>h4 (e▸hc)
  exact⟨by rw[H.CA,if_neg hne];exact g1,g2,g3⟩
theorem CT{s s':Sh}{x:s.T}{y:s'.T}(h:DS s s' x=some y):∃e:s=s',e▸x=y:=by
 unfold DS at h;split at h
 ·rename_i e;cases h;exact⟨e,rfl⟩
 ·cases h
theorem Gt{s:Sh}{p:PV}{x:s.T}{v:V}(hp:PR F ρ N p v)(hd:Y4 s p=some x):DC F s x [v]:=by
 unfold Y4 at hd;split at hd
 ·obtain⟨rfl,rfl⟩:=CT hd;simpa only[PR]using hp
 ·obtain⟨rfl,rfl⟩:=CT hd;simp only[PR]at hp;subst hp;simp[DC]
 ·obtain⟨rfl,rfl⟩:=CT hd;simp only[PR,BU]at hp;obtain⟨_,_,rfl,rfl,rfl⟩:=hp;simp[DC]
 ·obtain⟨rfl,rfl⟩:=CT hd;simp only[PR]at hp;subst hp;simp[DC]
 ·split at hd
  ·cases hd;simp only[PR]at hp;subst hp;simp[DC]
  ·cases hd;simp only[PR]at hp;subst hp;simp[DC]
  ·cases hd
 ·cases hd
theorem Gr:∀ {s:Sh} {ps:List PV} {vs:List V} {x:s.T} {rest:List PV},A8 F ρ N ps vs→B6 s ps=some (x,rest)→∃a b,vs=a++b∧DC F s x a∧A8 F ρ N rest b
 | .pair s t,ps,vs,x,rest,hp,hd=>by
  unfold B6 at hd;split at hd
  case h_2=>cases hd
  rename_i y l1 h1;split at hd
  case h_2=>cases hd
  rename_i z l2 h2;cases hd;obtain⟨a,b,rfl,g1,g2⟩:=Gr hp h1;obtain⟨c,d,rfl,g3,g4⟩:=Gr g2 h2;exact⟨a++c,d,by simp,by simp only[DC];exact⟨a,c,rfl,g1,g3⟩,g4⟩
 | .unit,ps,vs,x,rest,hp,hd=>by
  unfold B6 at hd;cases hd;exact⟨[],vs,rfl,by simp[DC],hp⟩
 | .int k,[],vs,x,rest,hp,hd=>by simp[B6]at hd
 | .bool,[],vs,x,rest,hp,hd=>by simp[B6]at hd
 | .str,[],vs,x,rest,hp,hd=>by simp[B6]at hd
 | .list s,[],vs,x,rest,hp,hd=>by simp[B6]at hd
 | .nlist s,[],vs,x,rest,hp,hd=>by simp[B6]at hd
 | .fnv,[],vs,x,rest,hp,hd=>by simp[B6]at hd
 | .int k,p::ps,vs,x,rest,hp,hd=>by
  simp only[A8]at hp;obtain⟨v,vs,rfl,h1,h2⟩:=hp;simp only[B6]at hd;split at hd
  ·rename_i y hy;cases hd;exact⟨[v],vs,rfl,Gt h1 hy,h2⟩
  ·cases hd
 | .bool,p::ps,vs,x,rest,hp,hd=>by
  simp only[A8]at hp;obtain⟨v,vs,rfl,h1,h2⟩:=hp;simp only[B6]at hd;split at hd
  ·rename_i y hy;cases hd;exact⟨[v],vs,rfl,Gt h1 hy,h2⟩
  ·cases hd
 | .str,p::ps,vs,x,rest,hp,hd=>by
  simp only[A8]at hp;obtain⟨v,vs,rfl,h1,h2⟩:=hp;simp only[B6]at hd;split at hd
  ·rename_i y hy;cases hd;exact⟨[v],vs,rfl,Gt h1 hy,h2⟩
  ·cases hd
 | .list s,p::ps,vs,x,rest,hp,hd=>by
  simp only[A8]at hp;obtain⟨v,vs,rfl,h1,h2⟩:=hp;simp only[B6]at hd;split at hd
  ·rename_i y hy;cases hd;exact⟨[v],vs,rfl,Gt h1 hy,h2⟩
  ·cases hd
 | .fnv,p::ps,vs,x,rest,hp,hd=>by
  simp only[A8]at hp;obtain⟨v,vs,rfl,h1,h2⟩:=hp;simp only[B6]at hd;split at hd
  ·rename_i y hy;cases hd;exact⟨[v],vs,rfl,Gt h1 hy,h2⟩
  ·cases hd
 | .nlist s,p::ps,vs,x,rest,hp,hd=>by
  simp only[A8]at hp;obtain⟨v,vs,rfl,h1,h2⟩:=hp;simp only[B6]at hd;split at hd
  ·rename_i y hy;cases hd;exact⟨[v],vs,rfl,Gt h1 hy,h2⟩
  ·cases hd
theorem Ct{s:Sh}{ps:List PV}{vs:List V}{x:s.T}(hp:A8 F ρ N ps vs)(hd:Ck s ps=some x):DC F s x vs:=by
 unfold Ck at hd;split at hd
 ·rename_i y hy;cases hd;obtain⟨a,b,rfl,h1,h2⟩:=Gr hp hy;simp at h2;subst h2;simpa using h1
 ·cases hd
end
section
variable {B:Nat}{h0:H0}{F:Fz}{ρ:DF}{N:Nat}{C:Ctx}{st st':AF}{fr:Fr}{h:H}
theorem Q7{v:V}:∀(vs cs:List V) (off:Nat),v∈Fq cs off vs→v∈vs∨v∈cs
 |[],cs,off,h=>.inr h
 |u::vs,cs,off,h=>by
  have h:v∈Fq (cs.set off u) (off+1) vs:=h;rcases Q7 vs _ _ h with h|h
  ·exact .inl (List.mem_cons_of_mem _ h)
  ·rcases List.mem_or_eq_of_mem_set h with h|h
   ·exact .inr h
   ·exact .inl (by simp[h])
theorem XJ{v:V}{vs cs:List V}{off:Nat}(h:v∈Det.Cj off vs cs):v∈vs∨v∈cs:=by
 rw[HN]at h;exact Q7 _ _ _ h
theorem FG{cs vs:List V}{off:Nat}(hl:off+vs.length≤cs.length)(j:Nat):(Cj off vs cs)[j]?=if off≤j∧j<off+vs.length then vs[j-off]? else cs[j]?:=by
 rw[HN];exact Ni vs cs off j hl
theorem WL{cs vs:List V}{off:Nat}:(Cj off vs cs).length=cs.length:=by
 rw[HN];exact Fa vs cs off
theorem gU{cs vs:List V}{m off k:Nat}(hk:off+vs.length≤k)(hl:m+k≤cs.length):((Cj (m+off) vs cs).drop m).take k=Cj off vs ((cs.drop m).take k):=by
 apply zG;intro j;rw[FG (by simp;omega)];by_cases hj:j<k
 ·rw[zm hj,zu,FG (by omega)];by_cases hc:off≤j∧j<off+vs.length
  ·rw[if_pos hc,if_pos (by omega)];congr 1;omega
  ·rw[if_neg hc,if_neg (by omega),zm hj,zu]
 ·rw[if_neg (by omega),zj (by simp;omega),zj (by simp;omega)]
theorem Zh{cs vs:List V}{m p k:Nat}(hd:p+vs.length≤m∨m+k≤p)(hl:p+vs.length≤cs.length):((Cj p vs cs).drop m).take k=(cs.drop m).take k:=by
 apply zG;intro j;by_cases hj:j<k
 ·rw[zm hj,zm hj,zu,zu,FG hl,if_neg (by omega)]
 ·rw[zj (by simp;omega),zj (by simp;omega)]
theorem DH.set{s:Sh}{l:List s.T}{cs vs:List V}{j off:Nat}{y:s.T}(hd:DH F s l cs)(hj:j<l.length)(hoff:off+vs.length≤s.sz)(hy:DC F s y (Cj off vs ((cs.drop (j*s.sz)).take s.sz))):
  DH F s (l.set j y) (Cj (j*s.sz+off) vs cs):=by
 have hb:j*s.sz+s.sz≤cs.length:=by
  rw[hd.1, ←zh];exact zf _ hj
 refine⟨by rw[WL,List.length_set];exact hd.1,fun i hi=>?_⟩;have hi':i<l.length:=by simpa using hi
 by_cases e:i=j
 ·subst e;rw[gU hoff hb,List.getElem_set_self];exact hy
 ·rw[List.getElem_set_ne (fun h=>e h.symm),Zh ?_ (by omega)]
  ·exact hd.2 i hi'
  ·rcases Nat.lt_or_gt_of_ne e with h1|h1
   ·right;have:(i+1)*s.sz≤j*s.sz:=zf _ h1;rw[zh]at this;omega
   ·left;have:(j+1)*s.sz≤i*s.sz:=zf _ h1;rw[zh]at this;omega
theorem HO{s:Sh}:∀ {n:Nat} {ps:List PV} {vs:List V} {l:List s.T},A8 F ρ N ps vs→chunk s n ps=some l→vs.length=n*s.sz→l.length=n∧DH F s l vs
 |0,ps,vs,l,hp,hd,hn=>by
  cases hd;simp at hn;subst hn;exact⟨rfl,by simp[DH]⟩
 |n+1,ps,vs,l,hp,hd,hn=>by
  unfold chunk at hd;split at hd
  case h_2=>cases hd
  rename_i x rest hx;rw[zi]at hd;obtain⟨l',h1,rfl⟩:=hd;obtain⟨a,b,rfl,h2,h3⟩:=Gr hp hx;have ha:=h2.len;have hb:b.length=n*s.sz:=by rw[zC,ha,zh]at hn;omega
  obtain⟨g1,g2⟩:=HO h3 h1 hb;refine⟨by simp[g1],by rw[zC,ha,hb,zT,g1,zh];omega,fun i hi=>?_⟩;cases i with
  |zero=>
   simp only[zV,zZ,zH];rw[←ha,List.take_left];exact h2
  |succ i=>
   simp only[List.getElem_cons_succ];have hi':i<l'.length:=by simpa using hi
   have:=g2.2 i hi';have e:(a++b).drop ((i+1)*s.sz)=b.drop (i*s.sz):=by
    rw[zh,zW,ES, ←ha,List.drop_left]
   rw[e];exact this
theorem YH{cs xs:List V}(h:xs.length=cs.length):Det.Cj 0 xs cs=xs:=by
 apply zG;intro j;rw[FG (by omega)];by_cases hj:j<xs.length
 ·rw[if_pos (by omega)];rfl
 ·rw[if_neg (by omega),zj (by omega),zj (by omega)]
theorem aI(hr:SR B h0 F ρ st.nx st.ob h){t:TypeId}{p q:PV}{a x:V}(ha:PR F ρ st.nx p a)(hx:PR F ρ st.nx q x){v:PV}(ht:(Tf C.T st t p q).To v st'):
  ∃id,((∃off,p=.ptr id off)∨∃sz j off,p=.eptr id sz j off)∧OK B h0 F ρ st h [id] (XG (G2 C.T h t a x)) v st':=by
 unfold Tf at ht;split at ht
 case h_2=>simp at ht
 rename_i i xs hi hxs;cases hc:(ze (Det.GQ xs) i.size&&Det.Jz (Is st) xs)with
 |false=>rw[hc]at ht;simp at ht
 |true=>
  rw[hc]at ht;simp only[zc]at hc;obtain⟨hc1,hc2⟩:=hc;rw[D3]at hc1;rw[Et]at hc2;have hxs':=Ld hr hx hxs;have hlen:x.cells.length=i.size:=by rw[←hxs'.len];exact zd hc1
  have hone:=Iy hr hc2 hxs';have hb1:ze x.cells.length i.size=true:=by rw[hlen];exact zA _
  simp only[cond_true]at ht;split at ht
  case h_3=>simp at ht
  case h_1=>
   rename_i id off;split at ht
   case h_3=>exact absurd ht (by simp)
   case h_2=>
    rename_i e s l ho;cases hcc:(ze off 0&&ze s.sz 1)with
    |false=>rw[hcc]at ht;simp at ht
    |true=>
     rw[hcc]at ht;rw[zc]at hcc;have hoff:=zd hcc.1;have hs1:=zd hcc.2;subst hoff;simp only[cond_true]at ht;split at ht
     case h_2=>exact absurd ht (by simp)
     rename_i y hy;simp only[By,decide_eq_true_eq]at ht;obtain⟨hj,rfl,rfl⟩:=ht;obtain⟨b,n,z,h1,h2,⟨cs,fz,rfl,h4,h5,h6⟩,hf,_⟩:=hr.at ho;simp only[PR]at ha;obtain rfl:=ha.2 b n h1;have hcl:cs.length=x.cells.length:=by rw[h4.1,hs1,zD,hlen];exact hj
     obtain⟨k1,k2⟩:=HO hxs' hy (by rw[hs1,zD];exact hlen);have hle:0+x.cells.length≤cs.length:=by omega
     refine⟨id,.inl ⟨0,rfl⟩,.tup [],_,F,ρ,.inr ⟨?_,rfl⟩,by simp[PR],hr.set ho h1 h2 rfl rfl (o':=.arr false e s y) ⟨Det.Cj 0 x.cells cs,fz,rfl,by rw[YH hcl.symm];exact k2,h5,by omega⟩,Le.refl,rfl,rfl,zn _,fun c _=>?_⟩
     ·unfold G2;simp only[hi,hb1,cond_true];rw[ML h2 hle h5 hone];rfl
     ·rw[H.A9];by_cases e:c=b
      ·exact .inr ⟨id,zg.2 rfl,n,e▸h1⟩
      ·rw[if_neg e];exact .inl rfl
   rename_i ps ho;cases hble:zB (zN off i.size) (Det.GQ ps)with
   |false=>rw[hble]at ht;simp at ht
   |true=>
    rw[hble]at ht;simp only[cond_true,AM]at ht;obtain⟨rfl,rfl⟩:=ht;obtain⟨b,n,y,h1,h2,⟨cs,te,fz,rfl,h4,h5,hbok⟩,hf,_⟩:=hr.at ho;simp only[PR]at ha;obtain rfl:=ha.2 b n h1;rw[D3]at hble;have hle:off+x.cells.length≤cs.length:=by rw[←h4.len,hlen];exact zx hble
    refine⟨id,.inl ⟨off,rfl⟩,.tup [],_,F,ρ,.inr ⟨?_,rfl⟩,by simp[PR],hr.set ho h1 h2 rfl rfl (o':=.box (Det.Cj off xs ps)) ⟨_,te,fz,rfl,hxs'.Cj off h4,h5,fun u hu=>(XJ hu).elim (fun hu=>V.Of (zr.1 hone u hu)) (hbok u)⟩,Le.refl,rfl,rfl,zn _,fun c _=>?_⟩
    ·unfold G2;simp only[hi,hb1,cond_true];rw[ML h2 hle h5 hone];rfl
    ·rw[H.A9];by_cases e:c=b
     ·exact .inr ⟨id,zg.2 rfl,n,e▸h1⟩
     ·rw[if_neg e];exact .inl rfl
  case h_2=>
   rename_i id sz j off;split at ht
   case h_2=>simp at ht
   rename_i e s l ho;cases hcc:(ze sz s.sz&&zB (zN off i.size) sz)with
   |false=>rw[hcc]at ht;simp at ht
   |true=>
    rw[hcc]at ht;simp only[zc]at hcc;have hsz:=zd hcc.1;have hoff:=zx hcc.2;subst hsz;simp only[cond_true]at ht;split at ht
    case h_2=>simp at ht
    rename_i y hy;simp only[By,decide_eq_true_eq]at ht;obtain⟨hj,rfl,rfl⟩:=ht;obtain⟨b,n,z,h1,h2,⟨cs,fz,rfl,h4,h5,h6⟩,hf,_⟩:=hr.at ho;simp only[PR]at ha;obtain rfl:=ha.2 b n h1;rw[show l.getD j s.GA=l[j]from by simp[hj]]at hy;have hfl:=CP (F:=F) (ρ:=ρ) (N:=st.nx) (h4.2 j hj);have hdc:=Ct (hxs'.Cj off hfl) hy;have hset:=DH.set h4 hj (by rw[hlen];exact hoff) hdc;have hle:j*s.sz+off+x.cells.length≤cs.length:=by
     have:j*s.sz+s.sz≤cs.length:=by rw[h4.1, ←zh];exact zf _ hj
     have:off+i.size≤s.sz:=hoff;omega
    refine⟨id,.inr ⟨_,_,_,rfl⟩,.tup [],_,F,ρ,.inr ⟨?_,rfl⟩,by simp[PR],hr.set ho h1 h2 rfl rfl (o':=.arr false e s (l.set j y)) ⟨_,fz,rfl,hset,h5,by simpa using h6⟩,Le.refl,rfl,rfl,zn _,fun c _=>?_⟩
    ·unfold G2;simp only[hi,hb1,cond_true];rw[ML h2 hle h5 hone];rfl
    ·rw[H.A9];by_cases e:c=b
     ·exact .inr ⟨id,zg.2 rfl,n,e▸h1⟩
     ·rw[if_neg e];exact .inl rfl
theorem Dt{k:IntKind}{n:Int}{v:V}(h:PR F ρ N (.dat (.int k) n) v):v=.int k n:=by simpa [PR,DC]using h
theorem Fu{s:List UInt8}{v:V}(h:PR F ρ N (.dat .str s) v):v=.str s:=by simpa [PR,DC]using h
theorem Gi{b:Bool}{v:V}(h:PR F ρ N (.dat .bool b) v):v=.bool b:=by simpa [PR,DC]using h
theorem MV{b:Bool}{v:V}(h:PR F ρ N (.bl b) v):v=.bool b:=by simpa [PR]using h
theorem CQ(k:IntKind)(n:Int):PR F ρ N (.dat (.int k) n) (.int k n):=by simp[PR,DC]
theorem SM(s:List UInt8):PR F ρ N (.dat .str s) (.str s):=by simp[PR,DC]
theorem Dh(b:Bool):PR F ρ N (.dat .bool b) (.bool b):=by simp[PR,DC]
theorem KN(b:Bool):PR F ρ N (.bl b) (.bool b):=by simp[PR]
theorem Gv{p:PV}{b:Bool}{v:V}(h:HK p=some b)(hp:PR F ρ N p v):v=.bool b:=by
 unfold HK at h;split at h
 ·cases h;exact MV hp
 ·cases h;exact Gi hp
 ·cases h
theorem mU(hr:SR B h0 F ρ st.nx st.ob h){op:BinOp}{k:IntKind}{a b:Int}{v:PV}(ht:(gQ op k a b st).To v st'):OK B h0 F ρ st h [] (Bj h (Md op k a b)) v st':=by
 unfold gQ at ht;split at ht<;>simp only[Kj,AM,By,decide_eq_true_eq,ne_eq]at ht
 all_goals first
  |(obtain⟨rfl,rfl⟩:=ht;exact OK.pure hr rfl (CQ _ _))
  |(obtain⟨rfl,rfl⟩:=ht;exact OK.pure hr rfl (Dh _))
  |(obtain⟨hb,rfl,rfl⟩:=ht;exact OK.pure hr (by simp only[Md,hb,if_false,Bj]) (CQ _ _))
theorem oH(hr:SR B h0 F ρ st.nx st.ob h){op:BinOp}{k:IntKind}{a b:Int}{v:PV}(ht:(nL op k a b st).To v st'):OK B h0 F ρ st h [] (Bj h (VZ op k a b)) v st':=by
 unfold nL at ht;split at ht<;>simp only[Kj,By,decide_eq_true_eq]at ht
 all_goals
  obtain⟨hb,rfl,rfl⟩:=ht;exact OK.pure hr (by simp only[VZ,Int.not_lt.2 hb,if_false,Bj]) (CQ _ _)
theorem kO(hr:SR B h0 F ρ st.nx st.ob h){op:BinOp}{x y:List UInt8}{v:PV}(ht:(iD op x y st).To v st'):OK B h0 F ρ st h [] (Bj h (Rl op x y)) v st':=by
 unfold iD at ht;split at ht<;>simp only[Kj,AM,By,decide_eq_true_eq]at ht
 all_goals first
  |(obtain⟨rfl,rfl⟩:=ht;exact OK.pure hr rfl (Dh _))
  |(obtain⟨hb,rfl,rfl⟩:=ht;exact OK.pure hr (by simp only[Rl,hb,if_true,Bj]) (SM _))
end
section
variable {B:Nat}{h0:H0}{F:Fz}{ρ:DF}{N:Nat}{C:Ctx}{st st':AF}{fr:Fr}{h:H}
theorem ON:∀ {ks:List FK} {ps qs:List PV} {xs ys:List V} {r:Bool},A8 F ρ N ps xs→A8 F ρ N qs ys→FI ks ps qs=some r→fit ks xs=true∧fit ks ys=true∧BD xs ys=some r
 |[],[],[],xs,ys,r,hx,hy,hd=>by
  simp at hx hy;subst hx hy;simp only[FI,zk]at hd;subst hd;exact⟨rfl,rfl,rfl⟩
 |[],_::_,_,xs,ys,r,hx,hy,hd=>by simp[FI]at hd
 |[],[],_::_,xs,ys,r,hx,hy,hd=>by simp[FI]at hd
 |k::ks,[],_,xs,ys,r,hx,hy,hd=>by cases k<;>simp[FI]at hd
 |k::ks,_::_,[],xs,ys,r,hx,hy,hd=>by cases k<;>simp[FI]at hd
 |k::ks,p::ps,q::qs,xs,ys,r,hx,hy,hd=>by
  simp only[A8]at hx hy;obtain⟨x,xs,rfl,hx1,hx2⟩:=hx;obtain⟨y,ys,rfl,hy1,hy2⟩:=hy;have key:∀ {c:Bool},k.ok x=true→k.ok y=true→C9 x y=some c→(FI ks ps qs).map (fun r=>c&&r)=some r→fit (k::ks) (x::xs)=true∧fit (k::ks) (y::ys)=true∧BD (x::xs) (y::ys)=some r:=by
   intro c h1 h2 h3 h4;rw[zi]at h4;obtain⟨r',h5,rfl⟩:=h4;obtain⟨g1,g2,g3⟩:=ON hx2 hy2 h5;refine⟨by simp[fit,h1,g1],by simp[fit,h2,g2],?_⟩;have hl:xs.length=ys.length:=by rw[←Pd g1, ←Pd g2]
   cases c with
   |true=>simp only[BD,h3,g3,Bool.true_and]
   |false=>simp only[BD,h3,Bool.false_and,hl,if_true]
  unfold FI at hd;split at hd
  case h_1=>rename_i e _ _;cases e
  case h_2=>
   rename_i k' ks' k1 a xs' k2 b ys' e1 e2 e3;cases e1;cases e2;cases e3;cases hk:(k'==k1&&k'==k2)with
   |false=>rw[hk]at hd;cases hd
   |true=>
    rw[hk]at hd;simp only[zc,beq_iff_eq]at hk;obtain⟨rfl,rfl⟩:=hk;obtain rfl:=Dt hx1;obtain rfl:=Dt hy1;exact key (by simp[FK.ok]) (by simp[FK.ok]) (by simp[C9]) hd
  case h_3=>
   rename_i e1 e2 e3;cases e1;cases e2;cases e3;obtain rfl:=Fu hx1;obtain rfl:=Fu hy1;exact key rfl rfl (by simp[C9]) hd
  case h_4=>
   rename_i e1 e2 e3;cases e1;cases e2;cases e3;split at hd
   case h_2=>cases hd
   rename_i a b ha hb;obtain rfl:=Gv ha hx1;obtain rfl:=Gv hb hy1;exact key rfl rfl rfl hd
  case h_5=>cases hd
theorem UH(hr:SR B h0 F ρ st.nx st.ob h){op:BinOp}{t e:TypeId}(hu:C.T.und t=some (.slice e)){p:PV}{x:V}(hx:PR F ρ st.nx p x){ng:Bool}{v:PV}(ht:(Qo st ng p).To v st'):
  (∀(_:x=.nili),False)∧∃b,BC C.T t x .nils=some b∧PR F ρ st.nx v (.bool (b !=ng))∧K4 C.T op t x .nils=(match op with| .eql=>(BC C.T t x .nils).map fun b=>.bool b| .neq=>(BC C.T t x .nils).map fun b=>.bool !b|_=>none)∧st'=st:=by
 have dq:∀ {x:V},x=.nils∨x=.esl∨x=.es0∨(∃b off len cap o,x=.sl b off len cap o)→K4 C.T op t x .nils=(match op with| .eql=>(BC C.T t x .nils).map fun b=>.bool b| .neq=>(BC C.T t x .nils).map fun b=>.bool !b|_=>none):=by
  rintro x (rfl|rfl|rfl|⟨b,off,len,cap,o,rfl⟩)<;>cases op<;>rfl
 have no:∀ {x:V},x=.esl∨x=.es0∨(∃b off len cap o,x=.sl b off len cap o)→BC C.T t x .nils=some false:=by
  rintro x (rfl|rfl|⟨b,off,len,cap,o,rfl⟩)<;>simp[BC,hu]
 have yes:BC C.T t .nils .nils=some true:=by simp[BC,hu]
 unfold Qo at ht;split at ht
 case h_1=>
  simp only[AM]at ht;obtain⟨rfl,rfl⟩:=ht;simp only[PR]at hx;subst hx;exact⟨fun e=>(by cases e),true,yes,by simp[PR],dq (.inl rfl),rfl⟩
 case h_2=>
  rename_i id sz off len cap;cases hl:Ln (st.obj id)with
  |false=>rw[hl]at ht;simp at ht
  |true=>
   rw[hl]at ht;simp only[cond_true,AM]at ht;obtain⟨rfl,rfl⟩:=ht;obtain⟨o,ho⟩:=GZ hl;obtain⟨b,n,_,h1,_⟩:=hr.at ho;simp only[PR]at hx;have:x=.esl∨x=.es0∨(∃b off len cap o,x=.sl b off len cap o):=by
    rcases hx.2 b n h1 with⟨_,_,o,_,rfl⟩|⟨rfl,_,_,rfl|⟨_,rfl,_⟩⟩
    ·exact .inr (.inr ⟨_,_,_,_,_,rfl⟩)
    ·exact .inl rfl
    ·exact .inr (.inr ⟨_,_,_,_,_,rfl⟩)
   exact⟨fun e=>(by subst e;rcases this with h|h|⟨_,_,_,_,_,h⟩<;>cases h),false,no this,by simp[PR],dq (.inr this),rfl⟩
 case h_3=>
  rename_i s l;simp only[PR,DC]at hx;obtain⟨u,hu1,hx⟩:=hx;obtain rfl:x=u:=by simpa using hu1
  have ht2:(decide (0<(l:List s.T).length)=true∧v=.bl ng∧st'=st)∨(v=.ub∧st'=st):=by
   generalize decide (0<(l:List s.T).length)=c at ht;cases ht with
   |tt ht=>simp only[AM]at ht;exact .inl ⟨rfl,ht.1.symm,ht.2.symm⟩
   |ff ht=>simp only[AM]at ht;exact .inr ⟨ht.1.symm,ht.2.symm⟩
  rcases ht2 with⟨hd,rfl,rfl⟩|⟨rfl,rfl⟩
  ·rcases hx with⟨rfl,_⟩|⟨b,off,cap,o,bs,rfl,_⟩
   ·simp at hd
   ·exact⟨fun e=>(by cases e),false,no (.inr (.inr ⟨_,_,_,_,_,rfl⟩)),by simp[PR],dq (.inr (.inr (.inr ⟨_,_,_,_,_,rfl⟩))),rfl⟩
  ·rcases hx with⟨rfl,rfl|rfl|rfl⟩|⟨b,off,cap,o,bs,rfl,_⟩
   ·exact⟨fun e=>(by cases e),true,yes,by simp[PR],dq (.inl rfl),rfl⟩
   ·exact⟨fun e=>(by cases e),false,no (.inl rfl),by simp[PR],dq (.inr (.inl rfl)),rfl⟩
   ·exact⟨fun e=>(by cases e),false,no (.inr (.inl rfl)),by simp[PR],dq (.inr (.inr (.inl rfl))),rfl⟩
   ·exact⟨fun e=>(by cases e),false,no (.inr (.inr ⟨_,_,_,_,_,rfl⟩)),by simp[PR],dq (.inr (.inr (.inr ⟨_,_,_,_,_,rfl⟩))),rfl⟩
 case h_4=>
  rename_i s l;simp only[AM]at ht;obtain⟨rfl,rfl⟩:=ht;simp only[PR,DC]at hx;obtain⟨u,hu1,hx⟩:=hx;obtain rfl:x=u:=by simpa using hu1
  rcases hx with⟨rfl,rfl⟩|⟨h0,b,off,cap,o,bs,rfl,_⟩
  ·exact⟨fun e=>(by cases e),true,yes,by cases ng<;>simp[PR,DC],dq (.inl rfl),rfl⟩
  ·have hpos:0<(l:List s.T).length:=List.length_pos_iff.2 h0;exact⟨fun e=>(by cases e),false,no (.inr (.inr ⟨_,_,_,_,_,rfl⟩)),by cases ng<;>simp[PR,DC,hpos],dq (.inr (.inr (.inr ⟨_,_,_,_,_,rfl⟩))),rfl⟩
 case h_5=>simp at ht
theorem mO(hr:SR B h0 F ρ st.nx st.ob h){op:BinOp}{t:TypeId}{ox oy:Operand}{p q:PV}{x y:V}(hx:PR F ρ st.nx p x)(hy:PR F ρ st.nx q y){v:PV}(ht:(gN C.T op t p q st).To v st'):
  OK B h0 F ρ st h [] (Bj h (Kw C.T op t ox oy x y)) v st':=by
 have nn:∀ {x y:V},(∀(e:x=.nili),False)→Kw C.T op t ox oy x y=K4 C.T op t x y:=by
  intro x y hn;unfold Kw Z8;split
  ·rename_i h;split at h
   ·exact(hn rfl).elim
   ·exact(hn rfl).elim
   ·cases h
  ·rfl
 unfold gN at ht;split at ht
 case h_1=>
  rename_i k a k' b;obtain rfl:=Dt hx;obtain rfl:=Dt hy;rw[nn (fun e=>by cases e)];cases hs:ZX op with
  |true=>
   rw[hs]at ht;simp only[cond_true]at ht;have:=oH hr ht;unfold K4;cases op<;>simp only[ZX]at hs<;>first|(cases hs;done)|exact this
  |false=>
   rw[hs]at ht;simp only[cond_false]at ht;cases hk:(k==k')with
   |false=>rw[hk]at ht;simp at ht
   |true=>
    rw[hk]at ht;simp only[cond_true]at ht;have:=mU hr ht;have hk:=beq_iff_eq.1 hk;subst hk;unfold K4;cases op<;>simp only[ZX]at hs<;>first|(cases hs;done)|(simp only[if_true];exact this)
 case h_2=>
  rename_i a b;obtain rfl:=Fu hx;obtain rfl:=Fu hy;rw[nn (fun e=>by cases e)];have:=kO hr ht;unfold K4;cases op<;>exact this
 case h_3=>
  rename_i ps qs;simp only[PR]at hx hy;obtain⟨xs,rfl,hx⟩:=hx;obtain⟨ys,rfl,hy⟩:=hy;rw[nn (fun e=>by cases e)];split at ht
  case h_2=>simp at ht
  rename_i ks hks;have eq:∀ {r:Bool},FI ks ps qs=some r→BC C.T t (.agg xs) (.agg ys)=some r:=by
   intro r hr';obtain⟨g1,g2,g3⟩:=ON hx hy hr';have:KQ (C.T.flat t) xs ys=some r:=by simp[KQ,hks,g1,g2,g3]
   unfold BC;split<;>first|exact this|(simp_all;done)
  split at ht
  case h_1=>
   rename_i r hr';simp only[AM]at ht;obtain⟨rfl,rfl⟩:=ht;exact OK.pure hr (by show Bj h ((BC C.T t (.agg xs) (.agg ys)).map _)=_;rw[eq hr'];rfl) (Dh _)
  case h_2=>
   rename_i r hr';simp only[AM]at ht;obtain⟨rfl,rfl⟩:=ht;exact OK.pure hr (by show Bj h ((BC C.T t (.agg xs) (.agg ys)).map _)=_;rw[eq hr'];rfl) (Dh _)
  case h_3=>simp at ht
 case h_4=>
  split at ht
  case h_3=>simp at ht
  case h_2=>
   rename_i e _ _ hu;unfold Yw at ht;split at ht
   case h_3=>simp at ht
   case h_1=>
    have hs:=UH (op:=.eql) hr hu hx ht;obtain⟨hn,b,h1,h2,h3,e⟩:=hs;subst e;simp only[PR]at hy;subst hy;rw[nn hn,h3];exact OK.pure hr (v':=.bool b) (by simp only[h1];rfl) (by simpa using h2)
   case h_2=>
    have hs:=UH (op:=.neq) hr hu hx ht;obtain⟨hn,b,h1,h2,h3,e⟩:=hs;subst e;simp only[PR]at hy;subst hy;rw[nn hn,h3];exact OK.pure hr (v':=.bool (!b)) (by simp only[h1];rfl) (by simpa using h2)
  rename_i a b ha hb hu;obtain rfl:=Gv ha hx;obtain rfl:=Gv hb hy;rw[nn (fun e=>by cases e)];have eq:BC C.T t (.bool a) (.bool b)=some (a==b):=by unfold BC;rw[hu]
  split at ht
  case h_1=>
   simp only[AM]at ht;obtain⟨rfl,rfl⟩:=ht;exact OK.pure hr (by show Bj h ((BC C.T t (.bool a) (.bool b)).map _)=_;rw[eq];rfl) (Dh _)
  case h_2=>
   simp only[AM]at ht;obtain⟨rfl,rfl⟩:=ht;exact OK.pure hr (by show Bj h ((BC C.T t (.bool a) (.bool b)).map _)=_;rw[eq];rfl) (Dh _)
  case h_3=>simp at ht
theorem nM(hr:SR B h0 F ρ st.nx st.ob h){op:UnOp}{p:PV}{x:V}(hx:PR F ρ st.nx p x){v:PV}(ht:(nW op p st).To v st'):OK B h0 F ρ st h [] (Bj h (lK op x)) v st':=by
 unfold nW at ht;split at ht<;>simp only[Kj,AM]at ht
 ·obtain⟨rfl,rfl⟩:=ht;obtain rfl:=Dt hx;exact OK.pure hr rfl (CQ _ _)
 ·obtain⟨rfl,rfl⟩:=ht;obtain rfl:=MV hx;exact OK.pure hr rfl (KN _)
 ·obtain⟨rfl,rfl⟩:=ht;simp only[PR]at hx;obtain⟨b,rfl⟩:=hx;exact OK.pure hr (v':=.bool (!b)) rfl (by simp[PR])
 ·obtain⟨rfl,rfl⟩:=ht;obtain rfl:=Gi hx;exact OK.pure hr rfl (Dh _)
theorem iL(hr:SR B h0 F ρ st.nx st.ob h){s d:TypeId}{p:PV}{x:V}(hx:PR F ρ st.nx p x){v:PV}(ht:(WG C.T s d p st).To v st'):OK B h0 F ρ st h [] (Bj h (FV C.T h s d x)) v st':=by
 unfold WG at ht;split at ht<;>simp only[Kj,AM]at ht
 ·rename_i h1 h2;obtain⟨rfl,rfl⟩:=ht;obtain rfl:=Dt hx;exact OK.pure hr (by simp[FV,h1,h2,Bj]) (CQ _ _)
 ·rename_i h1 h2;obtain⟨rfl,rfl⟩:=ht;obtain rfl:=Fu hx;exact OK.pure hr (by simp[FV,h1,h2,Bj]) (SM _)
theorem fX(hr:SR B h0 F ρ st.nx st.ob h){c a b:PV}{x y z:V}(hc:PR F ρ st.nx c x)(ha:PR F ρ st.nx a y)(hb:PR F ρ st.nx b z){v:PV}(ht:(XF c a b st).To v st'):
  ∃t,x=.bool t∧OK B h0 F ρ st h [] (Bj h (some (if t then y else z))) v st':=by
 unfold XF at ht;split at ht
 case h_3=>simp at ht
 case h_1=>
  rename_i t;simp only[AM]at ht;obtain⟨rfl,rfl⟩:=ht;refine⟨t,MV hc,OK.pure hr rfl ?_⟩;cases t<;>assumption
 case h_2=>
  rename_i t;refine⟨t,Gi hc,?_⟩;split at ht
  case h_1=>
   simp only[AM]at ht;obtain⟨rfl,rfl⟩:=ht;obtain rfl:=Gi ha;obtain rfl:=MV hb;refine OK.pure hr rfl ?_;cases t<;>exact Dh _
  case h_2=>
   simp only[AM]at ht;obtain⟨rfl,rfl⟩:=ht;obtain rfl:=MV ha;obtain rfl:=Gi hb;refine OK.pure hr rfl ?_;cases t<;>exact Dh _
  case h_3=>
   cases ht with
   |tt h=>simp only[AM]at h;obtain⟨rfl,rfl⟩:=h;exact OK.pure hr rfl ha
   |ff h=>simp only[AM]at h;obtain⟨rfl,rfl⟩:=h;exact OK.pure hr rfl hb
theorem bT(hr:SR B h0 F ρ st.nx st.ob h){t:TypeId}{p:PV}{x:V}(hx:PR F ρ st.nx p x){f:Nat}{v:PV}(ht:(Sn C.T t p f st).To v st'):OK B h0 F ρ st h [] (Bj h (ID C.T t x f)) v st':=by
 unfold Sn at ht;split at ht
 case h_2=>simp at ht
 rename_i fs ps hu;split at ht
 case h_2=>simp at ht
 rename_i fd hfd;split at ht
 case h_2=>simp at ht
 rename_i d i hd hi;simp only[LB]at ht;obtain⟨hpk,rfl⟩:=ht;simp only[PR]at hx;obtain⟨cs,rfl,hps⟩:=hx;rw[MA]at hpk;have hp:=hps.drop fd.offset;rcases IT hp hpk with⟨ha,_,hn,hv⟩|⟨ha,u,us,e,hv⟩
 ·exact OK.pure hr (by simp only[ID,hu,hfd,JF,hd,hi,ha,cond_true,Bj]) hv
 ·have:cs[fd.offset]?=some u:=by
   have:=congrArg (·[0]?) e;simpa using this
  exact OK.pure hr (by simp only[ID,hu,hfd,JF,hd,hi,ha,cond_false,this,Bj]) hv
theorem aL(hr:SR B h0 F ρ st.nx st.ob h){t:TypeId}{p:PV}{x:V}(hx:PR F ρ st.nx p x){f:Nat}{v:PV}(ht:(SY C.T t p f st).To v st'):
  OK B h0 F ρ st h [] (Bj h (Iw C.T t x f)) v st':=by
 have live:∀ {id},Ln (st.obj id)=true→∃b n,ρ id=some (b,n):=by
  intro id hi;obtain⟨o,ho⟩:=GZ hi;obtain⟨b,n,_,h1,_⟩:=hr.at ho;exact⟨b,n,h1⟩
 unfold SY at ht;split at ht
 case h_2=>simp at ht
 rename_i fs hu;split at ht
 case h_2=>simp at ht
 rename_i fd hfd;split at ht
 case h_2=>simp at ht
 rename_i i hi;cases hz:ze i.size 0 with
 |true=>rw[hz]at ht;simp at ht
 |false=>
  have hz':i.size≠0:=by intro e;rw[e]at hz;cases hz
  rw[hz]at ht;simp only[cond_false]at ht;have core:∀b off,Iw C.T t (.ptr b off) f=some (.ptr b (off+fd.offset)):=by
   intro b off;simp only[Iw,hu,hfd,hi,hz',if_false]
  split at ht
  ·rename_i id off;cases hl:Ln (st.obj id)with
   |false=>rw[hl]at ht;simp at ht
   |true=>
   rw[hl]at ht;simp only[cond_true,AM]at ht;obtain⟨rfl,rfl⟩:=ht;have hx':=hx;simp only[PR]at hx';obtain⟨b,n,h1⟩:=live hl;obtain rfl:=hx'.2 b n h1;refine OK.pure hr (by rw[core];rfl) ?_;simp only[PR];exact⟨hx'.1,fun b' n' hb=>by rw[h1]at hb;cases hb;rfl⟩
  ·rename_i id sz j off;cases hl:Ln (st.obj id)with
   |false=>rw[hl]at ht;simp at ht
   |true=>
   rw[hl]at ht;simp only[cond_true,AM]at ht;obtain⟨rfl,rfl⟩:=ht;have hx':=hx;simp only[PR]at hx';obtain⟨b,n,h1⟩:=live hl;obtain rfl:=hx'.2 b n h1;refine OK.pure hr (by rw[core];rfl) ?_;simp only[PR];exact⟨hx'.1,fun b' n' hb=>by rw[h1]at hb;cases hb;simp[zJ]⟩
  ·rename_i s y off;simp only[AM]at ht;obtain⟨rfl,rfl⟩:=ht;simp only[PR]at hx;obtain⟨b,o,cs,rfl,h1,h2⟩:=hx;refine OK.pure hr (by rw[core];rfl) ?_;simp only[PR];exact⟨b,o,cs,by simp[zJ],h1,h2⟩
  ·simp at ht
end
section
variable {B:Nat}{h0:H0}{F:Fz}{ρ:DF}{N:Nat}{C:Ctx}{st st':AF}{fr:Fr}{h:H}
theorem SR.live(hr:SR B h0 F ρ st.nx st.ob h){id:Nat}(hi:Ln (st.obj id)=true):∃b n,ρ id=some (b,n):=by
 obtain⟨o,ho⟩:=GZ hi;obtain⟨b,n,_,h1,_⟩:=hr.at ho;exact⟨b,n,h1⟩
theorem Dc{i:Int}(h:0≤i):∃n:Nat,i=zt n∧i.toNat=n:=⟨i.toNat,(Int.toNat_of_nonneg h).symm,rfl⟩
theorem Da{a b:Nat}(h:a<b):zQ a b=true:=zl h
theorem X1(hr:SR B h0 F ρ st.nx st.ob h){t:TypeId}{p q:PV}{x y:V}(hx:PR F ρ st.nx p x)(hy:PR F ρ st.nx q y){v:PV}(ht:(P6 C.T t p q st).To v st'):
  OK B h0 F ρ st h [] (Bj h (CE C.T t x y)) v st':=by
 unfold P6 at ht;split at ht
 case h_3=>simp at ht
 case h_2=>
  rename_i alen e k i hu;obtain rfl:=Dt hy;split at ht
  case h_2=>simp at ht
  rename_i ti hti;split at ht
  case h_4=>simp at ht
  case h_1=>
   rename_i id off;simp only[PR]at hx;split at ht
   case h_3=>exact absurd ht (by simp)
   case h_1=>
    rename_i fzb te s l ho;cases hcc:(ze off 0&&ze ti.size s.sz)with
    |false=>rw[hcc]at ht;simp at ht
    |true=>
     rw[hcc]at ht;rw[zc]at hcc;have hoff:=zd hcc.1;have hs1:=zd hcc.2;subst hoff;simp only[cond_true,By,zc,decide_eq_true_eq]at ht;obtain⟨⟨hi0,hi1⟩,rfl,rfl⟩:=ht;obtain⟨n,rfl,hn⟩:=Dc hi0;have hlt:n<alen:=by simp at hi1;exact hi1
     obtain⟨b,m,_,h1,_⟩:=hr.at ho;obtain rfl:=hx.2 b m h1;refine OK.pure hr (v':=.ptr b (0+n*ti.size)) ?_ ?_
     ·show Bj h (CE C.T t (.ptr b 0) (.int k (zt n)))=_;simp only[CE,hu,hti,Da hlt,cond_true,Bj]
     ·simp only[PR];refine⟨hx.1,fun b' n' hb=>?_⟩;rw[h1]at hb;cases hb;rw[hn,hs1,Nat.zero_add];rfl
   case h_2=>
    rename_i o _ ho;simp only[By,zc,decide_eq_true_eq]at ht;obtain⟨⟨hi0,hi1⟩,rfl,rfl⟩:=ht;obtain⟨n,rfl,hn⟩:=Dc hi0;have hlt:n<alen:=by simp at hi1;exact hi1
    obtain⟨b,m,_,h1,_⟩:=hr.at ho;obtain rfl:=hx.2 b m h1;refine OK.pure hr (v':=.ptr b (off+n*ti.size)) ?_ ?_
    ·show Bj h (CE C.T t (.ptr b off) (.int k (zt n)))=_;simp only[CE,hu,hti,Da hlt,cond_true,Bj]
    ·simp only[PR];refine⟨hx.1,fun b' n' hb=>?_⟩;rw[h1]at hb;cases hb;rw[hn];rfl
  case h_2=>
   rename_i id sz j off;cases hl:Ln (st.obj id)with
   |false=>rw[hl]at ht;simp at ht
   |true=>
    rw[hl]at ht;simp only[cond_true,By,zc,decide_eq_true_eq]at ht;obtain⟨⟨hi0,hi1⟩,rfl,rfl⟩:=ht;obtain⟨n,rfl,hn⟩:=Dc hi0;have hlt:n<alen:=by simp at hi1;exact hi1
    obtain⟨b,m,h1⟩:=hr.live hl;simp only[PR]at hx;obtain rfl:=hx.2 b m h1;refine OK.pure hr (v':=.ptr b (j*sz+off+n*ti.size)) ?_ ?_
    ·show Bj h (CE C.T t (.ptr b (j*sz+off)) (.int k (zt n)))=_;simp only[CE,hu,hti,Da hlt,cond_true,Bj]
    ·simp only[PR];refine⟨hx.1,fun b' n' hb=>?_⟩;rw[h1]at hb;cases hb;rw[hn,zJ];rfl
  case h_3=>
   rename_i s y off;simp only[By,zc,decide_eq_true_eq]at ht;obtain⟨⟨hi0,hi1⟩,rfl,rfl⟩:=ht;obtain⟨n,rfl,hn⟩:=Dc hi0;have hlt:n<alen:=by simp at hi1;exact hi1
   simp only[PR]at hx;obtain⟨b,o,cs,rfl,h1,h2,h3⟩:=hx;refine OK.pure hr (v':=.ptr b (o+off+n*ti.size)) ?_ ?_
   ·show Bj h (CE C.T t (.ptr b (o+off)) (.int k (zt n)))=_;simp only[CE,hu,hti,Da hlt,cond_true,Bj]
   ·simp only[PR];refine⟨b,o,cs,?_,h1,h2,h3⟩;rw[hn,zJ];rfl
 case h_1=>
 rename_i e k i hu;obtain rfl:=Dt hy;split at ht
 case h_2=>simp at ht
 rename_i ti hti;split at ht
 case h_3=>simp at ht
 case h_1=>
  rename_i s l;cases hz:ze ti.size s.sz with
  |false=>rw[hz]at ht;simp at ht
  |true=>
   rw[hz]at ht;have hz:=zd hz;simp only[cond_true,By,zc,decide_eq_true_eq]at ht;obtain⟨⟨hi0,hi1⟩,rfl,rfl⟩:=ht;obtain⟨n,rfl,hn⟩:=Dc hi0;have hlt:n<l.length:=by simp at hi1;exact hi1
   simp only[PR,DC]at hx;obtain⟨u,hu1,hx⟩:=hx;obtain rfl:x=u:=by simpa using hu1
   rcases hx with⟨rfl,_⟩|⟨b,off,cap,o,bs,rfl,h1,h2,h3,_,h4⟩
   ·simp at hlt
   ·refine OK.pure hr (v':=.ptr b (off+n*ti.size)) ?_ ?_
    ·show Bj h (CE C.T t (.sl b off l.length cap o) (.int k (zt n)))=_;simp only[CE,hu,hti,Da hlt,cond_true,Bj]
    ·simp only[PR];refine⟨b,off+n*s.sz,bs,by rw[hz];rfl,h2,?_,?_⟩
     ·have:(n+1)*s.sz≤l.length*s.sz:=zf _ hlt;rw[zh]at this;omega
     ·have:=h4 n hlt;rw[hn,show l.getD n s.GA=l[n]from by simp[hlt]];exact this
 case h_2=>
  rename_i id sz off len cap;cases hz:(ze ti.size sz&&Ln (st.obj id))with
  |false=>rw[hz]at ht;simp at ht
  |true=>
   rw[hz]at ht;simp only[zc]at hz;obtain⟨hz,hl⟩:=hz;have hz:=zd hz;simp only[cond_true,By,zc,decide_eq_true_eq]at ht;obtain⟨⟨hi0,hi1⟩,rfl,rfl⟩:=ht;obtain⟨n,rfl,hn⟩:=Dc hi0;have hlt:n<len:=by simp at hi1;exact hi1
   obtain⟨b,m,h1⟩:=hr.live hl;simp only[PR]at hx;rcases hx.2 b m h1 with⟨_,_,o,_,rfl⟩|⟨e0,_⟩
   ·refine OK.pure hr (v':=.ptr b (off*sz+n*ti.size)) ?_ ?_
    ·show Bj h (CE C.T t (.sl b (off*sz) len _ o) (.int k (zt n)))=_;simp only[CE,hu,hti,Da hlt,cond_true,Bj]
    ·simp only[PR];refine⟨hx.1,fun b' n' hb=>?_⟩;rw[h1]at hb;cases hb;rw[hz,hn];show V.ptr b (off*sz+n*sz)=.ptr b ((n+off)*sz+0);rw[zE,zW (n*sz)];rfl
   ·omega
theorem dE(hr:SR B h0 F ρ st.nx st.ob h){t:TypeId}{p q:PV}{x y:V}(hx:PR F ρ st.nx p x)(hy:PR F ρ st.nx q y){v:PV}(ht:(Tm C.T t p q st).To v st'):
  OK B h0 F ρ st h [] (Bj h (F9 C.T t x y)) v st':=by
 unfold Tm at ht;split at ht
 case h_3=>simp at ht
 case h_2=>
  rename_i alen e ps k i hu;obtain rfl:=Dt hy;split at ht
  case h_2=>simp at ht
  rename_i d ti hd hti;simp only[MU,zc,decide_eq_true_eq]at ht;obtain⟨⟨hi0,hi1⟩,hpk,rfl⟩:=ht;obtain⟨n,rfl,hn⟩:=Dc hi0;have hlt:n<alen:=by simp at hi1;exact hi1
  simp only[PR]at hx;obtain⟨cs,rfl,hps⟩:=hx;rw[MA,hn]at hpk;have hp:=hps.drop (n*ti.size);have hdx:F9 C.T t (.agg cs) (.int k (zt n))=JF C.T e cs (n*ti.size):=by simp only[F9,hu,hti,Da hlt,cond_true]
  rcases IT hp hpk with⟨ha,_,_,hv⟩|⟨ha,u,us,e',hv⟩
  ·exact OK.pure hr (by rw[hdx];simp only[JF,hd,hti,ha,cond_true,Bj]) hv
  ·have:cs[n*ti.size]?=some u:=by
    have:=congrArg (·[0]?) e';simpa using this
   exact OK.pure hr (by rw[hdx];simp only[JF,hd,hti,ha,cond_false,this,Bj]) hv
 case h_1=>
 rename_i s k i hu;obtain rfl:=Fu hx;obtain rfl:=Dt hy;simp only[By,zc,decide_eq_true_eq]at ht;obtain⟨⟨hi0,hi1⟩,rfl,rfl⟩:=ht;obtain⟨n,rfl,hn⟩:=Dc hi0;have hlt:n<zP s:=by simp at hi1;exact hi1
 have hg:(s:List UInt8)[n]?=some (s:List UInt8)[n]:=List.getElem?_eq_getElem hlt;refine OK.pure hr (v':=.int .u8 ((s:List UInt8)[n].toNat:Int)) ?_ ?_
 ·show Bj h (F9 C.T t (.str s) (.int k (zt n)))=_;simp only[F9,hu,hg,Bj]
 ·rw[hn,show List.getD (s:List UInt8) n 0=(s:List UInt8)[n]from by simp[hlt]];exact CQ _ _
theorem U6(hr:SR B h0 F ρ st.nx st.ob h){p:PV}{x:V}(hx:PR F ρ st.nx p x){i:Nat}{v:PV}(ht:(Mm p i st).To v st'):OK B h0 F ρ st h [] (Bj h (FM x i)) v st':=by
 unfold Mm at ht;split at ht
 case h_2=>simp at ht
 rename_i ps;split at ht
 case h_2=>simp at ht
 rename_i q hq;simp only[AM]at ht;obtain⟨rfl,rfl⟩:=ht;simp only[PR]at hx;obtain⟨cs,rfl,hps⟩:=hx;obtain⟨u,h1,h2⟩:=hps.get hq;exact OK.pure hr (by simp only[FM,h1,Bj]) h2
def QF(F:Fz)(ρ:DF)(N:Nat):Option PV→Option V→Prop
 |none,x=>x=none
 |some p,x=>∃v,x=some v∧PR F ρ N p v
theorem Du{o:Option PV}{x:Option V}{d:Nat}{c:Bool}{n:Nat}(hx:QF F ρ N o x)(hp:pb o d=some (c,n))(hc:c=true){y:Nat}(hy:n≤y):F6 x y d=some n:=by
 unfold pb at hp;split at hp
 ·cases hp;simp only[QF]at hx;subst hx;rfl
 ·cases hp;simp only[QF]at hx;obtain⟨v,rfl,hv⟩:=hx;obtain rfl:=Dt hv;simp only[decide_eq_true_eq]at hc;obtain⟨m,rfl,hm⟩:=Dc hc;rw[hm]at hy;show(bif zB m y then some m else none)=_;rw[zl hy,hm];rfl
 ·cases hp
theorem QF.isNone{o:Option PV}{x:Option V}(hx:QF F ρ N o x):(o=none↔x=none):=by
 cases o with
 |none=>simp only[QF]at hx;simp[hx]
 |some p=>simp only[QF]at hx;obtain⟨v,rfl,_⟩:=hx;simp
theorem JS{T:BZ}{t e:TypeId}{ti:TI}{b off len cap o m hh l:Nat}{lo hi mx:Option V}(hu:T.und t=some (.slice e))(hti:T.inf e=some ti)(hm:F6 mx cap cap=some m)(hb:F6 hi m len=some hh)
  (hl:F6 lo hh 0=some l) (hno:hi=none→mx=none):
  C5 T t (.sl b off len cap o) lo hi mx=bif ze m l then(bif ze (Ik mx o) 0 then some (.sl b off (hh-l) (m-l) 0)else some .esl)
   else bif ze (Ik mx o) 0||ze (Ik mx o) ti.size then some (.sl b (off+l*ti.size) (hh-l) (m-l) (Ik mx o))else none:=by
 cases hi with
 |some x=>cases mx<;>simp only[C5,hu,hti,hm,hb,hl]
 |none=>
  cases hno rfl;simp only[C5,hu,hti,hm,hb,hl]
theorem WS(hr:SR B h0 F ρ st.nx st.ob h){t:TypeId}{p:PV}{x:V}{lo hi mx:Option PV}{a b c:Option V}(hx:PR F ρ st.nx p x)(hlo:QF F ρ st.nx lo a)(hhi:QF F ρ st.nx hi b)(hmx:QF F ρ st.nx mx c)
  {v:PV} (ht:(P3 C.T t p lo hi mx st).To v st'):OK B h0 F ρ st h [] (Bj h (C5 C.T t x a b c)) v st':=by
 unfold P3 at ht;split at ht
 case h_3=>simp at ht
 case h_1=>
  rename_i hu;split at ht
  case h_2=>simp at ht
  rename_i s;obtain rfl:=Fu hx;split at ht
  case h_2=>simp at ht
  rename_i c1 l c2 hh hb1 hb2;simp only[By,zc,decide_eq_true_eq]at ht;obtain⟨⟨⟨⟨k1,k2⟩,k3⟩,k4⟩,rfl,rfl⟩:=ht;simp only[QF]at hmx;subst hmx;have e1:=Du hlo hb1 k1 k3;have e2:=Du hhi hb2 k2 k4;exact OK.pure hr (by simp only[C5,hu,e1,e2,Bj];rfl) (SM _)
 case h_2=>
  rename_i e hu;split at ht
  case h_2=>simp at ht
  rename_i ti hti;split at ht
  case h_4=>simp at ht
  case h_1=>
   rename_i s xs;cases hz:ze ti.size s.sz with
   |false=>rw[hz]at ht;simp at ht
   |true=>
    rw[hz]at ht;have hz:=zd hz;simp only[cond_true]at ht;split at ht
    case h_2=>simp at ht
    rename_i c1 l c2 hh hb1 hb2;simp only[By,zc,decide_eq_true_eq]at ht;obtain⟨⟨⟨⟨k1,k2⟩,k3⟩,k4⟩,rfl,rfl⟩:=ht;simp only[QF]at hmx;subst hmx;have e1:=Du hlo hb1 k1 k3;simp only[PR,DC]at hx;obtain⟨u,hu1,hx⟩:=hx;obtain rfl:x=u:=by simpa using hu1
    rcases hx with⟨rfl,rfl|rfl|rfl⟩|⟨bb,off,cap,o,bs,rfl,h1,h2,h3,h5,h4⟩
    ·have e2:=Du hhi hb2 k2 k4;simp only[zX]at e2 k4;refine OK.pure hr (v':=.nils) (by simp only[C5,hu,show F6 none 0 0=some 0 from rfl,show Xz b none=F6 b 0 0 from by cases b<;>rfl,e1,e2,hti,Bj]) ?_;simp[PR,DC]
    ·have e2:=Du hhi hb2 k2 k4;simp only[zX]at e2 k4;refine OK.pure hr (v':=.esl) (by simp only[C5,hu,show F6 none 0 0=some 0 from rfl,show Xz b none=F6 b 0 0 from by cases b<;>rfl,e1,e2,hti,Bj,NO,cond_false]) ?_;simp[PR,DC]
    ·have e2:=Du hhi hb2 k2 k4;simp only[zX]at e2 k4;refine OK.pure hr (v':=.es0) (by simp only[C5,hu,show F6 none 0 0=some 0 from rfl,show Xz b none=F6 b 0 0 from by cases b<;>rfl,e1,e2,hti,Bj]) ?_;simp[PR,DC]
    ·have e2:F6 b cap xs.length=some hh:=Du hhi hb2 k2 (Nat.le_trans k4 h1);have hds:=JS (b:=bb) (off:=off) (len:=xs.length) (cap:=cap) (o:=o) (mx:=none) hu hti rfl e2 e1 (fun _=>rfl);have hlen:((xs.drop l).take (Nat.sub hh l)).length=hh-l:=by
      have:Nat.sub hh l=hh-l:=rfl;rw[this];simp;omega
     by_cases hcl:cap=l
     ·have hhl:hh=l:=by omega
      have hemp:(xs.drop l).take (Nat.sub hh l)=[]:=by
       apply List.eq_nil_of_length_eq_zero;rw[hlen];omega
      rw[hemp];by_cases ho:o=0
      ·refine OK.pure hr (v':=.sl bb off (hh-l) (cap-l) 0) ?_ ?_
       ·have:Ik none o=0:=ho;rw[hds,this,hcl,zA];rfl
       ·simp only[PR,DC];exact⟨_,rfl,.inr ⟨bb,off,cap-l,0,bs,by simp[hhl],by simp,h2,by simp;omega,.inl rfl,fun i hi=>by simp at hi⟩⟩
      ·refine OK.pure hr (v':=.esl) ?_ ?_
       ·have h1:ze (Ik none o) 0=false:=by rw[Be];simp[Ik,ho]
        rw[hds,h1,hcl,zA];rfl
       ·simp[PR,DC]
     ·refine OK.pure hr (v':=.sl bb (off+l*ti.size) (hh-l) (cap-l) o) ?_ ?_
      ·have hb1:ze cap l=false:=by rw[Be];simp[hcl]
       have ho:(ze (Ik none o) 0||ze (Ik none o) ti.size)=true:=by
        rcases h5 with rfl|rfl
        ·rfl
        ·rw[hz];show(ze s.sz 0||ze s.sz s.sz)=true;rw[zA,z6]
       rw[hds,hb1,ho];rfl
      ·simp only[PR,DC];refine⟨_,rfl,.inr ⟨bb,off+l*ti.size,cap-l,o,bs,by rw[hlen],by rw[hlen];omega,h2,?_,h5,fun i hi=>?_⟩⟩
       ·rw[hlen,hz];have:(l+(hh-l))*s.sz≤xs.length*s.sz:=zf _ (by omega);rw[zE]at this;omega
       ·rw[hlen]at hi;have hi2:l+i<xs.length:=by omega
        have:=h4 (l+i) hi2;rw[List.getElem_take,List.getElem_drop,hz];rw[zE, ←zJ]at this;exact this
  case h_2=>
   rename_i id sz off len cap;cases hz:(ze ti.size sz&&Ln (st.obj id))with
   |false=>rw[hz]at ht;simp at ht
   |true=>
    rw[hz]at ht;simp only[zc]at hz;obtain⟨hz,hl⟩:=hz;have hz:=zd hz;simp only[cond_true]at ht;have hno:¬(hi=none∧mx≠none):=by
     rintro⟨rfl,hm⟩;cases mx with
     |none=>exact hm rfl
     |some _=>simp at ht
    split at ht
    case h_1=>simp at ht
    split at ht
    case h_2=>simp at ht
    rename_i c1 l c2 hh c3 m hb1 hb2 hb3;simp only[By,zc,decide_eq_true_eq]at ht;obtain⟨⟨⟨⟨⟨⟨⟨k1,k2⟩,k3⟩,k4⟩,k5⟩,k6⟩,k7⟩,rfl,rfl⟩:=ht;have e1:=Du hlo hb1 k1 k4;have e3:=Du hmx hb3 k3 k6;have e2:=Du hhi hb2 k2 k5;have hno':b=none→c=none:=by
     intro hbn;cases hcc:c with
     |none=>rfl
     |some z=>
      exfalso;apply hno;exact⟨hhi.isNone.2 hbn,fun e=>by have:=hmx.isNone.1 e;rw[this]at hcc;cases hcc⟩
    obtain⟨b0,n0,h1⟩:=hr.live hl;simp only[PR]at hx;rcases hx.2 b0 n0 h1 with⟨g1,g2,o,g3,rfl⟩|⟨rfl,rfl,g2,g3⟩
    ·have hds:=JS (b:=b0) (off:=off*sz) (len:=len) (cap:=cap.getD len) (o:=o) hu hti e3 e2 e1 hno';have hoz:Ik c o=0∨Ik c o=sz:=by
      unfold Ik;cases c with
      |none=>exact g3
      |some _=>exact .inl rfl
     by_cases hml:m=l
     ·have hhl:hh-l=0:=by omega
      by_cases ho:Ik c o=0
      ·refine OK.pure hr (v':=.sl b0 (off*sz) (hh-l) (m-l) 0) ?_ ?_
       ·rw[hds,ho,hml,zA];rfl
       ·unfold PR;refine⟨hx.1,fun b' n' hb=>.inr ?_⟩;rw[h1]at hb;cases hb;refine⟨hhl,?_,?_,.inr ⟨off*sz,by rw[hhl,hml,z7],zf _ (Nat.le_add_right _ _)⟩⟩
        ·show some (m-l)=some 0;rw[hml,z7]
        ·show off+l≤n0;omega
      ·refine OK.pure hr (v':=.esl) ?_ ?_
       ·have hb0:ze (Ik c o) 0=false:=by rw[Be];simp[ho]
        rw[hds,hb0,hml,zA];rfl
       ·unfold PR;refine⟨hx.1,fun b' n' hb=>.inr ?_⟩;rw[h1]at hb;cases hb;refine⟨hhl,?_,?_,.inl rfl⟩
        ·show some (m-l)=some 0;rw[hml,z7]
        ·show off+l≤n0;omega
     ·refine OK.pure hr (v':=.sl b0 (off*sz+l*ti.size) (hh-l) (m-l) (Ik c o)) ?_ ?_
      ·have hb1:ze m l=false:=by rw[Be];simp[hml]
       have ho:(ze (Ik c o) 0||ze (Ik c o) ti.size)=true:=by
        rcases hoz with e|e
        ·rw[e];rfl
        ·rw[e,hz,zA,z6]
       rw[hds,hb1,ho];rfl
      ·unfold PR;refine⟨hx.1,fun b' n' hb=>.inl ?_⟩;rw[h1]at hb;cases hb;refine⟨?_,?_,Ik c o,hoz,?_⟩
       ·show hh-l≤m-l;omega
       ·show off+l+(m-l)≤n0;omega
       ·show V.sl b0 (off*sz+l*ti.size) (hh-l) (m-l) (Ik c o)=.sl b0 ((off+l)*sz) (hh-l) (m-l) (Ik c o);rw[hz,zE]
    ·simp only[Option.getD_some]at k6 k7 e3;obtain rfl:m=0:=by omega
     obtain rfl:hh=0:=by omega
     obtain rfl:l=0:=by omega
     have hc:c=none:=by
      cases mx with
      |none=>exact hmx
      |some _=>simp[has]at k7
     subst hc;rcases g3 with rfl|⟨off',rfl,g4⟩
     ·refine OK.pure hr (v':=.esl) (by simp only[C5,hu,hti,show F6 none 0 0=some 0 from rfl,show Xz b none=F6 b 0 0 from by cases b<;>rfl,e2,e1,Bj,NO,cond_false]) ?_;unfold PR;exact⟨hx.1,fun b' n' hb=>.inr ⟨by rfl,by rfl,by rw[h1]at hb;cases hb;exact g2,.inl rfl⟩⟩
     ·refine OK.pure hr (v':=.sl b0 off' 0 0 0) ?_ ?_
      ·rw[JS (mx:=none) hu hti rfl e2 e1 (fun _=>rfl)];rfl
      ·unfold PR;refine⟨hx.1,fun b' n' hb=>.inr ⟨rfl,rfl,?_,.inr ⟨off',?_,?_⟩⟩⟩
       ·rw[h1]at hb;cases hb;exact g2
       ·rw[h1]at hb;cases hb;rfl
       ·show off'≤(off+0)*sz;exact g4
  case h_3=>
   split at ht
   case h_3=>simp at ht
   case h_2=>
    rename_i c1 l c2 hh q hb1 hb2;split at ht
    case h_2=>simp at ht
    rename_i p' c3 m hb3;simp only[By,zc,decide_eq_true_eq]at ht;obtain⟨⟨⟨⟨⟨⟨k1,k2⟩,k5⟩,k3⟩,k4⟩,k6⟩,rfl,rfl⟩:=ht;have e1:=Du hlo hb1 k1 k3;have e2:=Du hhi hb2 k2 (show hh≤0 by omega);have e3:=Du hmx hb3 k5 k6;simp only[PR]at hx;subst hx;cases b with
    |none=>simp[QF]at hhi
    |some b=>exact OK.pure hr (v':=.nils) (by simp only[C5,hu,e3,show Xz (some b) c=F6 (some b) 0 0 from by cases c<;>rfl,e2,e1,hti,Bj]) (by simp[PR])
   rename_i c1 l c2 hh hb1 hb2;simp only[By,zc,decide_eq_true_eq]at ht;obtain⟨⟨⟨⟨k1,k2⟩,k3⟩,k4⟩,rfl,rfl⟩:=ht;simp only[QF]at hmx;subst hmx;have e1:=Du hlo hb1 k1 k3;have e2:=Du hhi hb2 k2 k4;simp only[PR]at hx;subst hx;exact OK.pure hr (v':=.nils) (by simp only[C5,hu,show F6 none 0 0=some 0 from rfl,show Xz b none=F6 b 0 0 from by cases b<;>rfl,e1,e2,hti,Bj]) (by simp[PR])
theorem bU(hr:SR B h0 F ρ st.nx st.ob h){t:TypeId}{p q:PV}{x y:V}(hx:PR F ρ st.nx p x)(hy:PR F ρ st.nx q y){v:PV}(ht:(Xf C.T t p q st).To v st'):
  OK B h0 F ρ st h [] (Bj h (CE C.T t x y)) v st':=X1 hr hx.lz hy ht
theorem bW(hr:SR B h0 F ρ st.nx st.ob h){t:TypeId}{p:PV}{x:V}{lo hi mx:Option PV}{a b c:Option V}(hx:PR F ρ st.nx p x)(hlo:QF F ρ st.nx lo a)(hhi:QF F ρ st.nx hi b)(hmx:QF F ρ st.nx mx c)
  {v:PV} (ht:(XH C.T t p lo hi mx st).To v st'):OK B h0 F ρ st h [] (Bj h (C5 C.T t x a b c)) v st':=WS hr hx.lz hlo hhi hmx ht
end
section
variable {B:Nat}{h0:H0}{F:Fz}{ρ:DF}{N:Nat}{C:Ctx}{st st':AF}{fr:Fr}{h:H}
theorem MR.len{ks vs:Sh}{l:List (ks.T×vs.T)}{es:List (V×V×Nat)}(h:MR F ks vs l es):l.length=es.length:=by
 induction h with
 |nil=>rfl
 |cons _ _ _ ih=>simp[ih]
theorem fB(hr:SR B h0 F ρ st.nx st.ob h){ts:Array TypeId}{ps:List PV}{xs:List V}(hx:A8 F ρ st.nx ps xs){v:PV}(ht:(RA C.T ts ps st).To v st'):OK B h0 F ρ st h [] (Bj h (EW C.T h ts xs)) v st':=by
 unfold RA at ht;split at ht
 case h_2=>simp at ht
 rename_i t p hts;simp only[A8]at hx;obtain⟨x,xs',rfl,hx,rfl⟩:=hx;split at ht
 case h_6=>simp at ht
 case h_1=>
  rename_i s hu;simp only[AM]at ht;obtain⟨rfl,rfl⟩:=ht;obtain rfl:=Fu hx;exact OK.pure hr (by simp only[EW,hts,hu,Bj];rfl) (CQ _ _)
 case h_2=>
  rename_i s l hu;simp only[AM]at ht;obtain⟨rfl,rfl⟩:=ht;simp only[PR,DC]at hx;obtain⟨u,hu1,hx⟩:=hx;obtain rfl:x=u:=by simpa using hu1
  rcases hx with⟨rfl,rfl|rfl|rfl⟩|⟨b,off,cap,o,bs,rfl,_⟩
  ·exact OK.pure hr (by simp only[EW,hts,hu,Bj];rfl) (CQ _ _)
  ·exact OK.pure hr (by simp only[EW,hts,hu,Bj];rfl) (CQ _ _)
  ·exact OK.pure hr (by simp only[EW,hts,hu,Bj];rfl) (CQ _ _)
  ·exact OK.pure hr (by simp only[EW,hts,hu,Bj];rfl) (CQ _ _)
 case h_3=>
  rename_i id sz off len cap hu;cases hl:Ln (st.obj id)with
  |false=>rw[hl]at ht;simp at ht
  |true=>
   rw[hl]at ht;simp only[cond_true,AM]at ht;obtain⟨rfl,rfl⟩:=ht;obtain⟨b,n,h1⟩:=hr.live hl;simp only[PR]at hx;rcases hx.2 b n h1 with⟨_,_,o,_,rfl⟩|⟨rfl,_,_,rfl|⟨_,rfl,_⟩⟩
   ·exact OK.pure hr (by simp only[EW,hts,hu,Bj];rfl) (CQ _ _)
   ·exact OK.pure hr (by simp only[EW,hts,hu,Bj];rfl) (CQ _ _)
   ·exact OK.pure hr (by simp only[EW,hts,hu,Bj];rfl) (CQ _ _)
 case h_4=>
  rename_i hu;simp only[AM]at ht;obtain⟨rfl,rfl⟩:=ht;simp only[PR]at hx;subst hx;exact OK.pure hr (by simp only[EW,hts,hu,Bj];rfl) (CQ _ _)
 case h_5=>
  rename_i id hu;split at ht
  case h_2=>simp at ht
  rename_i ks vs l ho;simp only[AM]at ht;obtain⟨rfl,rfl⟩:=ht;obtain⟨b,n,y,h1,h2,⟨es,clk,rfl,h3⟩,_⟩:=hr.at ho;simp only[PR]at hx;obtain rfl:=hx.2 b n h1;have hl:l.length=es.length:=h3.len;refine OK.pure hr (v':=i64 es.length) (by simp only[EW,hts,hu,h2,Bj]) ?_;rw[←hl];exact CQ _ _
theorem mQ(hr:SR B h0 F ρ st.nx st.ob h){ts:Array TypeId}{ps:List PV}{xs:List V}(hx:A8 F ρ st.nx ps xs){v:PV}(ht:(aN C.T ts ps st).To v st'):OK B h0 F ρ st h [] (Bj h (EW C.T h ts xs)) v st':=fB hr hx.lz ht
theorem lH(hr:SR B h0 F ρ st.nx st.ob h){f:Int→Int→Int}{g:V→V→Option V}(hg:∀k x y,g (.int k x) (.int k y)=some (.int k (f x y))){ps:List PV}{xs:List V}(hx:A8 F ρ st.nx ps xs){v:PV}
  (ht:(Lf f ps st).To v st'):OK B h0 F ρ st h [] (Bj h (Fo g xs)) v st':=by
 have key:∀(ps:List PV) (xs:List V) (k:IntKind) (x z:Int),A8 F ρ st.nx ps xs→lP f k x ps=some z→dfold g (.int k x) xs=some (.int k z):=by
  intro ps;induction ps with
  |nil=>intro xs k x z hx hz;simp at hx;subst hx;simp only[lP,zk]at hz;subst hz;rfl
  |cons p ps ih=>
   intro xs k x z hx hz;simp only[A8]at hx;obtain⟨u,us,rfl,h1,h2⟩:=hx;unfold lP at hz;split at hz
   case h_1=>rename_i e;cases e
   case h_2=>
    rename_i e;cases e;rename_i k' y;cases hk:(k==k')with
    |false=>rw[hk]at hz;cases hz
    |true=>
     rw[hk]at hz;have hk:=beq_iff_eq.1 hk;subst hk;obtain rfl:=Dt h1;simp only[dfold,hg];exact ih us k _ z h2 hz
   case h_3=>cases hz
 unfold Lf at ht;split at ht
 case h_2=>simp at ht
 rename_i k x ys;split at ht
 case h_2=>simp at ht
 rename_i z hz;simp only[AM]at ht;obtain⟨rfl,rfl⟩:=ht;simp only[A8]at hx;obtain⟨u,us,rfl,h1,h2⟩:=hx;obtain rfl:=Dt h1;exact OK.pure hr (v':=.int k z) (by simp only[Fo,key ys us k x z h2 hz,Bj]) (CQ _ _)
theorem OK.new(hr:SR B h0 F ρ st.nx st.ob h){o:Obj}{x:O}{n:Nat}(hf:o.frozen=false)(hx:Ur F (Bx ρ st.nx (some (h.nx,n))) (st.nx+1) n o x){v:PV}{v':V}
  (hv:PR F (Bx ρ st.nx (some (h.nx,n))) (st.nx+1) v v'):OK B h0 F ρ st h [] (EA (some (v',h.push x))) v (st.push o):=by
 refine⟨v',h.push x,F,_,.inl rfl,hv,hr.push hf hx,Le.new _,rfl,rfl,Nat.le_succ _,fun b hb=>.inl ?_⟩;rw[H.BS,if_neg (by omega)]
theorem Li{n:Nat}:PR F (Bx ρ N (some (h.nx,n))) (N+1) (.ptr N 0) (.ptr h.nx 0):=by
 unfold PR;exact⟨zI _,fun b m hb=>by simp[Bx]at hb;rw[hb.1]⟩
theorem iM{F:Fz}:∀ {s:Sh} {v:V},kN s v=true→DC F s s.GA [v]
 | .bool,.bool b,h=>by
  have:b=false:=by simpa [kN]using h
  subst this;simp[DC,Sh.GA]
 | .int k,.int k' n,h=>by
  unfold kN at h;rw[zc,decide_eq_true_eq,decide_eq_true_eq]at h;obtain⟨rfl,rfl⟩:=h;simp[DC,Sh.GA]
theorem Zw{T:BZ}{t:TypeId}{s:Sh}{n:Nat}(h:fH T t=some (s,n)):∃i,T.inf t=some i∧n=i.zero.length∧(∀v∈i.zero,kN s v=true)∧s.sz=1:=by
 unfold fH at h;split at h
 case h_2=>cases h
 rename_i i hu hi;split at h
 case h_2=>cases h
 rename_i s' hs;cases hc:(zB 32 (Det.GQ i.zero)&&Det.Jz (kN s') i.zero)with
 |false=>rw[hc]at h;cases h
 |true=>
  rw[hc]at h;cases h;rw[zc,Et]at hc;refine⟨i,hi,D3 ..,zr.1 hc.2,?_⟩;unfold pC at hs;split at hs<;>first|(cases hs;rfl)|cases hs
theorem ZK(hr:SR B h0 F ρ st.nx st.ob h){t:TypeId}{v:PV}(ht:(Pp t C.T st).To v st'):OK B h0 F ρ st h [] (EA (Fy C.T h t)) v st':=by
 unfold Pp Xw at ht;split at ht
 case h_1=>
  rename_i s n hz;simp only[AM]at ht;obtain⟨rfl,rfl⟩:=ht;obtain⟨i,hi,rfl,hall,hs⟩:=Zw hz;have:Fy C.T h t=some (.ptr h.nx 0,h.push (.cells i.zero t (0,0))):=by simp[Fy,hi,GX]
  rw[this];refine OK.new hr (o:=.arr false t s (zp i.zero.length s.GA)) (n:=i.zero.length) rfl ⟨_,_,rfl,⟨by rw[List.length_replicate,hs,zD],fun j hj=>?_⟩,zn _,List.length_replicate ..⟩ Li;have hj':j<i.zero.length:=by simpa using hj
  have:=hall i.zero[j] (List.getElem_mem hj');rw[List.getElem_replicate,hs,zD,List.drop_eq_getElem_cons hj'];exact iM this
 split at ht
 case h_2=>exact absurd ht (by simp)
 rename_i cs hcs;rw[Option.bind_eq_some_iff]at hcs;obtain⟨i,hi,hcs⟩:=hcs;cases hok:Jz V.ok i.zero with
 |false=>rw[hok]at hcs;cases hcs
 |true=>
 rw[hok]at hcs;cases hcs;rw[Et]at hok;simp only[AM]at ht;obtain⟨rfl,rfl⟩:=ht;have:Fy C.T h t=some (.ptr h.nx 0,h.push (.cells i.zero t (0,0))):=by simp[Fy,hi,GX]
 rw[this];exact OK.new hr (o:=.box (i.zero.map Uz)) (n:=0) rfl ⟨_,_,_,rfl,Eh _,zn _,fun u hu=>zr.1 hok u hu⟩ Li
theorem lX(hr:SR B h0 F ρ st.nx st.ob h){t:TypeId}{p:PV}{x:V}(hx:PR F ρ st.nx p x){cs:List PV}(hcs:kI st p=some cs)(hs:cs.all (Is st)=true):OK B h0 F ρ st h [] (EA (some (Vw h t x))) (.ptr st.nx 0) (st.push (.box cs)):=
 OK.new hr (o:=.box cs) (n:=0) rfl ⟨_,_,_,rfl,(Ld hr hx hcs).mono (Le.new _),zn _,fun u hu=>V.Of (zr.1 (Iy hr hs (Ld hr hx hcs)) u hu)⟩ Li
theorem HF(hr:SR B h0 F ρ st.nx st.ob h){place:Nat→Option (Nat×Nat)}:∀ {l:List (Nat×PV)} {l':List (Nat×V)},gA F ρ st.nx l l'→∀ {cs:List PV} {xs:List V},A8 F ρ st.nx cs xs→∀ {out:List PV},Ot st place cs l=some out→
  ∃ys,HB place xs l'=some ys∧A8 F ρ st.nx out ys:=by
 intro l l' hl;induction hl with
 |nil=>intro cs xs hx out ho;cases ho;exact⟨xs,rfl,hx⟩
 |@cons i p v l l' hp _ ih=>
  intro cs xs hx out ho;unfold Ot at ho;unfold HB;split at ho
  case h_1=>cases ho
  rename_i off size hpl;split at ho
  case h_2=>cases ho
  rename_i vs hvs;cases hc:(ze (Det.GQ vs) size&&zB (zN off size) (Det.GQ cs))with
  |false=>rw[hc]at ho;cases ho
  |true=>
   rw[hc]at ho;have hv:=Ld hr hp hvs;rw[D3,D3,hv.len,hx.len]at hc;have hc':(ze v.cells.length size&&zB (off+size) xs.length)=true:=hc;rw[hpl];simp only[hc',cond_true];have:=hv.Cj off hx;rw[HN v.cells]at this;exact ih this ho
theorem bD(hr:SR B h0 F ρ st.nx st.ob h){t:TypeId}{l:List (Nat×PV)}{l':List (Nat×V)}(hl:gA F ρ st.nx l l'){v:PV}(ht:(ov st (Sq C.T st t l)).To v st'):OK B h0 F ρ st h [] (Bj h (Iv C.T t l')) v st':=by
 simp only[LB]at ht;obtain⟨hb,rfl⟩:=ht;unfold Sq at hb;split at hb
 case h_3=>cases hb
 case h_1=>
  rename_i i fs hi hu;split at hb
  case h_2=>cases hb
  rename_i pl hpl;rw[zi]at hb;obtain⟨out,ho,rfl⟩:=hb;obtain⟨ys,g1,g2⟩:=HF hr hl (Eh i.zero) ho;exact OK.pure hr (v':=.agg ys) (by simp only[Iv,hi,hu,hpl,g1,zL,Bj]) (by unfold PR;exact⟨_,rfl,g2⟩)
 case h_2=>
  rename_i i nn e hi hu;split at hb
  case h_2=>cases hb
  rename_i j hj;rw[zi]at hb;obtain⟨out,ho,rfl⟩:=hb;obtain⟨ys,g1,g2⟩:=HF hr hl (Eh i.zero) ho;exact OK.pure hr (v':=.agg ys) (by simp only[Iv,hi,hu,hj,g1,zL,Bj]) (by unfold PR;exact⟨_,rfl,g2⟩)
theorem IJ(z:List V):∀n,A8 F ρ N (IC (z.map Uz) n) ((zp n z).flatten)
 |0=>by simp[IC]
 |n+1=>by
  simp only[IC,zq,zR];exact(Eh z).append (IJ z n)
theorem Ga(z:List V):∀n,Ea z (n*z.length)=(zp n z).flatten:=by
 intro n;apply zG;intro i;unfold Ea;by_cases hz:z.length=0
 ·have:z=[]:=zF.1 hz;subst this;have:(zp n ([]:List V)).flatten=[]:=by induction n with|zero=>rfl|succ n ih=>simp[zq]
  rw[this];simp
 ·have hpos:0<z.length:=Nat.pos_of_ne_zero hz;induction n generalizing i with
  |zero=>simp
  |succ n ih=>
   rw[zq,zR];by_cases hi:i<z.length
   ·rw[List.getElem?_append_left hi,zS,zM (by rw[zh];omega)];simp only[zL,Nat.mod_eq_of_lt hi];simp[List.getD_eq_getElem?_getD,hi]
   ·rw[List.getElem?_append_right (by omega), ←ih (i-z.length)];rw[zS,zS];by_cases h2:i<(n+1)*z.length
    ·rw[zM h2,zM (by rw[zh]at h2;omega)];simp only[zL];rw[Nat.mod_eq_sub_mod (by omega)]
    ·rw[zj (by simp;omega),zj (by simp;rw[zh]at h2;omega)]
theorem LK{sz n:Nat}{o:Nat}(ho:o=0∨o=sz):PR F (Bx ρ N (some (h.nx,n))) (N+1) (.sl N sz 0 n none) (.sl h.nx 0 n n o):=by
 unfold PR;refine⟨zI _,fun b m hb=>.inl ?_⟩;simp[Bx]at hb;obtain⟨rfl,rfl⟩:=hb;exact⟨zn _,by show 0+n≤n;omega,o,ho,by rw[zV];rfl⟩
theorem JT{place:Nat→Option (Nat×Nat)}:∀ {l:List (Nat×V)} {xs ys:List V},HB place xs l=some ys→ys.length=xs.length
 |[],xs,ys,h=>by cases h;rfl
 |(i,v)::l,xs,ys,h=>by
  unfold HB at h;split at h
  ·cases h
  ·rename_i off size _;cases hc:(ze v.cells.length size&&zB (off+size) xs.length)with
   |false=>rw[hc]at h;cases h
   |true=>
    rw[hc]at h;rw[JT h,Fa]
end
section
variable {B:Nat}{h0:H0}{F:Fz}{ρ:DF}{N:Nat}{C:Ctx}{st st':AF}{fr:Fr}{h h':H}
theorem DH.nil{s:Sh}:DH F s [] []:=⟨by simp,fun i hi=>by simp at hi⟩
theorem DH.cons{s:Sh}{x:s.T}{l:List s.T}{a b:List V}(ha:DC F s x a)(hb:DH F s l b):DH F s (x::l) (a++b):=by
 refine⟨by rw[zC,ha.len,hb.1,zT,zh];omega,fun i hi=>?_⟩;cases i with
 |zero=>
  simp only[zV,zZ,zH];rw[←ha.len,List.take_left];exact ha
 |succ i=>
  have e:(a++b).drop ((i+1)*s.sz)=b.drop (i*s.sz):=by
   rw[zh,zW,ES, ←ha.len,List.drop_left]
  rw[e];exact hb.2 i (by simpa using hi)
theorem DH.Yp{s:Sh}{x:s.T}{l:List s.T}{cs:List V}(h:DH F s (x::l) cs):∃a b,cs=a++b∧DC F s x a∧DH F s l b:=by
 have h0:=h.2 0 (by simp);simp only[zV,zZ,zH]at h0;refine⟨cs.take s.sz,cs.drop s.sz,(List.take_append_drop _ _).symm,h0,?_,fun i hi=>?_⟩
 ·rw[List.length_drop,h.1,zT,zh];omega
 ·have:=h.2 (i+1) (by simpa using hi);rw[←ES,zW, ←zh];exact this
theorem DH.append{s:Sh}:∀ {l m:List s.T} {a b:List V},DH F s l a→DH F s m b→DH F s (l++m) (a++b)
 |[],m,a,b,h,h'=>by
  have:a=[]:=zF.1 (by rw[h.1];simp);subst this;simpa using h'
 |x::l,m,a,b,h,h'=>by
  obtain⟨c,d,rfl,h1,h2⟩:=h.Yp;rw[List.append_assoc,List.cons_append];exact DH.cons h1 (h2.append h')
theorem DH.replicate{s:Sh}{z:s.T}{c:List V}(hz:DC F s z c):∀n,DH F s (zp n z) ((zp n c).flatten)
 |0=>DH.nil
 |n+1=>by
  rw[zq,zq,zR];exact DH.cons hz (DH.replicate hz n)
theorem DH.P7{s:Sh}:∀ {l:List s.T} {a:List V},DH F s l a→a.all V.one=true
 |[],a,h=>by
  have:a=[]:=zF.1 (by rw[h.1];simp);subst this;rfl
 |x::l,a,h=>by
  obtain⟨c,d,rfl,h1,h2⟩:=h.Yp;rw[List.all_append,h2.P7,Bool.and_true];exact zr.2 h1.P7
theorem DH.part{s:Sh}{l:List s.T}{cs:List V}(h:DH F s l cs){off len:Nat}(hl:off+len≤l.length):DH F s ((l.drop off).take len) ((cs.drop (off*s.sz)).take (len*s.sz)):=by
 have hle:(off+len)*s.sz≤l.length*s.sz:=zf _ hl;rw[zE]at hle;have h1:=h.1;refine⟨by simp;rw[zw (by omega),zw (by omega)],fun i hi=>?_⟩;have hi':i<len:=by simp at hi;omega
 have hi2:(i+1)*s.sz≤len*s.sz:=zf _ hi';rw[zh]at hi2;rw[List.getElem_take,List.getElem_drop];have:=h.2 (off+i) (by omega);have e:(((cs.drop (off*s.sz)).take (len*s.sz)).drop (i*s.sz)).take s.sz=(cs.drop ((off+i)*s.sz)).take s.sz:=by
  rw[zz,zY,zO,zE,zw (by omega)]
 rw[e];exact this
theorem eX(hr:SR B h0 F ρ st.nx st.ob h){t:TypeId}{p q:PV}{x y:V}(hx:PR F ρ st.nx p x)(hy:PR F ρ st.nx q y){v:PV}(ht:(YG C.T t p q st).To v st'):OK B h0 F ρ st h [] (EA (M5 C.T h t x y)) v st':=by
 unfold YG at ht;split at ht
 case h_2=>simp at ht
 rename_i e k l k' c hu;obtain rfl:=Dt hx;obtain rfl:=Dt hy;split at ht
 case h_2=>simp at ht
 rename_i i s hi hs;cases hc:(zQ 0 i.zero.length&&ze i.zero.length i.size&&ze i.size s.sz)with
 |false=>rw[hc]at ht;simp at ht
 |true=>
  rw[hc]at ht;simp only[zc]at hc;obtain⟨⟨c2,c3⟩,c4⟩:=hc;simp only[cond_true]at ht;split at ht
  case h_2=>simp at ht
  rename_i z hz;simp only[By,zc,decide_eq_true_eq]at ht;obtain⟨⟨⟨⟨k1,k2⟩,k3⟩,k4⟩,rfl,rfl⟩:=ht;have k2':l=c:=k2;subst k2';obtain⟨n,rfl,hn⟩:=Dc k1;rw[hn]at k3 ⊢;have e3:=zd c3;have e4:=zd c4;have hd:M5 C.T h t (.int k (zt n)) (.int k' (zt n))=some (.sl h.nx 0 n n 0,h.push (.cells (Ea i.zero (n*i.size)) e (0,0))):=by
   have a1:zB n n=true:=zl (zn _);have a2:zQ n 9223372036854775808=true:=Da (by have:(zt n:Int)<9223372036854775808:=k4;simp at this;omega);have a3:zB (i.bytes*n) 281474976710656=true:=zl k3;simp only[M5,hu,hi,a1,a2,a3,c2,c3,Bool.and_self,cond_true,GX]
  rw[hd];have hzc:=Ct (Eh (F:=F) (ρ:=ρ) (N:=st.nx) i.zero) hz;have hcells:DH F s (zp n z) (Ea i.zero (n*i.size)):=by
   rw[←e3,Ga];exact DH.replicate hzc n
  exact OK.new hr (o:=.arr false e s (zp n z)) (n:=n) rfl ⟨_,_,rfl,hcells,zn _,by simp⟩ (LK (.inl rfl))
theorem SL(hr:SR B h0 F ρ st.nx st.ob h){s:Sh}{p:PV}{x:V}(hx:PR F ρ st.nx p x){c:Bool}{l:List s.T}(hd:K9 st s p=some (c,l))(hc:c=true):
  N7 x=some l.length∧M4 x=true∧∃cs,src h s.sz x l.length=some cs∧DH F s l cs:=by
 unfold K9 at hd;split at hd
 case h_1=>
  cases hd;simp only[PR]at hx;subst hx;exact⟨rfl,rfl,[],rfl,DH.nil⟩
 case h_2=>
  rename_i s' l';rw[zi]at hd;obtain⟨r,h1,h2⟩:=hd;obtain⟨e,he⟩:=CT h1;have e':s'=s:=by cases e;rfl
  subst e';have:r=l':=by have:=he;cases this;rfl
  subst this;cases h2;simp only[PR,DC]at hx;obtain⟨u,hu1,hx⟩:=hx;obtain rfl:x=u:=by simpa using hu1
  rcases hx with⟨rfl,rfl|rfl|rfl⟩|⟨b,off,cap,o,bs,rfl,g1,g2,g3,g5,g4⟩
  ·exact⟨rfl,rfl,[],rfl,DH.nil⟩
  ·exact⟨rfl,rfl,[],rfl,DH.nil⟩
  ·exact⟨rfl,rfl,[],rfl,DH.nil⟩
  ·obtain⟨te,fz,hg⟩:=hr.frz b bs g2;suffices hD:DH F s' l ((bs.drop off).take (l.length*s'.sz))from⟨rfl,rfl,_,rd_some hg g3 hD.ok,hD⟩
   refine⟨?_,fun i hi=>?_⟩
   ·simp;rw[zw (by omega)]
   ·have hi2:(i+1)*s'.sz≤l.length*s'.sz:=zf _ hi;rw[zh]at hi2;have e:(((bs.drop off).take (l.length*s'.sz)).drop (i*s'.sz)).take s'.sz=(bs.drop (off+i*s'.sz)).take s'.sz:=by
     rw[zz,zY,zO,zw (by omega)]
    rw[e];exact g4 i hi
 case h_3=>
  rename_i id sz off len cap;split at hd
  case h_2=>cases hd
  rename_i fzb te s' l' ho;cases hz:ze sz s'.sz with
  |false=>rw[hz]at hd;cases hd
  |true=>
   rw[hz]at hd;have hz:=zd hz;simp only[cond_true,zi]at hd;obtain⟨r,h1,h2⟩:=hd;obtain⟨e,he⟩:=CT h1;have e':s'=s:=by cases e;rfl
   subst e';have:r=l':=by have:=he;cases this;rfl
   subst this;cases h2;simp only[decide_eq_true_eq]at hc;obtain⟨b,n,y,g1,g2,⟨cs,fz,rfl,g3,g4,g5⟩,_⟩:=hr.at ho;simp only[PR]at hx;have hlen:((r.drop off).take len).length=len:=by simp;omega
   have hle:(off+len)*s'.sz≤r.length*s'.sz:=zf _ hc;rw[zE]at hle;rw[hlen];rcases hx.2 b n g1 with⟨_,_,o,_,rfl⟩|⟨rfl,_,hof,rfl|⟨off',rfl,hoff⟩⟩
   ·refine⟨rfl,rfl,_,rd_some g2 ?_ ?_,?_⟩
    ·rw[hz,g3.1];exact hle
    ·rw[hz];exact(g3.part hc).ok
    ·rw[hz];exact g3.part hc
   ·refine⟨rfl,rfl,[],rfl,?_⟩;simpa using DH.nil
   ·refine⟨rfl,rfl,_,rd_some g2 ?_ ?_,?_⟩
    ·rw[hz]at hoff;rw[g3.1];simp at hle ⊢;omega
    ·simp
    ·simp;exact DH.nil
 case h_4=>cases hd
theorem Vu(hr:SR B h0 F ρ st.nx st.ob h){s:Sh}{p:PV}{x:V}(hx:PR F ρ st.nx p x){c:Bool}{l:List s.T}(hd:Me st s p=some (c,l))(hc:c=true):
  N7 x=some l.length∧M4 x=true∧∃cs,src h s.sz x l.length=some cs∧DH F s l cs:=SL hr hx.lz hd hc
theorem SR.congr(hr:SR B h0 F ρ N st.ob h)(hg:∀c,h'.get c=h.get c)(hn:h'.nx=h.nx):SR B h0 F ρ N st.ob h':=
 ⟨fun id o ho=>by obtain⟨b,n,x,h1,h2,h3⟩:=hr.obj id o ho;exact⟨b,n,x,h1,(hg b).trans h2,h3⟩,hr.inj,fun b cs hb=>by obtain⟨t,fz,h1⟩:=hr.frz b cs hb;exact⟨t,fz,(hg b).trans h1⟩,hr.own,hr.dead,
  fun b hb he=>(hg b).trans (hr.old b hb he),fun b o hb=>by rw[hn];exact hr.lt b o ((hg b).symm.trans hb),by rw[hn];exact hr.le,hr.fo,fun c hc=>by obtain⟨g1,g2,g3⟩:=hr.pn c hc;exact⟨(hg c).trans g1,g2,g3⟩⟩
end
end Go.Pe
end
