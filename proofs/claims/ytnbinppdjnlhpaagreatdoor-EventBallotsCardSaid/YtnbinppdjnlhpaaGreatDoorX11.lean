import Derived.Test.YtnbinppdjnlhpaaGreatDoorX08
/- A part of the proofs of the laws of one chapter (no law is stated here). Made by program out of texts by AI agents. -/
section
/- A second evaluator, for inputs that are not known: values, objects, states, trees of decisions. -/
namespace Go.Pe
open Go.Det
/-! ### Shapes of plain data -/
inductive Sh where
  | int (k : IntKind)
  | bool
  | str
  | list (s : Sh)
  | pair (a b : Sh)
  | unit
  deriving DecidableEq
@[reducible] def Sh.T : Sh → Type
  | .int _ => Int
  | .bool => Bool
  | .str => List UInt8
  | .list s => List s.T
  | .pair a b => a.T × b.T
  | .unit => Unit
noncomputable section
def Sh.dflt : (s : Sh) → s.T
  | .int _ => (0 : Int)
  | .bool => false
  | .str => ([] : List UInt8)
  | .list _ => []
  | .pair a b => (a.dflt, b.dflt)
  | .unit => ()
/-- the number of cells -/
def Sh.sz : Sh → Nat
  | .pair a b => Nat.add a.sz b.sz
  | .unit => 0
  | _ => 1

/-! ### Values, objects, states -/
inductive PV where
  /-- whatever it be -/
  | any
  /-- a known truth value -/
  | bl (b : Bool)
  /-- plain data in one cell; a list is a slice that nobody writes any more -/
  | dat (s : Sh) (x : s.T)
  | nil | nilp | nilm | nilf | nili
  | agg (l : List PV)
  | tup (l : List PV)
  /-- into a variable -/
  | ptr (id off : Nat)
  /-- into element i of an array of the call's own; sz: the cells of an element -/
  | eptr (id sz i off : Nat)
  /-- into an element that nobody writes -/
  | dptr (s : Sh) (x : s.T) (off : Nat)
  /-- cap: none where it is the length -/
  | sl (id sz off len : Nat) (cap : Option Nat)
  | mp (id : Nat)
  | fn (f : Fn) (first captured : List PV)

inductive Obj where
  /-- an array; fz: nobody writes it any more; e: its elements' type -/
  | arr (fz : Bool) (e : TypeId) (s : Sh) (l : List s.T)
  /-- a variable: its cells -/
  | box (cs : List PV)
  | map (ks vs : Sh) (l : List (ks.T × vs.T))
  | siter (s : List UInt8) (pos : Nat)

abbrev Ob := List (Nat × Obj)
def obGet : Ob → Nat → Option Obj
  | [], _ => none
  | (i, o) :: l, j => bif Nat.beq i j then some o else obGet l j
def obSet : Ob → Nat → Obj → Ob
  | [], _, _ => []
  | (i, o) :: l, j, x => bif Nat.beq i j then (i, x) :: l else (i, o) :: obSet l j x
def obDel : Ob → Nat → Ob
  | [], _ => []
  | (i, o) :: l, j => bif Nat.beq i j then obDel l j else (i, o) :: obDel l j
structure PSt where
  n : Nat
  fr : PM PV
  ob : Ob
  nx : Nat
def PSt.get (st : PSt) (t : Nat) : PV := (st.fr.get t).getD .any
def PSt.obj (st : PSt) (id : Nat) : Option Obj := obGet st.ob id
def PSt.set (st : PSt) (t : Nat) (v : PV) : PSt := ⟨st.n, st.fr.set t (some v), st.ob, st.nx⟩
def PSt.setObj (st : PSt) (id : Nat) (o : Obj) : PSt := ⟨st.n, st.fr, obSet st.ob id o, st.nx⟩
def PSt.delObj (st : PSt) (id : Nat) : PSt := ⟨st.n, st.fr, obDel st.ob id, st.nx⟩
/-- a new object -/
def PSt.push (st : PSt) (o : Obj) : PSt := ⟨st.n, st.fr, (st.nx, o) :: st.ob, Nat.add st.nx 1⟩
def PSt.put (st : PSt) (d : Option Nat) (v : PV) : Option PSt :=
  match d with
  | none => some st
  | some t => bif Nat.blt t st.n then some (st.set t v) else none

/-! ### From cells to data and back -/
def flat : (s : Sh) → s.T → List PV
  | .pair a b, (x, y) => flat a x ++ flat b y
  | .unit, _ => []
  | s, x => [.dat s x]
def castD (s s' : Sh) (x : s.T) : Option s'.T := if h : s = s' then some (h ▸ x) else none
/-- one cell as data of a shape -/
def asD (s : Sh) (v : PV) : Option s.T :=
  match v with
  | .dat s' x => castD s' s x
  | .bl b => castD .bool s b
  | .nil => match s with
    | .list _ => some []
    | _ => none
  | _ => none
def unflat : (s : Sh) → List PV → Option (s.T × List PV)
  | .pair a b, l => match unflat a l with
    | some (x, l1) => match unflat b l1 with
      | some (y, l2) => some ((x, y), l2)
      | none => none
    | none => none
  | .unit, l => some ((), l)
  | s, v :: l => match asD s v with
    | some x => some (x, l)
    | none => none
  | _, [] => none
/-- all cells, and no more -/
def unflat1 (s : Sh) (l : List PV) : Option s.T :=
  match unflat s l with
  | some (x, []) => some x
  | _ => none
def PV.cells : PV → List PV
  | .agg cs => cs
  | v => [v]
def pairs (ty : TypeId → Option Sh) : List Field → Option Sh
  | [] => none
  | [x] => ty x.type
  | x :: xs => match ty x.type, pairs ty xs with
    | some a, some b => some (.pair a b)
    | _, _ => none
/-- the shape of the values of a type -/
def tySh (T : Tab) : Nat → TypeId → Option Sh
  | 0, _ => none
  | f + 1, t => match T.und t with
    | some (.int k) => some (.int k)
    | some .bool => some .bool
    | some .string => some .str
    | some (.slice e) => (tySh T f e).map .list
    | some (.struct fs) => pairs (tySh T f) fs.toList
    | _ => none

/-- data as one value -/
def dats : (s : Sh) → s.T → PV
  | .pair a b, x => .agg (flat (.pair a b) x)
  | .unit, _ => .agg []
  | s, x => .dat s x
def Sh.isP : Sh → Bool
  | .pair _ _ | .unit => true
  | _ => false
/-! ### Maps -/
/-- are two keys the same -/
def keq : (s : Sh) → s.T → s.T → Bool
  | .int _, a, b => (a : Int) == b
  | .bool, a, b => (a : Bool) == b
  | .str, a, b => (a : List UInt8) == b
  | _, _, _ => false
def mget (s v : Sh) (k : s.T) : List (s.T × v.T) → Option v.T
  | [] => none
  | (a, b) :: l => bif keq s k a then some b else mget s v k l
def mset (s v : Sh) (k : s.T) (x : v.T) : List (s.T × v.T) → List (s.T × v.T)
  | [] => [(k, x)]
  | (a, b) :: l => bif keq s k a then (k, x) :: l else (a, b) :: mset s v k x l
def mdel (s v : Sh) (k : s.T) : List (s.T × v.T) → List (s.T × v.T)
  | [] => []
  | (a, b) :: l => bif keq s k a then l else (a, b) :: mdel s v k l

/-! ### Trees of decisions -/
inductive Tr where
  | fail
  /-- the result, the objects behind it -/
  | leaf (v : PV) (ob : Ob)
  | ite (c : Bool) (a b : Tr)
  /-- in front of a piece of code that several ways come to -/
  | cut (nd : Bool) (d : Nat) (f : FuncId) (base : Nat) (b : Code) (st : PSt) (k : DX → PSt → Tr)
  /-- one of these, whichever -/
  | alts (m : Nat) (f : Nat → Tr)
  /-- a loop of function f, at depth d, at its head; base: the objects from there on are its own -/
  | loop (nd : Bool) (d : Nat) (f : FuncId) (base : Nat) (b : Code) (st : PSt) (k : DX → PSt → Tr)

/-- what an operation comes to -/
inductive PO where
  | bad
  | val (v : PV) (st : PSt)
  | ite (c : Bool) (a b : PO)
def PO.chk (c : Bool) (v : PV) (st : PSt) : PO := .ite c (.val v st) .bad
end
end Go.Pe
end
section
/- The evaluator for inputs that are not known: operations. -/
namespace Go.Pe
open Go.Det
noncomputable section
mutual
def cvp : Value → Option PV
  | .bool b => some (.bl b)
  | .int k n => some (.dat (.int k) n)
  | .string s => some (.dat .str s.data.toList)
  | .pointer none => some .nilp
  | .slice none 0 0 => some .nil
  | .map none => some .nilm
  | .nilFunc => some .nilf
  | .nilIface => some .nili
  | .func f ⟨[]⟩ ⟨[]⟩ => some (.fn f [] [])
  | .agg ⟨cs⟩ => (cvps cs).map .agg
  | .tuple ⟨cs⟩ => (cvps cs).map .tup
  | _ => none
def cvps : List Value → Option (List PV)
  | [] => some []
  | v :: vs => match cvp v, cvps vs with
    | some x, some xs => some (x :: xs)
    | _, _ => none
end
/-- a known value -/
def ofV : V → PV
  | .bool b => .bl b
  | .int k n => .dat (.int k) n
  | .str s => .dat .str s
  | .nilp => .nilp
  | .nils => .nil
  | .nilm => .nilm
  | .nilf => .nilf
  | .nili => .nili
  | _ => .any

def pev (st : PSt) : Operand → Option PV
  | .tmp t => some (st.get t)
  | .const v => cvp v
  | .global _ => none
  | .func f => some (.fn (.func f) [] [])
def pevs (st : PSt) : List Operand → Option (List PV)
  | [] => some []
  | x :: xs => match pev st x, pevs st xs with
    | some v, some vs => some (v :: vs)
    | _, _ => none
def pevp (st : PSt) : List (Nat × Operand) → Option (List (Nat × PV))
  | [] => some []
  | (i, x) :: xs => match pev st x, pevp st xs with
    | some v, some vs => some ((i, v) :: vs)
    | _, _ => none

def pcells (T : Tab) (t : TypeId) : Option (List PV) := (T.inf t).map fun i => i.zero.map ofV
/-- the value in these cells -/
def pick (d : TypeDesc) (n : Nat) (cs : List PV) : Option PV :=
  bif isAggD d then (bif Nat.ble n (llen cs) && Nat.blt 0 n then some (.agg (ltake n cs)) else none)
  else match cs with
    | v :: _ => some v
    | [] => none
def ov (st : PSt) : Option PV → PO
  | some v => .val v st
  | none => .bad
def ovc (c : Bool) (st : PSt) : Option PV → PO
  | some v => .chk c v st
  | none => .bad

def pload (T : Tab) (st : PSt) (t : TypeId) (a : PV) : PO :=
  match T.und t, T.inf t with
  | some d, some i => match a with
    | .ptr id off => match st.obj id with
      | some (.box cs) => ov st (pick d i.size (ldrop off cs))
      | _ => .bad
    | .eptr id sz j off => match st.obj id with
      | some (.arr _ _ s l) => bif Nat.beq sz s.sz then ovc (decide (j < l.length)) st (pick d i.size (ldrop off (flat s (l.getD j s.dflt)))) else .bad
      | _ => .bad
    | .dptr s x off => ov st (pick d i.size (ldrop off (flat s x)))
    | _ => .bad
  | _, _ => .bad
def isS : Option Obj → Bool
  | some _ => true
  | none => false
/-- a value of one cell, known so far -/
def solid (st : PSt) : PV → Bool
  | .agg _ | .tup _ | .any => false
  | .ptr id _ | .eptr id _ _ _ | .sl id _ _ _ _ | .mp id => isS (st.obj id)
  | _ => true
/-- a value's cells -/
def pcs (st : PSt) : PV → Option (List PV)
  | .agg l => some l
  | p => bif solid st p then some [p] else none
def pstore (T : Tab) (st : PSt) (t : TypeId) (a x : PV) : PO :=
  match T.inf t, pcs st x with
  | some i, some xs => bif Nat.beq (llen xs) i.size && lall (solid st) xs then
      match a with
      | .ptr id off => match st.obj id with
        | some (.box cs) => bif Nat.ble (Nat.add off i.size) (llen cs) then .val (.tup []) (st.setObj id (.box (lput off xs cs))) else .bad
        | _ => .bad
      | .eptr id sz j off => match st.obj id with
        | some (.arr false e s l) => bif Nat.beq sz s.sz && Nat.ble (Nat.add off i.size) sz then
            match unflat1 s (lput off xs (flat s (l.getD j s.dflt))) with
            | some y => .chk (decide (j < l.length)) (.tup []) (st.setObj id (.arr false e s (l.set j y)))
            | none => .bad
          else .bad
        | _ => .bad
      | _ => .bad
    else .bad
  | _, _ => .bad

/-! numbers, texts, truth values -/
def pint (op : BinOp) (k : IntKind) (a b : Int) (st : PSt) : PO :=
  match op with
  | .add => .val (.dat (.int k) (k.wrap (a + b))) st
  | .sub => .val (.dat (.int k) (k.wrap (a - b))) st
  | .mul => .val (.dat (.int k) (k.wrap (a * b))) st
  | .quo => .chk (decide (b ≠ 0)) (.dat (.int k) (k.wrap (a.tdiv b))) st
  | .rem => .chk (decide (b ≠ 0)) (.dat (.int k) (a.tmod b)) st
  | .and => .val (.dat (.int k) (k.wrap (BitVec.ofInt k.bits a &&& BitVec.ofInt k.bits b).toNat)) st
  | .or => .val (.dat (.int k) (k.wrap (BitVec.ofInt k.bits a ||| BitVec.ofInt k.bits b).toNat)) st
  | .xor => .val (.dat (.int k) (k.wrap (BitVec.ofInt k.bits a ^^^ BitVec.ofInt k.bits b).toNat)) st
  | .andNot => .val (.dat (.int k) (k.wrap (BitVec.ofInt k.bits a &&& ~~~BitVec.ofInt k.bits b).toNat)) st
  | .eql => .val (.dat .bool (a == b)) st
  | .neq => .val (.dat .bool (a != b)) st
  | .lss => .val (.dat .bool (decide (a < b))) st
  | .leq => .val (.dat .bool (decide (a ≤ b))) st
  | .gtr => .val (.dat .bool (decide (a > b))) st
  | .geq => .val (.dat .bool (decide (a ≥ b))) st
  | _ => .bad
def psh (op : BinOp) (k : IntKind) (a b : Int) (st : PSt) : PO :=
  match op with
  | .shl => .chk (decide (0 ≤ b)) (.dat (.int k) (k.wrap (a * 2 ^ (min b.toNat k.bits)))) st
  | .shr => .chk (decide (0 ≤ b)) (.dat (.int k) (a.fdiv (2 ^ (min b.toNat k.bits)))) st
  | _ => .bad
def pstr (op : BinOp) (x y : List UInt8) (st : PSt) : PO :=
  match op with
  | .add => .chk (decide (x.length + y.length ≤ 4611686018427387904)) (.dat .str (x ++ y)) st
  | .eql => .val (.dat .bool (x == y)) st
  | .neq => .val (.dat .bool (!(x == y))) st
  | .lss => .val (.dat .bool (Op.bytesLess x y)) st
  | .leq => .val (.dat .bool (Op.bytesLess x y || x == y)) st
  | .gtr => .val (.dat .bool (!(Op.bytesLess x y || x == y))) st
  | .geq => .val (.dat .bool (!Op.bytesLess x y)) st
  | _ => .bad
def isSh : BinOp → Bool
  | .shl | .shr => true
  | _ => false
def pboolOf : PV → Option Bool
  | .bl b => some b
  | .dat .bool b => some b
  | _ => none
/-- are two flat values equal, cell by cell -/
def psame : List FK → List PV → List PV → Option Bool
  | [], [], [] => some true
  | .int k :: ks, .dat (.int k1) a :: xs, .dat (.int k2) b :: ys => bif k == k1 && k == k2 then (psame ks xs ys).map fun r => (a : Int) == (b : Int) && r else none
  | .str :: ks, .dat .str a :: xs, .dat .str b :: ys => (psame ks xs ys).map fun r => (a : List UInt8) == (b : List UInt8) && r
  | .bool :: ks, a :: xs, b :: ys => match pboolOf a, pboolOf b with
    | some a, some b => (psame ks xs ys).map fun r => a == b && r
    | _, _ => none
  | _, _, _ => none
def pbin (T : Tab) (op : BinOp) (t : TypeId) (x y : PV) (st : PSt) : PO :=
  match x, y with
  | .dat (.int k) a, .dat (.int k') b => bif isSh op then psh op k a b st else (bif k == k' then pint op k a b st else .bad)
  | .dat .str a, .dat .str b => pstr op a b st
  | .agg xs, .agg ys => match T.flat t with
    | some ks => match op, psame ks xs ys with
      | .eql, some r => .val (.dat .bool r) st
      | .neq, some r => .val (.dat .bool (!r)) st
      | _, _ => .bad
    | none => .bad
  | x, y => match pboolOf x, pboolOf y, T.und t with
    | some a, some b, some .bool => match op with
      | .eql => .val (.dat .bool (a == b)) st
      | .neq => .val (.dat .bool (!(a == b))) st
      | _ => .bad
    | _, _, _ => .bad
def pun (op : UnOp) (x : PV) (st : PSt) : PO :=
  match op, x with
  | .neg, .dat (.int k) n => .val (.dat (.int k) (k.wrap (0 - (n : Int)))) st
  | .not, .bl b => .val (.bl (!b)) st
  | .not, .dat .bool b => .val (.dat .bool (!b)) st
  | _, _ => .bad
def pconv (T : Tab) (s d : TypeId) (x : PV) (st : PSt) : PO :=
  match T.und s, T.und d, x with
  | some _, some (.int k), .dat (.int _) n => .val (.dat (.int k) (k.wrap n)) st
  | some .string, some .string, .dat .str s => .val (.dat .str s) st
  | _, _, _ => .bad
/-- c ? a : b -/
def ppick (c a b : PV) (st : PSt) : PO :=
  match c with
  | .bl t => .val (bif t then a else b) st
  | .dat .bool t => match a, b with
    | .dat .bool x, .bl false => .val (.dat .bool (t && x)) st
    | .bl true, .dat .bool x => .val (.dat .bool (t || x)) st
    | _, _ => .ite t (.val a st) (.val b st)
  | _ => .bad

/-! fields, indexes, slices -/
def pfield (T : Tab) (t : TypeId) (x : PV) (f : Nat) (st : PSt) : PO :=
  match T.und t, x with
  | some (.struct fs), .agg cs => match fs[f]? with
    | some fd => match T.und fd.type, T.inf fd.type with
      | some d, some i => ov st (pick d i.size (ldrop fd.offset cs))
      | _, _ => .bad
    | none => .bad
  | _, _ => .bad
def pfaddr (T : Tab) (t : TypeId) (x : PV) (f : Nat) (st : PSt) : PO :=
  match T.und t with
  | some (.struct fs) => match fs[f]? with
    | some fd => match T.inf fd.type with
      | some i => bif Nat.beq i.size 0 then .bad else match x with
        | .ptr id off => bif isS (st.obj id) then .val (.ptr id (Nat.add off fd.offset)) st else .bad
        | .eptr id sz j off => bif isS (st.obj id) then .val (.eptr id sz j (Nat.add off fd.offset)) st else .bad
        | .dptr s y off => .val (.dptr s y (Nat.add off fd.offset)) st
        | _ => .bad
      | none => .bad
    | none => .bad
  | _ => .bad
def piaddr (T : Tab) (t : TypeId) (x ix : PV) (st : PSt) : PO :=
  match T.und t, ix with
  | some (.slice e), .dat (.int _) i => match T.inf e with
    | some ti => match x with
      | .dat (.list s) l => bif Nat.beq ti.size s.sz then .chk (decide (0 ≤ (i : Int)) && decide ((i : Int) < (l.length : Int))) (.dptr s (l.getD (Int.toNat i) s.dflt) 0) st else .bad
      | .sl id sz off len _ => bif Nat.beq ti.size sz && isS (st.obj id) then .chk (decide (0 ≤ (i : Int)) && decide ((i : Int) < (len : Int))) (.eptr id sz (Nat.add (Int.toNat i) off) 0) st else .bad
      | _ => .bad
    | none => .bad
  | some (.array len e), .dat (.int _) i => match T.inf e with
    | some ti => match x with
      | .ptr id off => bif isS (st.obj id) then .chk (decide (0 ≤ (i : Int)) && decide ((i : Int) < (len : Int))) (.ptr id (Nat.add off (Nat.mul (Int.toNat i) ti.size))) st else .bad
      | .eptr id sz j off => bif isS (st.obj id) then .chk (decide (0 ≤ (i : Int)) && decide ((i : Int) < (len : Int))) (.eptr id sz j (Nat.add off (Nat.mul (Int.toNat i) ti.size))) st else .bad
      | .dptr s y off => .chk (decide (0 ≤ (i : Int)) && decide ((i : Int) < (len : Int))) (.dptr s y (Nat.add off (Nat.mul (Int.toNat i) ti.size))) st
      | _ => .bad
    | none => .bad
  | _, _ => .bad
def pindex (T : Tab) (t : TypeId) (x ix : PV) (st : PSt) : PO :=
  match T.und t, x, ix with
  | some .string, .dat .str s, .dat (.int _) i => .chk (decide (0 ≤ (i : Int)) && decide ((i : Int) < ((s : List UInt8).length : Int))) (.dat (.int .u8) (((s : List UInt8).getD (Int.toNat i) 0).toNat : Int)) st
  | some (.array len e), .agg cs, .dat (.int _) i => match T.und e, T.inf e with
    | some d, some ti => ovc (decide (0 ≤ (i : Int)) && decide ((i : Int) < (len : Int))) st (pick d ti.size (ldrop (Nat.mul (Int.toNat i) ti.size) cs))
    | _, _ => .bad
  | _, _, _ => .bad
def pextract (x : PV) (i : Nat) (st : PSt) : PO :=
  match x with
  | .tup vs => match vs[i]? with
    | some v => .val v st
    | none => .bad
  | _ => .bad
/-- a bound: is it a number, and which one -/
def pb (x : Option PV) (dflt : Nat) : Option (Bool × Nat) :=
  match x with
  | none => some (true, dflt)
  | some (.dat (.int _) n) => some (decide (0 ≤ (n : Int)), Int.toNat n)
  | _ => none
def has (mx : Option PV) (c : Nat) : Bool := match mx with
  | none => true
  | some _ => decide (0 < c)
def pslice (T : Tab) (t : TypeId) (x : PV) (lo hi mx : Option PV) (st : PSt) : PO :=
  match T.und t with
  | some .string => match x, mx with
    | .dat .str s, none => match pb lo 0, pb hi (s : List UInt8).length with
      | some (c1, l), some (c2, h) => .chk (c1 && c2 && decide (l ≤ h) && decide (h ≤ (s : List UInt8).length)) (.dat .str (((s : List UInt8).drop l).take (Nat.sub h l))) st
      | _, _ => .bad
    | _, _ => .bad
  | some (.slice e) => match T.inf e with
    | some ti => match x with
      | .dat (.list s) xs => bif Nat.beq ti.size s.sz then
          match pb lo 0, pb hi xs.length, mx with
          | some (c1, l), some (c2, h), none => .chk (c1 && c2 && decide (l ≤ h) && decide (h ≤ xs.length)) (.dat (.list s) ((xs.drop l).take (Nat.sub h l))) st
          | _, _, _ => .bad
        else .bad
      | .sl id sz off len cap => bif Nat.beq ti.size sz && isS (st.obj id) then
          match hi, mx with
          | none, some _ => .bad
          | _, _ => match pb lo 0, pb hi len, pb mx (cap.getD len) with
            | some (c1, l), some (c2, h), some (c3, m) => .chk (c1 && c2 && c3 && decide (l ≤ h) && decide (h ≤ m) && decide (m ≤ cap.getD len) && has mx (cap.getD len)) (.sl id sz (Nat.add off l) (Nat.sub h l) (some (Nat.sub m l))) st
            | _, _, _ => .bad
        else .bad
      | .nil => match pb lo 0, pb hi 0, mx with
        | some (c1, l), some (c2, h), none => .chk (c1 && c2 && decide (l ≤ h) && decide (h ≤ 0)) .nil st
        | _, _, _ => .bad
      | _ => .bad
    | none => .bad
  | _ => .bad

/-! built-in functions -/
def pi64 (n : Nat) : PV := .dat (.int .i64) (Int.ofNat n)
def plen (T : Tab) (ts : Array TypeId) (args : List PV) (st : PSt) : PO :=
  match ts[0]?, args with
  | some t, [x] => match T.und t, x with
    | some .string, .dat .str s => .val (pi64 (s : List UInt8).length) st
    | some (.slice _), .dat (.list _) l => .val (pi64 l.length) st
    | some (.slice _), .sl id _ _ len _ => bif isS (st.obj id) then .val (pi64 len) st else .bad
    | some (.slice _), .nil => .val (pi64 0) st
    | some (.map _ _), .mp id => match st.obj id with
      | some (.map _ _ l) => .val (pi64 l.length) st
      | _ => .bad
    | _, _ => .bad
  | _, _ => .bad
def pmm (f : Int → Int → Int) (k : IntKind) : Int → List PV → Option Int
  | x, [] => some x
  | x, .dat (.int k') y :: ys => bif k == k' then pmm f k (f x y) ys else none
  | _, _ => none
def pminmax (f : Int → Int → Int) (args : List PV) (st : PSt) : PO :=
  match args with
  | .dat (.int k) x :: ys => match pmm f k x ys with
    | some z => .val (.dat (.int k) z) st
    | none => .bad
  | _ => .bad
def imax (x y : Int) : Int := if y > x then y else x
def imin (x y : Int) : Int := if y < x then y else x
/-- the elements of a slice, and the condition under which it has them -/
def pelems (st : PSt) (s : Sh) (x : PV) : Option (Bool × List s.T) :=
  match x with
  | .nil => some (true, [])
  | .dat (.list s') l => (castD (.list s') (.list s) l).map fun r => (true, r)
  | .sl id sz off len _ => match st.obj id with
    | some (.arr _ _ s' l) => bif Nat.beq sz s'.sz then (castD (.list s') (.list s) l).map fun r => (decide (off + len ≤ r.length), (r.drop off).take len) else none
    | _ => none
  | _ => none
def LIM : Nat := 281474976710656
def pappend (T : Tab) (ts : Array TypeId) (args : List PV) (st : PSt) : PO :=
  match ts[0]?, ts[1]?, args with
  | some t, some tx, [b, x] => match T.und t, T.und tx with
    | some (.slice e), some (.slice _) => match T.inf e, tySh T 9 e with
      | some i, some s =>
        bif Nat.blt 0 i.bytes && Nat.blt 0 i.size && Nat.beq i.zero.length i.size && Nat.beq i.size s.sz then
          match pelems st s x with
          | some (c, new) => match b with
            | .nil => .chk (c && decide (0 < new.length) && decide ((2 * new.length + 1000) * i.bytes ≤ LIM)) (.sl st.nx s.sz 0 new.length none) (st.push (.arr false e s new))
            | .sl id sz off len cap => match st.obj id with
              | some (.arr false e' s' l) => match castD (.list s') (.list s) l with
                | some l' => bif Nat.beq e e' && Nat.beq sz s.sz then
                    match cap with
                    | none => .chk (c && decide (off = 0) && decide (len = l'.length) && decide ((2 * (len + new.length) + 1000) * i.bytes ≤ LIM)) (.sl st.nx s.sz 0 (Nat.add len new.length) none) ((st.delObj id).push (.arr false e s (l' ++ new)))
                    | some _ => .bad
                  else .bad
                | none => .bad
              | _ => .bad
            | _ => .bad
          | none => .bad
        else .bad
      | _, _ => .bad
    | _, _ => .bad
  | _, _, _ => .bad
def pbuiltin (T : Tab) (b : Builtin) (ts : Array TypeId) (args : List PV) (st : PSt) : PO :=
  match b with
  | .len => plen T ts args st
  | .append => pappend T ts args st
  | .max => pminmax imax args st
  | .min => pminmax imin args st
  | _ => .bad

/-! what is made -/
def pfill (st : PSt) (place : Nat → Option (Nat × Nat)) (cells : List PV) : List (Nat × PV) → Option (List PV)
  | [] => some cells
  | (i, v) :: rest => match place i with
    | none => none
    | some (off, size) => match pcs st v with
      | some vs => bif Nat.beq (llen vs) size && Nat.ble (Nat.add off size) (llen cells) then pfill st place (lput off vs cells) rest else none
      | none => none
def pbuild (T : Tab) (st : PSt) (t : TypeId) (parts : List (Nat × PV)) : Option PV :=
  match T.inf t, T.und t with
  | some i, some (.struct fs) =>
    match fs.toList.mapM (fun f => (T.inf f.type).map fun j => (f.offset, j.size)) with
    | some pl => (pfill st (fun i => pl[i]?) (i.zero.map ofV) parts).map .agg
    | none => none
  | some i, some (.array _ e) => match T.inf e with
    | some j => (pfill st (fun i => some (i * j.size, j.size)) (i.zero.map ofV) parts).map .agg
    | none => none
  | _, _ => none
/-- the elements in these cells -/
def chunk (s : Sh) : Nat → List PV → Option (List s.T)
  | 0, _ => some []
  | n + 1, cs => match unflat s cs with
    | some (x, cs') => (chunk s n cs').map (x :: ·)
    | none => none
def pzeros (z : List PV) : Nat → List PV
  | 0 => []
  | n + 1 => z ++ pzeros z n
def pbslice (T : Tab) (t : TypeId) (len : Nat) (parts : List (Nat × PV)) (st : PSt) : PO :=
  match T.und t with
  | some (.slice e) => match T.inf e, tySh T 9 e with
    | some i, some s =>
      bif Nat.ble (Nat.mul len i.size) 16777216 && Nat.blt 0 i.zero.length && Nat.beq i.zero.length i.size && Nat.beq i.size s.sz then
        match pfill st (fun k => some (k * i.size, i.size)) (pzeros (i.zero.map ofV) len) parts with
        | some cs => match chunk s len cs with
          | some l => .val (.sl st.nx s.sz 0 len none) (st.push (.arr false e s l))
          | none => .bad
        | none => .bad
      else .bad
    | _, _ => .bad
  | _ => .bad
def pmake (T : Tab) (t : TypeId) (l c : PV) (st : PSt) : PO :=
  match T.und t, l, c with
  | some (.slice e), .dat (.int _) l, .dat (.int _) c => match T.inf e, tySh T 9 e with
    | some i, some s =>
      bif Nat.blt 0 i.zero.length && Nat.beq i.zero.length i.size && Nat.beq i.size s.sz then
        match unflat1 s (i.zero.map ofV) with
        | some z => .chk (decide (0 ≤ (l : Int)) && decide ((l : Int) = (c : Int)) && decide (i.bytes * Int.toNat l ≤ LIM) && decide ((l : Int) < 9223372036854775808)) (.sl st.nx s.sz 0 (Int.toNat l) none) (st.push (.arr false e s (List.replicate (Int.toNat l) z)))
        | none => .bad
      else .bad
    | _, _ => .bad
  | _, _, _ => .bad

/-! maps whose keys are of one cell -/
def kSh (T : Tab) (t : TypeId) : Option Sh := match T.und t with
  | some (.int k) => some (.int k)
  | some .string => some .str
  | some .bool => some .bool
  | _ => none
def isAg : PV → Bool
  | .agg _ => true
  | _ => false
/-- a value as data of a shape -/
def asV (s : Sh) (p : PV) : Option s.T := bif isAg p == s.isP then unflat1 s p.cells else none
def pmkmap (T : Tab) (t : TypeId) (st : PSt) : PO := match T.und t with
  | some (.map kt e) => match kSh T kt, tySh T 9 e with
    | some ks, some vs => .val (.mp st.nx) (st.push (.map ks vs []))
    | _, _ => .bad
  | _ => .bad
/-- a map's entries -/
def pents (st : PSt) (ks vs : Sh) (m : PV) : Option (List (ks.T × vs.T)) := match m with
  | .nilm => some []
  | .mp id => match st.obj id with
    | some (.map ks' vs' l) => castD (.list (.pair ks' vs')) (.list (.pair ks vs)) l
    | _ => none
  | _ => none
def vAg : V → Bool
  | .agg _ => true
  | _ => false
def plookup (T : Tab) (t : TypeId) (m k : PV) (ok : Bool) (st : PSt) : PO := match T.und t with
  | some (.map kt e) => match kSh T kt, tySh T 9 e, T.inf e with
    | some ks, some vs, some i => match asD ks k, pents st ks vs m, unflat1 vs (i.zero.map ofV) with
      | some x, some l, some z =>
        bif vAg i.zv == vs.isP then
          (let v := dats vs ((mget ks vs x l).getD z)
          .val (bif ok then .tup [v, .dat .bool (mget ks vs x l).isSome] else v) st)
        else .bad
      | _, _, _ => .bad
    | _, _, _ => .bad
  | _ => .bad
def pupdate (T : Tab) (t : TypeId) (m k v : PV) (st : PSt) : PO := match T.und t, m with
  | some (.map kt _), .mp id => match kSh T kt, st.obj id with
    | some ks, some (.map ks' vs l) => match asD ks k, castD (.list (.pair ks' vs)) (.list (.pair ks vs)) l, asV vs v with
      | some x, some l, some y => .val (.tup []) (st.setObj id (.map ks vs (mset ks vs x y l)))
      | _, _, _ => .bad
    | _, _ => .bad
  | _, _ => .bad
def pdelete (T : Tab) (ts : Array TypeId) (args : List PV) (st : PSt) : PO := match ts[0]?, args with
  | some t, [.mp id, k] => match T.und t with
    | some (.map kt _) => match kSh T kt, st.obj id with
      | some ks, some (.map ks' vs l) => match asD ks k, castD (.list (.pair ks' vs)) (.list (.pair ks vs)) l with
        | some x, some l => .val (.tup []) (st.setObj id (.map ks vs (mdel ks vs x l)))
        | _, _ => .bad
      | _, _ => .bad
    | _ => .bad
  | _, _ => .bad

/-! one operation -/
abbrev POp := Tab → PSt → PO
def v1 (st : PSt) (x : Operand) (k : PV → PO) : PO := match pev st x with | some v => k v | none => .bad
def q_move (x : Operand) : POp := fun _ st => ov st (pev st x)
def q_pick (c a b : Operand) : POp := fun _ st => v1 st c fun c => v1 st a fun a => v1 st b fun b => ppick c a b st
def q_alloc (t : TypeId) : POp := fun T st => match pcells T t with | some cs => .val (.ptr st.nx 0) (st.push (.box cs)) | none => .bad
def q_box (_ : TypeId) (x : Operand) : POp := fun _ st => v1 st x fun v => match pcs st v with | some cs => .val (.ptr st.nx 0) (st.push (.box cs)) | none => .bad
def q_build (t : TypeId) (ps : Array (Nat × Operand)) : POp := fun T st => match pevp st ps.toList with | some l => ov st (pbuild T st t l) | none => .bad
def q_bslice (t : TypeId) (n : Nat) (ps : Array (Nat × Operand)) : POp := fun T st => match pevp st ps.toList with | some l => pbslice T t n l st | none => .bad
def q_load (t : TypeId) (x : Operand) : POp := fun T st => v1 st x fun a => pload T st t a
def q_store (t : TypeId) (x y : Operand) : POp := fun T st => v1 st x fun a => v1 st y fun b => pstore T st t a b
def q_nilCheck (x : Operand) : POp := fun _ st => v1 st x fun a => match a with | .ptr id _ | .eptr id _ _ _ => bif isS (st.obj id) then .val a st else .bad | .dptr .. => .val a st | _ => .bad
def q_bin (op : BinOp) (t : TypeId) (x y : Operand) (_ : TypeId) : POp := fun T st => v1 st x fun a => v1 st y fun b => pbin T op t a b st
def q_un (op : UnOp) (_ : TypeId) (x : Operand) : POp := fun _ st => v1 st x fun a => pun op a st
def q_conv (s d : TypeId) (x : Operand) : POp := fun T st => v1 st x fun a => pconv T s d a st
def q_func (f : Fn) (a b : Array Operand) : POp := fun _ st => match pevs st a.toList, pevs st b.toList with | some x, some y => .val (.fn f x y) st | _, _ => .bad
def q_make (t : TypeId) (l c : Operand) : POp := fun T st => v1 st l fun a => v1 st c fun b => pmake T t a b st
def o1 (st : PSt) (x : Option Operand) (k : Option PV → PO) : PO := match x with | none => k none | some y => v1 st y fun v => k (some v)
def q_slice (t : TypeId) (x : Operand) (a b c : Option Operand) : POp := fun T st => v1 st x fun v => o1 st a fun l => o1 st b fun h => o1 st c fun m => pslice T t v l h m st
def q_faddr (t : TypeId) (x : Operand) (f : Nat) : POp := fun T st => v1 st x fun a => pfaddr T t a f st
def q_field (t : TypeId) (x : Operand) (f : Nat) : POp := fun T st => v1 st x fun a => pfield T t a f st
def q_iaddr (t : TypeId) (x i : Operand) : POp := fun T st => v1 st x fun a => v1 st i fun b => piaddr T t a b st
def q_index (t : TypeId) (x i : Operand) : POp := fun T st => v1 st x fun a => v1 st i fun b => pindex T t a b st
def q_extract (x : Operand) (i : Nat) : POp := fun _ st => v1 st x fun a => pextract a i st
def q_call (c : Call) : POp := fun T st =>
  match pevs st c.args.toList with
  | none => .bad
  | some args => match c.callee with
    | .builtin b => match b with
      | .delete => pdelete T c.argTypes args st
      | _ => pbuiltin T b c.argTypes args st
    | _ => .bad
def q_mkmap (t : TypeId) (r : Option Operand) : POp := fun T st => match r with | none => pmkmap T t st | some _ => .bad
def q_lookup (t : TypeId) (x i : Operand) (ok : Bool) : POp := fun T st => v1 st x fun a => v1 st i fun b => plookup T t a b ok st
def q_update (t : TypeId) (m k x : Operand) : POp := fun T st => v1 st m fun a => v1 st k fun b => v1 st x fun c => pupdate T t a b c st
def q_no : POp := fun _ _ => .bad
def pop (o : Op) : POp := @Op.casesOn (fun _ => POp) o q_move q_move q_pick q_alloc q_box q_build q_bslice q_update q_load q_store (fun _ => q_no) (fun _ => q_no) q_nilCheck q_bin q_un q_conv
  (fun _ _ => q_no) (fun _ _ => q_no) q_func q_mkmap (fun _ _ => q_no) q_make q_slice q_faddr q_field q_iaddr q_index q_lookup q_update (fun _ _ _ => q_no) (fun _ _ _ _ => q_no)
  (fun _ _ => q_no) (fun _ _ => q_no) (fun _ => q_no) (fun _ _ _ _ => q_no) q_extract q_call (fun _ => q_no) (fun _ => q_no) (fun _ => q_no) (fun _ _ => q_no) (fun _ _ _ => q_no) (fun _ _ => q_no)
end
end Go.Pe
end
section
/- The evaluator for inputs that are not known: regions, code, calls, loops. -/
namespace Go.Pe
open Go.Det
noncomputable section
/-! ### Contracts -/
/-- a list of shapes as one -/
@[reducible] def prodS : List Sh → Sh
  | [] => .unit
  | [a] => a
  | a :: b :: l => .pair a (prodS (b :: l))
/-- data as values -/
def valsOf : (l : List Sh) → (prodS l).T → List PV
  | [], _ => []
  | [a], x => [dats a x]
  | a :: b :: l, x => dats a x.1 :: valsOf (b :: l) x.2
/-- what a function does: its arguments' shapes, what they have to be, its results' shapes, its results (a list is one that nobody writes any more) -/
structure PSpec where
  ins : List Sh
  pre : (prodS ins).T → Bool
  outs : List Sh
  f : (prodS ins).T → (prodS outs).T
  /-- may there be more than one outcome (that is this) -/
  nd : Bool := false
/-- no lists in it -/
def Sh.sc : Sh → Bool
  | .int _ | .bool | .str | .unit => true
  | .list _ => false
  | .pair a b => a.sc && b.sc

structure PCtx where
  C : Ctx
  sp : FuncId → Option PSpec
  /-- the slots that are kept at the head of a loop: by function and the number of the loop's first region -/
  pl : FuncId → Nat → List Nat
  /-- where the ways are cut: by function and the number of the first region behind -/
  ct : FuncId → Nat → Bool

/-! ### Contracts applied -/
/-- an argument's cells, by value; a slice of the call's own is read, and is then written no more -/
def byVal (st : PSt) : PV → Option (Bool × PV)
  | .sl id sz off len _ => match st.obj id with
    | some (.arr _ _ s l) => bif Nat.beq sz s.sz then some (decide (off + len ≤ l.length), .dat (.list s) ((l.drop off).take len)) else none
    | _ => none
  | .dat s x => some (true, .dat s x)
  | .bl b => some (true, .bl b)
  | .nil => some (true, .nil)
  | _ => none
def byVals (st : PSt) : List PV → Option (Bool × List PV)
  | [] => some (true, [])
  | v :: vs => match byVal st v, byVals st vs with
    | some (c, x), some (d, xs) => some (c && d, x :: xs)
    | _, _ => none
def freeze1 (st : PSt) : PV → PSt
  | .sl id _ _ _ _ => match st.obj id with
    | some (.arr _ e s l) => st.setObj id (.arr true e s l)
    | _ => st
  | _ => st
def freezes : List PV → PSt → PSt
  | [], st => st
  | v :: vs, st => freezes vs (freeze1 st v)
/-- one value as data of a shape, and the condition under which it is -/
def argOf (st : PSt) (s : Sh) (p : PV) : Option (Bool × s.T) :=
  bif isAg p == s.isP then
    match byVals st p.cells with
    | some (c, cs) => match unflat1 s cs with
      | some x => some (c, x)
      | none => none
    | none => none
  else none
def argsOf (st : PSt) : (l : List Sh) → List PV → Option (Bool × (prodS l).T)
  | [], [] => some (true, ())
  | [a], [p] => argOf st a p
  | a :: b :: l, p :: ps => match argOf st a p, argsOf st (b :: l) ps with
    | some (c, x), some (d, y) => some (c && d, (x, y))
    | _, _ => none
  | _, _ => none
def one : List PV → PV
  | [v] => v
  | l => .tup l
def pspec (sp : PSpec) (args : List PV) (st : PSt) (k : PV → PSt → Tr) : Tr :=
  match argsOf st sp.ins args with
  | some (c, i) => .ite (c && sp.pre i) (k (one (valsOf sp.outs (sp.f i))) (bif sp.outs.all Sh.sc then st else freezes (args.flatMap PV.cells) st)) .fail
  | none => .fail

/-! ### Heads of loops: what is kept -/
mutual
def pids : PV → List Nat
  | .ptr id _ | .eptr id _ _ _ | .sl id _ _ _ _ | .mp id => [id]
  | .agg l | .tup l => pidss l
  | .fn _ a b => pidss a ++ pidss b
  | _ => []
def pidss : List PV → List Nat
  | [] => []
  | v :: vs => pids v ++ pidss vs
end
def oids : Obj → List Nat
  | .box cs => pidss cs
  | _ => []
/-- what is reached, in the order in which it is come to -/
def preach (st : PSt) (base : Nat) : Nat → List Nat → List Nat → List Nat
  | 0, _, acc => acc
  | _ + 1, [], acc => acc
  | f + 1, i :: is, acc => bif Nat.blt i base || acc.any (Nat.beq i) then preach st base f is acc
    else match st.obj i with
      | some o => preach st base f (is ++ oids o) (acc ++ [i])
      | none => preach st base f is acc
def renOf (base : Nat) : List Nat → Nat → Nat → Option Nat
  | [], _, i => bif Nat.blt i base then some i else none
  | j :: js, n, i => bif Nat.beq i j then some n else renOf base js (Nat.add n 1) i
mutual
def pren (f : Nat → Option Nat) : PV → PV
  | .ptr i o => match f i with | some j => .ptr j o | none => .any
  | .eptr i a b c => match f i with | some j => .eptr j a b c | none => .any
  | .sl i a b c d => match f i with | some j => .sl j a b c d | none => .any
  | .mp i => match f i with | some j => .mp j | none => .any
  | .agg l => .agg (prens f l)
  | .tup l => .tup (prens f l)
  | .fn g a b => .fn g (prens f a) (prens f b)
  | v => v
def prens (f : Nat → Option Nat) : List PV → List PV
  | [] => []
  | v :: vs => pren f v :: prens f vs
end
def oren (f : Nat → Option Nat) : Obj → Obj
  | .box cs => .box (prens f cs)
  | o => o
def low (f : Nat → Option Nat) (base : Nat) : Ob → Ob
  | [] => []
  | (i, o) :: l => bif Nat.blt i base then (i, oren f o) :: low f base l else low f base l
def kept (st : PSt) (f : Nat → Option Nat) : List Nat → Nat → Ob → Ob
  | [], _, acc => acc
  | j :: js, n, acc => match st.obj j with
    | some o => kept st f js (Nat.add n 1) ((n, oren f o) :: acc)
    | none => kept st f js (Nat.add n 1) acc
def ofSlots (vs : List (Nat × PV)) : PM PV := vs.foldl (fun m x => m.set x.1 (some x.2)) .leaf
def mkSt (n : Nat) (vs : List (Nat × PV)) (ob : Ob) (nx : Nat) : PSt := ⟨n, ofSlots vs, ob, nx⟩
def canon (base : Nat) (L : List Nat) (st : PSt) : PSt :=
  let vs := L.map fun t => (t, st.get t)
  let ids := preach st base 100 (pidss (vs.map (·.2))) []
  let f := renOf base ids base
  mkSt st.n (vs.map fun x => (x.1, pren f x.2)) (kept st f ids base (low f base st.ob)) (Nat.add base ids.length)
def firstReg : Code → Nat
  | .region id _ _ => id
  | .seq a _ => firstReg a
  | .block _ b => firstReg b
  | .loop b => firstReg b
  | .scope b => firstReg b
  | _ => 0

/-! ### Regions -/
/-- how a function is called: its number, arguments, the state -/
abbrev PCall := FuncId → List PV → PSt → (PV → PSt → Tr) → Tr
def runPO (d : Option Nat) (k : PSt → Tr) : PO → Tr
  | .bad => .fail
  | .val v st => match st.put d v with
    | some st' => k st'
    | none => .fail
  | .ite c a b => .ite c (runPO d k a) (runPO d k b)
/-- a call of a Go function: of which one, with which arguments -/
inductive CK where
  | no
  | bad
  | yes (g : FuncId) (args : List PV)
def callOf (st : PSt) (o : Op) : CK :=
  match o with
  | .call c => match c.callee with
    | .value f => match pev st f, pevs st c.args.toList with
      | some (.fn (.func g) first cap), some args => .yes g (first ++ args ++ cap)
      | _, _ => .bad
    | _ => .no
  | _ => .no
def stepOp (T : Tab) (call : PCall) (o : Oper) (st : PSt) (k : PSt → Tr) : Tr :=
  match callOf st o.op with
  | .yes g args => call g args st fun v st => match st.put o.dst v with
    | some st' => k st'
    | none => .fail
  | .bad => .fail
  | .no => runPO o.dst k (pop o.op T st)
/-- an operation under its guard -/
def guarded (ops : Array Oper) (o : Oper) (st : PSt) (yes no : PSt → Tr) : Tr :=
  match o.guard with
  | none => yes st
  | some (j, want) => match (ops[j]?).bind (·.dst) with
    | some t => bif Nat.blt t st.n then (match st.get t with
      | .bl b => bif b == want then yes st else no st
      | .dat .bool b => bif want then .ite b (yes (st.set t (.bl true))) (no (st.set t (.bl false))) else .ite b (no (st.set t (.bl true))) (yes (st.set t (.bl false)))
      | .tup _ => no st
      | _ => .fail) else .fail
    | none => .fail
def skipOp (o : Oper) (k : PSt → Tr) (st : PSt) : Tr :=
  match st.put o.dst (.tup []) with
  | some st' => k st'
  | none => .fail
def prun (T : Tab) (call : PCall) (ops : Array Oper) : List Oper → PSt → (PSt → Tr) → Tr
  | [], st, k => k st
  | o :: rest, st, k => guarded ops o st
      (fun st => stepOp T call o st fun st' => prun T call ops rest st' k)
      (fun st => skipOp o (fun st' => prun T call ops rest st' k) st)

/-! regions whose order is drawn: in the plan's order -/
/-- the object that a load looks into; none: more than is known -/
def rdId (st : PSt) (o : Op) : Option (List Nat) :=
  match o with
  | .load _ x => match pev st x with
    | some (.ptr id _) | some (.eptr id _ _ _) => some [id]
    | some (.dptr _ _ _) => some []
    | _ => none
  | .convert _ _ x => match pev st x with
    | some (.dat (.int _) _) | some (.dat .str _) => some []
    | _ => none
  | .call c => match c.callee, pevs st c.args.toList with
    | .builtin .len, some [.dat _ _] | .builtin .len, some [.sl _ _ _ _ _] | .builtin .len, some [.nil] => some []
    | .builtin .len, some [.mp id] => some [id]
    | _, _ => none
  | .lookup _ x _ _ => match pev st x with
    | some (.mp id) => some [id]
    | some .nilm => some []
    | _ => none
  | _ => none
/-- the objects that a heavy operation touches; none: more than is known -/
def hvIds (sp : FuncId → Option PSpec) (st : PSt) (o : Op) : Option (List Nat) :=
  match o with
  | .store _ x _ => match pev st x with
    | some (.ptr id _) | some (.eptr id _ _ _) => some [id]
    | _ => none
  | .mapUpdate _ x _ _ | .insert _ x _ _ => match pev st x with
    | some (.mp id) => some [id]
    | _ => none
  | .makeMap _ _ | .makeSlice _ _ _ => some []
  | .call c => match c.callee with
    | .value f => match pev st f with
      | some (.fn (.func g) _ _) => match sp g with
        | some _ => some []
        | none => none
      | _ => none
    | .builtin .append => match pevs st c.args.toList with
      | some (.sl id _ _ _ _ :: _) => some [id]
      | some _ => some []
      | none => none
    | .builtin .delete => match pevs st c.args.toList with
      | some (.mp id :: _) => some [id]
      | _ => none
    | _ => none
  | _ => none
/-- a load behind which nothing may touch its objects: the operation, the objects -/
abbrev Rs := List (Nat × Option (List Nat))
def disj : Option (List Nat) → Option (List Nat) → Bool
  | some a, some b => a.all fun i => !(b.any (Nat.beq i))
  | some [], none => true
  | _, _ => false
def liveIds (st : PSt) : Option (List Nat) → Bool
  | some l => l.all fun i => isS (st.obj i)
  | none => false
def apart (anc : Nat → Nat → Bool) (i : Nat) (st : PSt) (t : Option (List Nat)) (rs : Rs) : Bool := rs.all fun r => anc i r.1 || (disj r.2 t && liveIds st r.2)
/-- behind a heavy operation: of what it may have changed nothing more is said -/
def behind (st : PSt) (t : Option (List Nat)) (rs : Rs) : Rs := rs.map fun r => bif disj r.2 t && liveIds st r.2 then r else (r.1, none)
def pdraw (T : Tab) (sp : FuncId → Option PSpec) (call : PCall) (ops : Array Oper) (anc : Nat → Nat → Bool) : List Nat → PSt → Rs → (PSt → Tr) → Tr
  | [], st, _, k => k st
  | i :: is, st, rs, k => match ops[i]? with
    | none => .fail
    | some o => guarded ops o st
        (fun st => bif isRd o then stepOp T call o st (fun st' => pdraw T sp call ops anc is st' (bif isHd o then (i, rdId st o.op) :: rs else rs) k)
          else bif isAl o then stepOp T call o st (fun st' => pdraw T sp call ops anc is st' rs k)
          else bif apart anc i st (hvIds sp st o.op) rs then stepOp T call o st (fun st' => pdraw T sp call ops anc is st' (behind st (hvIds sp st o.op) rs) k) else .fail)
        (fun st => bif isHv o then (bif apart anc i st (some []) rs then skipOp o (fun st' => pdraw T sp call ops anc is st' (behind st (some []) rs) k) st else .fail)
          else skipOp o (fun st' => pdraw T sp call ops anc is st' rs k) st)

/-! ### Code -/
def exec (X : PCtx) (call callD : PCall) (nd : Bool) (d : Nat) (f : FuncId) (base : Nat) : Code → PSt → (DX → PSt → Tr) → Tr
  | .skip, st, k | .label _, st, k => k .normal st
  | .region _ ops dr, st, k => bif dr then pdraw X.C.T X.sp callD ops (mkPlan ops).a (mkPlan ops).ord st [] (k .normal) else prun X.C.T call ops ops.toList st (k .normal)
  | .seq a b, st, k => exec X call callD nd d f base a st fun e st' => match e with
    | .normal => bif X.ct f (firstReg b) then .cut nd d f base b (canon base (X.pl f (firstReg b)) st') k else exec X call callD nd d f base b st' k
    | e => k e st'
  | .cond x a b, st, k => match pev st x with
    | some (.bl t) => bif t then exec X call callD nd d f base a st k else exec X call callD nd d f base b st k
    | some (.dat .bool t) => match x with
      | .tmp s => .ite t (exec X call callD nd d f base a (st.set s (.bl true)) k) (exec X call callD nd d f base b (st.set s (.bl false)) k)
      | _ => .ite t (exec X call callD nd d f base a st k) (exec X call callD nd d f base b st k)
    | _ => .fail
  | .block id b, st, k => exec X call callD nd d f base b st fun e st' => match e with
    | .exit i => bif Nat.beq i id then k .normal st' else k e st'
    | e => k e st'
  | .loop b, st, k => .loop nd d f base b (canon base (X.pl f (firstReg b)) st) k
  | .exit i, st, k => k (.exit i) st
  | .ret, st, k => k .ret st
  | .scope b, st, k => exec X call callD nd d f base b st k
  | _, _, _ => .fail

def pres1 (T : Tab) (st : PSt) : ResultVar → Option PV
  | .tmp t => some (st.get t)
  | .cell a t => match pload T st t (st.get a) with
    | .val v _ => some v
    | _ => none
def pres (T : Tab) (st : PSt) : List ResultVar → Option (List PV)
  | [] => some []
  | r :: rs => match pres1 T st r, pres T st rs with
    | some v, some vs => some (v :: vs)
    | _, _ => none
def argSlots : List PV → Nat → List (Nat × PV)
  | [], _ => []
  | v :: vs, i => (i, v) :: argSlots vs (Nat.add i 1)
/-- into a function's body -/
def enter (X : PCtx) (call callD : PCall) (nd : Bool) (d : Nat) (f : FuncId) (args : List PV) (st : PSt) (k : PV → PSt → Tr) : Tr :=
  match X.C.fn f with
  | none => .fail
  | some i => bif i.cert then
      exec X call callD nd d f st.nx i.body (mkSt (Nat.add args.length (Nat.sub i.ntmps args.length)) (argSlots args 0) st.ob st.nx) fun e s => match e with
        | .exit _ => .fail
        | _ => match pres X.C.T s i.results.toList with
          | some vs => k (one vs) ⟨st.n, st.fr, s.ob, s.nx⟩
          | none => .fail
    else .fail
/-- a call; nd: may there be more than one outcome -/
def pcall (X : PCtx) (nd : Bool) : Nat → PCall
  | 0 => fun _ _ _ _ => .fail
  | d + 1 => fun g args st k =>
    match X.sp g with
    | some sp => bif nd || !sp.nd then pspec sp args st k else .fail
    | none => match X.C.prim g, X.C.spec g with
      | none, none => enter X (pcall X nd d) (pcall X false d) nd d g args st k
      | _, _ => .fail
/-- the tree of a call of f -/
def tree (X : PCtx) (nd : Bool) (d : Nat) (f : FuncId) (args : List PV) : Tr :=
  enter X (pcall X nd d) (pcall X false d) nd d f args (mkSt 0 [] [] 0) fun v st => .leaf v st.ob

/-- a loop's body behind its head -/
def body (X : PCtx) (nd : Bool) (d : Nat) (f : FuncId) (base : Nat) (b : Code) (st : PSt) (k : DX → PSt → Tr) : Tr :=
  exec X (pcall X nd d) (pcall X false d) nd d f base b st fun e st' => match e with
    | .normal => .loop nd d f base b (canon base (X.pl f (firstReg b)) st') k
    | e => k e st'
/-- the code behind a cut -/
def cutB (X : PCtx) (nd : Bool) (d : Nat) (f : FuncId) (base : Nat) (b : Code) (st : PSt) (k : DX → PSt → Tr) : Tr := exec X (pcall X nd d) (pcall X false d) nd d f base b st k
/-- all that a tree comes to is so; n: its height -/
inductive Ev (X : PCtx) (Q : PV → Ob → Prop) : Nat → Tr → Prop where
  | leaf {n : Nat} {v : PV} {ob : Ob} : Q v ob → Ev X Q n (.leaf v ob)
  | ite {n : Nat} {c : Bool} {a b : Tr} : (c = true → Ev X Q n a) → (c = false → Ev X Q n b) → Ev X Q n (.ite c a b)
  | cut {n : Nat} {nd : Bool} {d : Nat} {f : FuncId} {base : Nat} {b : Code} {st : PSt} {k : DX → PSt → Tr} : Ev X Q n (cutB X nd d f base b st k) → Ev X Q n (.cut nd d f base b st k)
  | alts {n m : Nat} {f : Nat → Tr} : (∀ i, i < m → Ev X Q n (f i)) → Ev X Q n (.alts m f)
  | loop {n : Nat} {nd : Bool} {d : Nat} {f : FuncId} {base : Nat} {b : Code} {st : PSt} {k : DX → PSt → Tr} : Ev X Q n (body X nd d f base b st k) → Ev X Q (n + 1) (.loop nd d f base b st k)
end
end Go.Pe
end
section
/- How the two evaluators' states stand for each other. -/
namespace Go.Pe
open Go.Det
/-- blocks that nobody writes any more, with their cells -/
abbrev Fz := Nat → Option (List V)
/-- objects: their blocks, and how many elements these have -/
abbrev Rho := Nat → Option (Nat × Nat)

def DC (F : Fz) : (s : Sh) → s.T → List V → Prop
  | .int k, x, cs => cs = [.int k x]
  | .bool, x, cs => cs = [.bool x]
  | .str, x, cs => cs = [.str x]
  | .list s, l, cs => ∃ v, cs = [v] ∧ ((l = [] ∧ (v = .nils ∨ v = .esl)) ∨
      ∃ b off cap o bs, v = .sl b off l.length cap o ∧ l.length ≤ cap ∧ F b = some bs ∧ off + l.length * s.sz ≤ bs.length ∧ (o = 0 ∨ o = s.sz) ∧
        ∀ i (h : i < l.length), DC F s l[i] ((bs.drop (off + i * s.sz)).take s.sz))
  | .pair a b, x, cs => ∃ c d, cs = c ++ d ∧ DC F a x.1 c ∧ DC F b x.2 d
  | .unit, _, cs => cs = []

theorem DC.len {F : Fz} : ∀ {s : Sh} {x : s.T} {cs : List V}, DC F s x cs → cs.length = s.sz
  | .int _, _, _, h => by simp only [DC] at h; subst h; rfl
  | .bool, _, _, h => by simp only [DC] at h; subst h; rfl
  | .str, _, _, h => by simp only [DC] at h; subst h; rfl
  | .list _, _, _, h => by simp only [DC] at h; obtain ⟨v, rfl, _⟩ := h; rfl
  | .pair a b, x, _, h => by
    simp only [DC] at h
    obtain ⟨c, d, rfl, h1, h2⟩ := h
    rw [List.length_append, h1.len, h2.len]; rfl
  | .unit, _, _, h => by simp only [DC] at h; subst h; rfl
theorem DC.mono {F F' : Fz} (hF : ∀ b cs, F b = some cs → F' b = some cs) : ∀ {s : Sh} {x : s.T} {cs : List V}, DC F s x cs → DC F' s x cs
  | .int _, _, _, h => by simpa only [DC] using h
  | .bool, _, _, h => by simpa only [DC] using h
  | .str, _, _, h => by simpa only [DC] using h
  | .list s, l, _, h => by
    simp only [DC] at h ⊢
    obtain ⟨v, rfl, h⟩ := h
    refine ⟨v, rfl, ?_⟩
    rcases h with h | ⟨b, off, cap, o, bs, h1, h2, h3, h4, h5, h6⟩
    · exact .inl h
    · exact .inr ⟨b, off, cap, o, bs, h1, h2, hF _ _ h3, h4, h5, fun i hi => (h6 i hi).mono hF⟩
  | .pair a b, x, _, h => by
    simp only [DC] at h ⊢
    obtain ⟨c, d, rfl, h1, h2⟩ := h
    exact ⟨c, d, rfl, h1.mono hF, h2.mono hF⟩
  | .unit, _, _, h => by simpa only [DC] using h

mutual
def PR (F : Fz) (ρ : Rho) (N : Nat) : PV → V → Prop
  | .any, _ => True
  | .bl b, v => v = .bool b
  | .dat s x, v => DC F s x [v]
  | .nil, v => v = .nils
  | .nilp, v => v = .nilp
  | .nilm, v => v = .nilm
  | .nilf, v => v = .nilf
  | .nili, v => v = .nili
  | .agg l, v => ∃ cs, v = .agg cs ∧ PRs F ρ N l cs
  | .tup l, v => ∃ cs, v = .tup cs ∧ PRs F ρ N l cs
  | .ptr id off, v => id < N ∧ ∀ b n, ρ id = some (b, n) → v = .ptr b off
  | .eptr id sz i off, v => id < N ∧ ∀ b n, ρ id = some (b, n) → v = .ptr b (i * sz + off)
  | .dptr s x off, v => ∃ b o cs, v = .ptr b (o + off) ∧ F b = some cs ∧ o + s.sz ≤ cs.length ∧ DC F s x ((cs.drop o).take s.sz)
  | .sl id sz off len cap, v => id < N ∧ ∀ b n, ρ id = some (b, n) →
      (len ≤ cap.getD len ∧ off + cap.getD len ≤ n ∧ ∃ o, (o = 0 ∨ o = sz) ∧ v = .sl b (off * sz) len (cap.getD len) o) ∨
      (len = 0 ∧ cap = some 0 ∧ off ≤ n ∧ (v = .esl ∨ ∃ off', v = .sl b off' 0 0 0 ∧ off' ≤ off * sz))
  | .mp id, v => id < N ∧ ∀ b n, ρ id = some (b, n) → v = .map b
  | .fn f first captured, v => ∃ a b, v = .fn f a b ∧ PRs F ρ N first a ∧ PRs F ρ N captured b
def PRs (F : Fz) (ρ : Rho) (N : Nat) : List PV → List V → Prop
  | [], l => l = []
  | p :: ps, l => ∃ v vs, l = v :: vs ∧ PR F ρ N p v ∧ PRs F ρ N ps vs
end
section
variable {F F' : Fz} {ρ ρ' : Rho} {N N' : Nat}
@[simp] theorem PRs_nil (l : List V) : PRs F ρ N [] l ↔ l = [] := by simp [PRs]
@[simp] theorem PRs_cons (p : PV) (ps : List PV) (v : V) (vs : List V) : PRs F ρ N (p :: ps) (v :: vs) ↔ PR F ρ N p v ∧ PRs F ρ N ps vs := by
  simp only [PRs]; constructor
  · rintro ⟨_, _, h, h1, h2⟩; cases h; exact ⟨h1, h2⟩
  · rintro ⟨h1, h2⟩; exact ⟨v, vs, rfl, h1, h2⟩
theorem PRs.len : ∀ {ps : List PV} {vs : List V}, PRs F ρ N ps vs → ps.length = vs.length
  | [], vs, h => by simp at h; simp [h]
  | p :: ps, vs, h => by
    simp only [PRs] at h
    obtain ⟨v, vs, rfl, _, h2⟩ := h
    simp [h2.len]
theorem PRs.append : ∀ {a : List PV} {x : List V} {b : List PV} {y : List V}, PRs F ρ N a x → PRs F ρ N b y → PRs F ρ N (a ++ b) (x ++ y)
  | [], x, b, y, h, h' => by simp at h; subst h; simpa using h'
  | p :: ps, x, b, y, h, h' => by
    simp only [PRs] at h
    obtain ⟨v, vs, rfl, h1, h2⟩ := h
    simp only [List.cons_append, PRs_cons]
    exact ⟨h1, h2.append h'⟩
theorem PRs.drop : ∀ {a : List PV} {x : List V} (n : Nat), PRs F ρ N a x → PRs F ρ N (a.drop n) (x.drop n)
  | [], x, n, h => by simp at h; subst h; simp
  | p :: ps, x, 0, h => by simpa using h
  | p :: ps, x, n + 1, h => by
    simp only [PRs] at h
    obtain ⟨v, vs, rfl, h1, h2⟩ := h
    simpa using h2.drop n
theorem PRs.take : ∀ {a : List PV} {x : List V} (n : Nat), PRs F ρ N a x → PRs F ρ N (a.take n) (x.take n)
  | [], x, n, h => by simp at h; subst h; simp
  | p :: ps, x, 0, h => by simp
  | p :: ps, x, n + 1, h => by
    simp only [PRs] at h
    obtain ⟨v, vs, rfl, h1, h2⟩ := h
    simpa using ⟨h1, h2.take n⟩
theorem PRs.get : ∀ {a : List PV} {x : List V}, PRs F ρ N a x → ∀ {i : Nat} {p : PV}, a[i]? = some p → ∃ v, x[i]? = some v ∧ PR F ρ N p v
  | [], x, h, i, p, hp => by simp at hp
  | q :: ps, x, h, i, p, hp => by
    simp only [PRs] at h
    obtain ⟨v, vs, rfl, h1, h2⟩ := h
    cases i with
    | zero => simp at hp; subst hp; exact ⟨v, rfl, h1⟩
    | succ i => simp at hp; simpa using h2.get hp

/-- from one relation to a later one: no object lies elsewhere -/
structure Le (F : Fz) (ρ : Rho) (N : Nat) (F' : Fz) (ρ' : Rho) (N' : Nat) : Prop where
  fz : ∀ b cs, F b = some cs → F' b = some cs
  rho : ∀ id, id < N → ρ' id = ρ id ∨ ρ' id = none
  n : N ≤ N'
theorem Le.refl : Le F ρ N F ρ N := ⟨fun _ _ h => h, fun _ _ => .inl rfl, Nat.le_refl _⟩
theorem Le.trans {F'' : Fz} {ρ'' : Rho} {N'' : Nat} (a : Le F ρ N F' ρ' N') (b : Le F' ρ' N' F'' ρ'' N'') : Le F ρ N F'' ρ'' N'' :=
  ⟨fun c cs h => b.fz c cs (a.fz c cs h), fun id h => by
    rcases b.rho id (Nat.lt_of_lt_of_le h a.n) with e | e
    · rw [e]; exact a.rho id h
    · exact .inr e, Nat.le_trans a.n b.n⟩
theorem Le.at (hl : Le F ρ N F' ρ' N') {id : Nat} (h : id < N) {x : Nat × Nat} (hx : ρ' id = some x) : ρ id = some x := by
  rcases hl.rho id h with e | e
  · rw [← e]; exact hx
  · rw [e] at hx; cases hx
mutual
theorem PR.mono (hl : Le F ρ N F' ρ' N') : ∀ {p : PV} {v : V}, PR F ρ N p v → PR F' ρ' N' p v
  | .any, _, _ => by simp [PR]
  | .bl _, _, h => by simpa only [PR] using h
  | .dat s x, _, h => by simp only [PR] at h ⊢; exact h.mono hl.fz
  | .nil, _, h | .nilp, _, h | .nilm, _, h | .nilf, _, h | .nili, _, h => by simpa only [PR] using h
  | .agg l, _, h => by simp only [PR] at h ⊢; obtain ⟨cs, rfl, h1⟩ := h; exact ⟨cs, rfl, h1.mono hl⟩
  | .tup l, _, h => by simp only [PR] at h ⊢; obtain ⟨cs, rfl, h1⟩ := h; exact ⟨cs, rfl, h1.mono hl⟩
  | .ptr _ _, _, h => by simp only [PR] at h ⊢; exact ⟨Nat.lt_of_lt_of_le h.1 hl.n, fun b n hb => h.2 b n (hl.at h.1 hb)⟩
  | .eptr _ _ _ _, _, h => by simp only [PR] at h ⊢; exact ⟨Nat.lt_of_lt_of_le h.1 hl.n, fun b n hb => h.2 b n (hl.at h.1 hb)⟩
  | .dptr s x off, _, h => by
    simp only [PR] at h ⊢
    obtain ⟨b, o, cs, h1, h2, h3, h4⟩ := h
    exact ⟨b, o, cs, h1, hl.fz _ _ h2, h3, h4.mono hl.fz⟩
  | .sl _ _ _ _ _, _, h => by simp only [PR] at h ⊢; exact ⟨Nat.lt_of_lt_of_le h.1 hl.n, fun b n hb => h.2 b n (hl.at h.1 hb)⟩
  | .mp _, _, h => by simp only [PR] at h ⊢; exact ⟨Nat.lt_of_lt_of_le h.1 hl.n, fun b n hb => h.2 b n (hl.at h.1 hb)⟩
  | .fn f a b, _, h => by
    simp only [PR] at h ⊢
    obtain ⟨x, y, rfl, h1, h2⟩ := h
    exact ⟨x, y, rfl, h1.mono hl, h2.mono hl⟩
theorem PRs.mono (hl : Le F ρ N F' ρ' N') : ∀ {ps : List PV} {vs : List V}, PRs F ρ N ps vs → PRs F' ρ' N' ps vs
  | [], _, h => by simpa using h
  | p :: ps, _, h => by
    simp only [PRs] at h ⊢
    obtain ⟨v, vs, rfl, h1, h2⟩ := h
    exact ⟨v, vs, rfl, h1.mono hl, h2.mono hl⟩
end

/-- the elements of an array in its cells -/
def DCL (F : Fz) (s : Sh) (l : List s.T) (cs : List V) : Prop := cs.length = l.length * s.sz ∧ ∀ i (h : i < l.length), DC F s l[i] ((cs.drop (i * s.sz)).take s.sz)
theorem DCL.mono (hF : ∀ b cs, F b = some cs → F' b = some cs) {s : Sh} {l : List s.T} {cs : List V} (h : DCL F s l cs) : DCL F' s l cs := ⟨h.1, fun i hi => (h.2 i hi).mono hF⟩
/-- data in one value -/
def DV (F : Fz) (s : Sh) (x : s.T) (v : V) : Prop := (s.isP = true → ∃ cs, v = .agg cs ∧ DC F s x cs) ∧ (s.isP = false → DC F s x [v])
theorem DV.mono (hF : ∀ b cs, F b = some cs → F' b = some cs) {s : Sh} {x : s.T} {v : V} (h : DV F s x v) : DV F' s x v :=
  ⟨fun e => by obtain ⟨cs, h1, h2⟩ := h.1 e; exact ⟨cs, h1, h2.mono hF⟩, fun e => (h.2 e).mono hF⟩
/-- entries of a map -/
inductive MR (F : Fz) (ks vs : Sh) : List (ks.T × vs.T) → List (V × V × Nat) → Prop where
  | nil : MR F ks vs [] []
  | cons {k : ks.T} {v : vs.T} {l : List (ks.T × vs.T)} {a b : V} {n : Nat} {es : List (V × V × Nat)} : DV F ks k a → DV F vs v b → MR F ks vs l es → MR F ks vs ((k, v) :: l) ((a, b, n) :: es)
theorem MR.mono (hF : ∀ b cs, F b = some cs → F' b = some cs) {ks vs : Sh} {l : List (ks.T × vs.T)} {es : List (V × V × Nat)} (h : MR F ks vs l es) : MR F' ks vs l es := by
  induction h with
  | nil => exact .nil
  | cons h1 h2 _ ih => exact .cons (h1.mono hF) (h2.mono hF) ih

def ObR (F : Fz) (ρ : Rho) (N n : Nat) : Obj → O → Prop
  | .arr _ e s l, o => ∃ cs fz, o = .cells cs e fz ∧ DCL F s l cs ∧ fz.2 ≤ fz.1 ∧ l.length = n
  | .box ps, o => ∃ cs t fz, o = .cells cs t fz ∧ PRs F ρ N ps cs ∧ fz.2 ≤ fz.1
  | .map ks vs l, o => ∃ es clk, o = .map es clk ∧ MR F ks vs l es
  | .siter s pos, o => o = .siter s pos
theorem ObR.mono (hl : Le F ρ N F' ρ' N') {n : Nat} {x : Obj} {o : O} (h : ObR F ρ N n x o) : ObR F' ρ' N' n x o := by
  cases x with
  | arr fz e s l => obtain ⟨cs, f, h1, h2, h3⟩ := h; exact ⟨cs, f, h1, h2.mono hl.fz, h3⟩
  | box ps => obtain ⟨cs, t, f, h1, h2, h3⟩ := h; exact ⟨cs, t, f, h1, h2.mono hl, h3⟩
  | map ks vs l => obtain ⟨es, clk, h1, h2⟩ := h; exact ⟨es, clk, h1, h2.mono hl.fz⟩
  | siter s pos => exact h
def Obj.frozen : Obj → Bool
  | .arr fz _ _ _ => fz
  | _ => false

/-- the memory at the start, and its blocks that nobody writes -/
structure H0 where
  h : H
  F : Fz
/-- the objects lie in the memory; blocks below B are as they were at the start -/
structure SR (B : Nat) (h0 : H0) (F : Fz) (ρ : Rho) (N : Nat) (ob : Ob) (h : H) : Prop where
  obj : ∀ id o, obGet ob id = some o → ∃ b n x, ρ id = some (b, n) ∧ h.get b = some x ∧ ObR F ρ N n o x ∧ (o.frozen = false → F b = none) ∧
    (o.frozen = true → ∃ cs t fz, x = .cells cs t fz ∧ F b = some cs)
  inj : ∀ id id' o o' b n n', obGet ob id = some o → obGet ob id' = some o' → ρ id = some (b, n) → ρ id' = some (b, n') → id = id'
  frz : ∀ b cs, F b = some cs → ∃ t fz, h.get b = some (.cells cs t fz)
  own : ∀ id b n, ρ id = some (b, n) → id < N ∧ B ≤ b
  dead : ∀ id, obGet ob id = none → ρ id = none
  old : ∀ b, b < B → h.get b = h0.h.get b
  lt : ∀ b o, h.get b = some o → b < h.nx
  le : B ≤ h.nx
  fo : ∀ b cs, F b = some cs → h0.F b = some cs ∨ B ≤ b
structure FP (F : Fz) (ρ : Rho) (N : Nat) (st : PSt) (fr : Fr) : Prop where
  n : st.n = fr.n
  slot : ∀ t, PR F ρ N (st.get t) (fr.get t)
theorem FP.mono (hl : Le F ρ N F' ρ' N') {st : PSt} {fr : Fr} (h : FP F ρ N st fr) : FP F' ρ' N' st fr := ⟨h.n, fun t => (h.slot t).mono hl⟩
end
end Go.Pe
end
