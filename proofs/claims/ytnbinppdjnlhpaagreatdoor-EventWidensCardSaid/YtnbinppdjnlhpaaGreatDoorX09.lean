import Derived.Test.YtnbinppdjnlhpaaGreatDoorX08
/- A part of the proofs of the laws of one chapter (no law is stated here). Made by program out of texts by AI agents. -/
section
namespace Go.Pe
open Go.Det
noncomputable section
mutual
def cvp : Value → Option PV
  | .bool b => some (.bl b)
  | .int k n => some (.dat (.int k) n)
  | .string s => some (.dat .str s.data.toList)
  | .pointer none => some .nilp
  | .slice none 0 0 => some .nil
  | .map none => some .nilm
  | .nilFunc => some .nilf
  | .nilIface => some .nili
  | .func f ⟨[]⟩ ⟨[]⟩ => some (.fn f [] [])
  | .agg ⟨cs⟩ => (cvps cs).map .agg
  | .tuple ⟨cs⟩ => (cvps cs).map .tup
  | _ => none
def cvps : List Value → Option (List PV)
  | [] => some []
  | v :: vs => match cvp v, cvps vs with
    | some x, some xs => some (x :: xs)
    | _, _ => none
end
/-- a known value -/
def ofV : V → PV
  | .bool b => .bl b
  | .int k n => .dat (.int k) n
  | .str s => .dat .str s
  | .nilp => .nilp
  | .nils => .nil
  | .nilm => .nilm
  | .nilf => .nilf
  | .nili => .nili
  | _ => .any
def pev (st : PSt) : Operand → Option PV
  | .tmp t => some (st.get t)
  | .const v => cvp v
  | .global _ => none
  | .func f => some (.fn (.func f) [] [])
def pevs (st : PSt) : List Operand → Option (List PV)
  | [] => some []
  | x :: xs => match pev st x, pevs st xs with
    | some v, some vs => some (v :: vs)
    | _, _ => none
def pevp (st : PSt) : List (Nat × Operand) → Option (List (Nat × PV))
  | [] => some []
  | (i, x) :: xs => match pev st x, pevp st xs with
    | some v, some vs => some ((i, v) :: vs)
    | _, _ => none
def pcells (T : Tab) (t : TypeId) : Option (List PV) := (T.inf t).bind fun i => bif lall V.ok i.zero then some (i.zero.map ofV) else none
/-- the value in these cells -/
def pick (d : TypeDesc) (n : Nat) (cs : List PV) : Option PV :=
  bif isAggD d then (bif Nat.ble n (llen cs) && Nat.blt 0 n then some (.agg (ltake n cs)) else none)
  else match cs with
    | v :: _ => some v
    | [] => none
def ov (st : PSt) : Option PV → PO
  | some v => .val v st
  | none => .bad
def ovc (c : Bool) (st : PSt) : Option PV → PO
  | some v => .chk c v st
  | none => .bad
def pload (T : Tab) (st : PSt) (t : TypeId) (a : PV) : PO :=
  match T.und t, T.inf t with
  | some d, some i => match a with
    | .ptr id off => match st.obj id with
      | some (.box cs) => ov st (pick d i.size (ldrop off cs))
      | _ => .bad
    | .eptr id sz j off => match st.obj id with
      | some (.arr _ _ s l) => bif Nat.beq sz s.sz then ovc (decide (j < l.length)) st (pick d i.size (ldrop off (flat s (l.getD j s.dflt)))) else .bad
      | _ => .bad
    | .dptr s x off => ov st (pick d i.size (ldrop off (flat s x)))
    | _ => .bad
  | _, _ => .bad
def isS : Option Obj → Bool
  | some _ => true
  | none => false
/-- a value of one cell, known so far -/
def solid (st : PSt) : PV → Bool
  | .agg _ | .tup _ | .any | .ub => false
  | .ptr id _ | .eptr id _ _ _ | .sl id _ _ _ _ | .mp id | .yl id => isS (st.obj id)
  | _ => true
/-- a value's cells -/
def pcs (st : PSt) : PV → Option (List PV)
  | .agg l => some l
  | p => bif solid st p then some [p] else none
def pstore (T : Tab) (st : PSt) (t : TypeId) (a x : PV) : PO :=
  match T.inf t, pcs st x with
  | some i, some xs => bif Nat.beq (llen xs) i.size && lall (solid st) xs then
      match a with
      | .ptr id off => match st.obj id with
        | some (.box cs) => bif Nat.ble (Nat.add off i.size) (llen cs) then .val (.tup []) (st.setObj id (.box (lput off xs cs))) else .bad
        | _ => .bad
      | .eptr id sz j off => match st.obj id with
        | some (.arr false e s l) => bif Nat.beq sz s.sz && Nat.ble (Nat.add off i.size) sz then
            match unflat1 s (lput off xs (flat s (l.getD j s.dflt))) with
            | some y => .chk (decide (j < l.length)) (.tup []) (st.setObj id (.arr false e s (l.set j y)))
            | none => .bad
          else .bad
        | _ => .bad
      | _ => .bad
    else .bad
  | _, _ => .bad
def iand (k : IntKind) (a b : Int) : Int := k.wrap (BitVec.ofInt k.bits a &&& BitVec.ofInt k.bits b).toNat
def ior (k : IntKind) (a b : Int) : Int := k.wrap (BitVec.ofInt k.bits a ||| BitVec.ofInt k.bits b).toNat
def ixor (k : IntKind) (a b : Int) : Int := k.wrap (BitVec.ofInt k.bits a ^^^ BitVec.ofInt k.bits b).toNat
def iandn (k : IntKind) (a b : Int) : Int := k.wrap (BitVec.ofInt k.bits a &&& ~~~BitVec.ofInt k.bits b).toNat
def pint (op : BinOp) (k : IntKind) (a b : Int) (st : PSt) : PO :=
  match op with
  | .add => .val (.dat (.int k) (k.wrap (a + b))) st
  | .sub => .val (.dat (.int k) (k.wrap (a - b))) st
  | .mul => .val (.dat (.int k) (k.wrap (a * b))) st
  | .quo => .chk (decide (b ≠ 0)) (.dat (.int k) (k.wrap (a.tdiv b))) st
  | .rem => .chk (decide (b ≠ 0)) (.dat (.int k) (a.tmod b)) st
  | .and => .val (.dat (.int k) (iand k a b)) st
  | .or => .val (.dat (.int k) (ior k a b)) st
  | .xor => .val (.dat (.int k) (ixor k a b)) st
  | .andNot => .val (.dat (.int k) (iandn k a b)) st
  | .eql => .val (.dat .bool (a == b)) st
  | .neq => .val (.dat .bool (a != b)) st
  | .lss => .val (.dat .bool (decide (a < b))) st
  | .leq => .val (.dat .bool (decide (a ≤ b))) st
  | .gtr => .val (.dat .bool (decide (a > b))) st
  | .geq => .val (.dat .bool (decide (a ≥ b))) st
  | _ => .bad
def psh (op : BinOp) (k : IntKind) (a b : Int) (st : PSt) : PO :=
  match op with
  | .shl => .chk (decide (0 ≤ b)) (.dat (.int k) (k.wrap (a * 2 ^ (min b.toNat k.bits)))) st
  | .shr => .chk (decide (0 ≤ b)) (.dat (.int k) (a.fdiv (2 ^ (min b.toNat k.bits)))) st
  | _ => .bad
def pstr (op : BinOp) (x y : List UInt8) (st : PSt) : PO :=
  match op with
  | .add => .chk (decide (x.length + y.length ≤ 4611686018427387904)) (.dat .str (x ++ y)) st
  | .eql => .val (.dat .bool (x == y)) st
  | .neq => .val (.dat .bool (!(x == y))) st
  | .lss => .val (.dat .bool (Op.bytesLess x y)) st
  | .leq => .val (.dat .bool (Op.bytesLess x y || x == y)) st
  | .gtr => .val (.dat .bool (!(Op.bytesLess x y || x == y))) st
  | .geq => .val (.dat .bool (!Op.bytesLess x y)) st
  | _ => .bad
def isSh : BinOp → Bool
  | .shl | .shr => true
  | _ => false
def pboolOf : PV → Option Bool
  | .bl b => some b
  | .dat .bool b => some b
  | _ => none
/-- are two flat values equal, cell by cell -/
def psame : List FK → List PV → List PV → Option Bool
  | [], [], [] => some true
  | .int k :: ks, .dat (.int k1) a :: xs, .dat (.int k2) b :: ys => bif k == k1 && k == k2 then (psame ks xs ys).map fun r => (a : Int) == (b : Int) && r else none
  | .str :: ks, .dat .str a :: xs, .dat .str b :: ys => (psame ks xs ys).map fun r => (a : List UInt8) == (b : List UInt8) && r
  | .bool :: ks, a :: xs, b :: ys => match pboolOf a, pboolOf b with
    | some a, some b => (psame ks xs ys).map fun r => a == b && r
    | _, _ => none
  | _, _, _ => none
/-- is a slice nil; ng: is it not -/
def pslnil (st : PSt) (ng : Bool) (x : PV) : PO :=
  match x with
  | .nil => .val (.bl (!ng)) st
  | .sl id _ _ _ _ => bif isS (st.obj id) then .val (.bl ng) st else .bad
  | .dat (.list _) l => .ite (decide (0 < l.length)) (.val (.bl ng) st) (.val .ub st)
  | .dat (.nlist _) l => .val (.dat .bool (bif ng then decide (0 < l.length) else !decide (0 < l.length))) st
  | _ => .bad
def peqnil (op : BinOp) (x y : PV) (st : PSt) : PO :=
  match op, x, y with
  | .eql, x, .nil => pslnil st false x
  | .neq, x, .nil => pslnil st true x
  | _, _, _ => .bad
def pbin (T : Tab) (op : BinOp) (t : TypeId) (x y : PV) (st : PSt) : PO :=
  match x, y with
  | .dat (.int k) a, .dat (.int k') b => bif isSh op then psh op k a b st else (bif k == k' then pint op k a b st else .bad)
  | .dat .str a, .dat .str b => pstr op a b st
  | .agg xs, .agg ys => match T.flat t with
    | some ks => match op, psame ks xs ys with
      | .eql, some r => .val (.dat .bool r) st
      | .neq, some r => .val (.dat .bool (!r)) st
      | _, _ => .bad
    | none => .bad
  | x, y => match pboolOf x, pboolOf y, T.und t with
    | some a, some b, some .bool => match op with
      | .eql => .val (.dat .bool (a == b)) st
      | .neq => .val (.dat .bool (!(a == b))) st
      | _ => .bad
    | _, _, some (.slice _) => peqnil op x y st
    | _, _, _ => .bad
def pun (op : UnOp) (x : PV) (st : PSt) : PO :=
  match op, x with
  | .neg, .dat (.int k) n => .val (.dat (.int k) (k.wrap (0 - (n : Int)))) st
  | .not, .bl b => .val (.bl (!b)) st
  | .not, .ub => .val .ub st
  | .not, .dat .bool b => .val (.dat .bool (!b)) st
  | _, _ => .bad
def pconv (T : Tab) (s d : TypeId) (x : PV) (st : PSt) : PO :=
  match T.und s, T.und d, x with
  | some _, some (.int k), .dat (.int _) n => .val (.dat (.int k) (k.wrap n)) st
  | some .string, some .string, .dat .str s => .val (.dat .str s) st
  | _, _, _ => .bad
/-- c ? a : b -/
def ppick (c a b : PV) (st : PSt) : PO :=
  match c with
  | .bl t => .val (bif t then a else b) st
  | .dat .bool t => match a, b with
    | .dat .bool x, .bl false => .val (.dat .bool (t && x)) st
    | .bl true, .dat .bool x => .val (.dat .bool (t || x)) st
    | _, _ => .ite t (.val a st) (.val b st)
  | _ => .bad
def pfield (T : Tab) (t : TypeId) (x : PV) (f : Nat) (st : PSt) : PO :=
  match T.und t, x with
  | some (.struct fs), .agg cs => match fs[f]? with
    | some fd => match T.und fd.type, T.inf fd.type with
      | some d, some i => ov st (pick d i.size (ldrop fd.offset cs))
      | _, _ => .bad
    | none => .bad
  | _, _ => .bad
def pfaddr (T : Tab) (t : TypeId) (x : PV) (f : Nat) (st : PSt) : PO :=
  match T.und t with
  | some (.struct fs) => match fs[f]? with
    | some fd => match T.inf fd.type with
      | some i => bif Nat.beq i.size 0 then .bad else match x with
        | .ptr id off => bif isS (st.obj id) then .val (.ptr id (Nat.add off fd.offset)) st else .bad
        | .eptr id sz j off => bif isS (st.obj id) then .val (.eptr id sz j (Nat.add off fd.offset)) st else .bad
        | .dptr s y off => .val (.dptr s y (Nat.add off fd.offset)) st
        | _ => .bad
      | none => .bad
    | none => .bad
  | _ => .bad
def piaddr0 (T : Tab) (t : TypeId) (x ix : PV) (st : PSt) : PO :=
  match T.und t, ix with
  | some (.slice e), .dat (.int _) i => match T.inf e with
    | some ti => match x with
      | .dat (.list s) l => bif Nat.beq ti.size s.sz then .chk (decide (0 ≤ (i : Int)) && decide ((i : Int) < (l.length : Int))) (.dptr s (l.getD (Int.toNat i) s.dflt) 0) st else .bad
      | .sl id sz off len _ => bif Nat.beq ti.size sz && isS (st.obj id) then .chk (decide (0 ≤ (i : Int)) && decide ((i : Int) < (len : Int))) (.eptr id sz (Nat.add (Int.toNat i) off) 0) st else .bad
      | _ => .bad
    | none => .bad
  | some (.array len e), .dat (.int _) i => match T.inf e with
    | some ti => match x with
      | .ptr id off => bif isS (st.obj id) then .chk (decide (0 ≤ (i : Int)) && decide ((i : Int) < (len : Int))) (.ptr id (Nat.add off (Nat.mul (Int.toNat i) ti.size))) st else .bad
      | .eptr id sz j off => bif isS (st.obj id) then .chk (decide (0 ≤ (i : Int)) && decide ((i : Int) < (len : Int))) (.eptr id sz j (Nat.add off (Nat.mul (Int.toNat i) ti.size))) st else .bad
      | .dptr s y off => .chk (decide (0 ≤ (i : Int)) && decide ((i : Int) < (len : Int))) (.dptr s y (Nat.add off (Nat.mul (Int.toNat i) ti.size))) st
      | _ => .bad
    | none => .bad
  | _, _ => .bad
def piaddr (T : Tab) (t : TypeId) (x ix : PV) (st : PSt) : PO := piaddr0 T t (lz x) ix st
def pindex (T : Tab) (t : TypeId) (x ix : PV) (st : PSt) : PO :=
  match T.und t, x, ix with
  | some .string, .dat .str s, .dat (.int _) i => .chk (decide (0 ≤ (i : Int)) && decide ((i : Int) < ((s : List UInt8).length : Int))) (.dat (.int .u8) (((s : List UInt8).getD (Int.toNat i) 0).toNat : Int)) st
  | some (.array len e), .agg cs, .dat (.int _) i => match T.und e, T.inf e with
    | some d, some ti => ovc (decide (0 ≤ (i : Int)) && decide ((i : Int) < (len : Int))) st (pick d ti.size (ldrop (Nat.mul (Int.toNat i) ti.size) cs))
    | _, _ => .bad
  | _, _, _ => .bad
def pextract (x : PV) (i : Nat) (st : PSt) : PO :=
  match x with
  | .tup vs => match vs[i]? with
    | some v => .val v st
    | none => .bad
  | _ => .bad
/-- a bound: is it a number, and which one -/
def pb (x : Option PV) (dflt : Nat) : Option (Bool × Nat) :=
  match x with
  | none => some (true, dflt)
  | some (.dat (.int _) n) => some (decide (0 ≤ (n : Int)), Int.toNat n)
  | _ => none
def has (mx : Option PV) (c : Nat) : Bool := match mx with
  | none => true
  | some _ => decide (0 < c)
def pslice0 (T : Tab) (t : TypeId) (x : PV) (lo hi mx : Option PV) (st : PSt) : PO :=
  match T.und t with
  | some .string => match x, mx with
    | .dat .str s, none => match pb lo 0, pb hi (s : List UInt8).length with
      | some (c1, l), some (c2, h) => .chk (c1 && c2 && decide (l ≤ h) && decide (h ≤ (s : List UInt8).length)) (.dat .str (((s : List UInt8).drop l).take (Nat.sub h l))) st
      | _, _ => .bad
    | _, _ => .bad
  | some (.slice e) => match T.inf e with
    | some ti => match x with
      | .dat (.list s) xs => bif Nat.beq ti.size s.sz then
          match pb lo 0, pb hi xs.length, mx with
          | some (c1, l), some (c2, h), none => .chk (c1 && c2 && decide (l ≤ h) && decide (h ≤ xs.length)) (.dat (.list s) ((xs.drop l).take (Nat.sub h l))) st
          | _, _, _ => .bad
        else .bad
      | .sl id sz off len cap => bif Nat.beq ti.size sz && isS (st.obj id) then
          match hi, mx with
          | none, some _ => .bad
          | _, _ => match pb lo 0, pb hi len, pb mx (cap.getD len) with
            | some (c1, l), some (c2, h), some (c3, m) => .chk (c1 && c2 && c3 && decide (l ≤ h) && decide (h ≤ m) && decide (m ≤ cap.getD len) && has mx (cap.getD len)) (.sl id sz (Nat.add off l) (Nat.sub h l) (some (Nat.sub m l))) st
            | _, _, _ => .bad
        else .bad
      | .nil => match pb lo 0, pb hi 0, mx with
        | some (c1, l), some (c2, h), none => .chk (c1 && c2 && decide (l ≤ h) && decide (h ≤ 0)) .nil st
        | _, _, _ => .bad
      | _ => .bad
    | none => .bad
  | _ => .bad
def pslice (T : Tab) (t : TypeId) (x : PV) (lo hi mx : Option PV) (st : PSt) : PO := pslice0 T t (lz x) lo hi mx st
def pi64 (n : Nat) : PV := .dat (.int .i64) (Int.ofNat n)
def plen0 (T : Tab) (ts : Array TypeId) (args : List PV) (st : PSt) : PO :=
  match ts[0]?, args with
  | some t, [x] => match T.und t, x with
    | some .string, .dat .str s => .val (pi64 (s : List UInt8).length) st
    | some (.slice _), .dat (.list _) l => .val (pi64 l.length) st
    | some (.slice _), .sl id _ _ len _ => bif isS (st.obj id) then .val (pi64 len) st else .bad
    | some (.slice _), .nil => .val (pi64 0) st
    | some (.map _ _), .mp id => match st.obj id with
      | some (.map _ _ l) => .val (pi64 l.length) st
      | _ => .bad
    | _, _ => .bad
  | _, _ => .bad
def plen (T : Tab) (ts : Array TypeId) (args : List PV) (st : PSt) : PO := plen0 T ts (args.map lz) st
def pmm (f : Int → Int → Int) (k : IntKind) : Int → List PV → Option Int
  | x, [] => some x
  | x, .dat (.int k') y :: ys => bif k == k' then pmm f k (f x y) ys else none
  | _, _ => none
def pminmax (f : Int → Int → Int) (args : List PV) (st : PSt) : PO :=
  match args with
  | .dat (.int k) x :: ys => match pmm f k x ys with
    | some z => .val (.dat (.int k) z) st
    | none => .bad
  | _ => .bad
def imax (x y : Int) : Int := if y > x then y else x
def imin (x y : Int) : Int := if y < x then y else x
/-- the elements of a slice, and the condition under which it has them -/
def pelems0 (st : PSt) (s : Sh) (x : PV) : Option (Bool × List s.T) :=
  match x with
  | .nil => some (true, [])
  | .dat (.list s') l => (castD (.list s') (.list s) l).map fun r => (true, r)
  | .sl id sz off len _ => match st.obj id with
    | some (.arr _ _ s' l) => bif Nat.beq sz s'.sz then (castD (.list s') (.list s) l).map fun r => (decide (off + len ≤ r.length), (r.drop off).take len) else none
    | _ => none
  | _ => none
def pelems (st : PSt) (s : Sh) (x : PV) : Option (Bool × List s.T) := pelems0 st s (lz x)
def LIM : Nat := 281474976710656
def pappend (T : Tab) (ts : Array TypeId) (args : List PV) (st : PSt) : PO :=
  match ts[0]?, ts[1]?, args with
  | some t, some tx, [b, x] => match T.und t, T.und tx with
    | some (.slice e), some (.slice _) => match T.inf e, tySh T 9 e with
      | some i, some s =>
        bif Nat.blt 0 i.bytes && Nat.blt 0 i.size && Nat.beq i.zero.length i.size && Nat.beq i.size s.sz then
          match pelems st s x with
          | some (c, new) => match b with
            | .nil => match x with
              | .nil => .val .nil st
              | .dat _ _ => .ite (decide (0 < new.length)) (.chk (c && decide ((2 * new.length + 1000) * i.bytes ≤ LIM)) (.sl st.nx s.sz 0 new.length none) (st.push (.arr false e s new))) (.val .nil st)
              | .sl _ _ _ _ (some _) => .ite (decide (0 < new.length)) (.chk (c && decide ((2 * new.length + 1000) * i.bytes ≤ LIM)) (.sl st.nx s.sz 0 new.length none) (st.push (.arr false e s new))) (.chk c .nil st)
              | _ => .chk (c && decide (0 < new.length) && decide ((2 * new.length + 1000) * i.bytes ≤ LIM)) (.sl st.nx s.sz 0 new.length none) (st.push (.arr false e s new))
            | .sl id sz off len cap => match st.obj id with
              | some (.arr false e' s' l) => match castD (.list s') (.list s) l with
                | some l' => bif Nat.beq e e' && Nat.beq sz s.sz then
                    match cap with
                    | none => .chk (c && decide (off = 0) && decide (len = l'.length) && decide ((2 * (len + new.length) + 1000) * i.bytes ≤ LIM)) (.sl st.nx s.sz 0 (Nat.add len new.length) none) ((st.delObj id).push (.arr false e s (l' ++ new)))
                    | some k => .chk (c && decide (len + new.length ≤ k) && decide (off + k ≤ l'.length)) (.sl id sz off (Nat.add len new.length) (some k)) (st.setObj id (.arr false e s (l'.take (off + len) ++ (new ++ l'.drop (off + len + new.length)))))
                  else .bad
                | none => .bad
              | _ => .bad
            | _ => .bad
          | none => .bad
        else .bad
      | _, _ => .bad
    | _, _ => .bad
  | _, _, _ => .bad
/-- all elements are zero -/
def pclear (T : Tab) (ts : Array TypeId) (args : List PV) (st : PSt) : PO :=
  match ts[0]?, args with
  | some t, [x] => match T.und t with
    | some (.slice e) => match x with
      | .nil => .val (.tup []) st
      | .sl id sz off len _ => match T.inf e, st.obj id with
        | some i, some (.arr false e' s l) =>
          bif Nat.beq sz s.sz && Nat.blt 0 i.zero.length && Nat.beq i.zero.length s.sz && lall V.one i.zero then
            match unflat1 s (i.zero.map ofV) with
            | some z => .chk (decide (off + len ≤ l.length)) (.tup []) (st.setObj id (.arr false e' s (l.take off ++ (List.replicate len z ++ l.drop (off + len)))))
            | none => .bad
          else .bad
        | _, _ => .bad
      | _ => .bad
    | _ => .bad
  | _, _ => .bad
def pbuiltin (T : Tab) (b : Builtin) (ts : Array TypeId) (args : List PV) (st : PSt) : PO :=
  match b with
  | .len => plen T ts args st
  | .append => pappend T ts args st
  | .max => pminmax imax args st
  | .min => pminmax imin args st
  | .clear => pclear T ts args st
  | _ => .bad
/-- the character at a place of a text, and how many bytes it has -/
def rune (s : List UInt8) (pos : Nat) : Int := (Utf8.decode (bytesOf s) pos).1
def runeW (s : List UInt8) (pos : Nat) : Nat := (Utf8.decode (bytesOf s) pos).2
def prange (T : Tab) (t : TypeId) (x : PV) (st : PSt) : PO :=
  match T.und t, x with
  | some .string, .dat .str s => .val (.ptr st.nx 0) (st.push (.siter s 0))
  | _, _ => .bad
def pnext (x : PV) (isStr : Bool) (st : PSt) : PO :=
  match x, isStr with
  | .ptr id 0, true => match st.obj id with
    | some (.siter s pos) => .ite (decide (pos < s.length)) (.val (.tup [.bl true, .dat (.int .i64) (Int.ofNat pos), .dat (.int .i32) (rune s pos)]) (st.setObj id (.siter s (Nat.add pos (runeW s pos))))) (.val (.tup [.bl false]) st)
    | _ => .bad
  | _, _ => .bad
def pfill (st : PSt) (place : Nat → Option (Nat × Nat)) (cells : List PV) : List (Nat × PV) → Option (List PV)
  | [] => some cells
  | (i, v) :: rest => match place i with
    | none => none
    | some (off, size) => match pcs st v with
      | some vs => bif Nat.beq (llen vs) size && Nat.ble (Nat.add off size) (llen cells) then pfill st place (lput off vs cells) rest else none
      | none => none
def pbuild (T : Tab) (st : PSt) (t : TypeId) (parts : List (Nat × PV)) : Option PV :=
  match T.inf t, T.und t with
  | some i, some (.struct fs) =>
    match fs.toList.mapM (fun f => (T.inf f.type).map fun j => (f.offset, j.size)) with
    | some pl => (pfill st (fun i => pl[i]?) (i.zero.map ofV) parts).map .agg
    | none => none
  | some i, some (.array _ e) => match T.inf e with
    | some j => (pfill st (fun i => some (i * j.size, j.size)) (i.zero.map ofV) parts).map .agg
    | none => none
  | _, _ => none
/-- the elements in these cells -/
def chunk (s : Sh) : Nat → List PV → Option (List s.T)
  | 0, _ => some []
  | n + 1, cs => match unflat s cs with
    | some (x, cs') => (chunk s n cs').map (x :: ·)
    | none => none
def pzeros (z : List PV) : Nat → List PV
  | 0 => []
  | n + 1 => z ++ pzeros z n
/-- an argument's cells, by value; a slice of the call's own is read, and is then written no more -/
def byVal (st : PSt) : PV → Option (Bool × PV)
  | .sl id sz off len _ => match st.obj id with
    | some (.arr _ _ s l) => bif Nat.beq sz s.sz then some (decide (off + len ≤ l.length), .dat (.list s) ((l.drop off).take len)) else none
    | _ => none
  | .dat s x => some (true, .dat s x)
  | .bl b => some (true, .bl b)
  | .nil => some (true, .nil)
  | _ => none
def byVals (st : PSt) : List PV → Option (Bool × List PV)
  | [] => some (true, [])
  | v :: vs => match byVal st v, byVals st vs with
    | some (c, x), some (d, xs) => some (c && d, x :: xs)
    | _, _ => none
def freeze1 (st : PSt) : PV → PSt
  | .sl id _ _ _ _ => match st.obj id with
    | some (.arr _ e s l) => st.setObj id (.arr true e s l)
    | _ => st
  | _ => st
def freezes : List PV → PSt → PSt
  | [], st => st
  | v :: vs, st => freezes vs (freeze1 st v)
def pbslice (T : Tab) (t : TypeId) (len : Nat) (parts : List (Nat × PV)) (st : PSt) : PO :=
  match T.und t with
  | some (.slice e) => match T.inf e, tySh T 9 e with
    | some i, some s =>
      bif Nat.ble (Nat.mul len i.size) 16777216 && Nat.blt 0 i.zero.length && Nat.beq i.zero.length i.size && Nat.beq i.size s.sz then
        match pfill st (fun k => some (k * i.size, i.size)) (pzeros (i.zero.map ofV) len) parts with
        | some cs => match chunk s len cs with
          | some l => .val (.sl st.nx s.sz 0 len none) (st.push (.arr false e s l))
          | none => match byVals st cs with
            | some (c, cs') => match chunk s len cs' with
              | some l => .chk c (.sl st.nx s.sz 0 len none) ((freezes cs st).push (.arr false e s l))
              | none => .bad
            | none => .bad
        | none => .bad
      else .bad
    | _, _ => .bad
  | _ => .bad
def pmake (T : Tab) (t : TypeId) (l c : PV) (st : PSt) : PO :=
  match T.und t, l, c with
  | some (.slice e), .dat (.int _) l, .dat (.int _) c => match T.inf e, tySh T 9 e with
    | some i, some s =>
      bif Nat.blt 0 i.zero.length && Nat.beq i.zero.length i.size && Nat.beq i.size s.sz then
        match unflat1 s (i.zero.map ofV) with
        | some z => .chk (decide (0 ≤ (l : Int)) && decide ((l : Int) = (c : Int)) && decide (i.bytes * Int.toNat l ≤ LIM) && decide ((l : Int) < 9223372036854775808)) (.sl st.nx s.sz 0 (Int.toNat l) none) (st.push (.arr false e s (List.replicate (Int.toNat l) z)))
        | none => .bad
      else .bad
    | _, _ => .bad
  | _, _, _ => .bad
def kSh (T : Tab) (t : TypeId) : Option Sh := match T.und t with
  | some (.int k) => some (.int k)
  | some .string => some .str
  | some .bool => some .bool
  | _ => none
def isAg : PV → Bool
  | .agg _ => true
  | _ => false
/-- a value as data of a shape -/
def asV (s : Sh) (p : PV) : Option s.T := bif isAg p == s.isP then unflat1 s p.cells else none
def pmkmap (T : Tab) (t : TypeId) (st : PSt) : PO := match T.und t with
  | some (.map kt e) => match kSh T kt, tySh T 9 e with
    | some ks, some vs => .val (.mp st.nx) (st.push (.map ks vs []))
    | _, _ => .bad
  | _ => .bad
/-- a map's entries -/
def pents (st : PSt) (ks vs : Sh) (m : PV) : Option (List (ks.T × vs.T)) := match m with
  | .nilm => some []
  | .mp id => match st.obj id with
    | some (.map ks' vs' l) => castD (.list (.pair ks' vs')) (.list (.pair ks vs)) l
    | _ => none
  | _ => none
def vAg : V → Bool
  | .agg _ => true
  | _ => false
/-- a value that is looked up, one key after another -/
def plk (ks vs : Sh) (ok : Bool) (z : vs.T) (x : ks.T) (st : PSt) : List (ks.T × vs.T) → PO
  | [] => .val (bif ok then .tup [dats vs z, .bl false] else dats vs z) st
  | (a, b) :: l => .ite (keq ks x a) (.val (bif ok then .tup [dats vs b, .bl true] else dats vs b) st) (plk ks vs ok z x st l)
def plookup (T : Tab) (t : TypeId) (m k : PV) (ok : Bool) (st : PSt) : PO := match T.und t with
  | some (.map kt e) => match kSh T kt, tySh T 9 e, T.inf e with
    | some ks, some vs, some i => match asD ks k, pents st ks vs m, unflat1 vs (i.zero.map ofV) with
      | some x, some l, some z =>
        bif vAg i.zv == vs.isP then bif vs.hasF then plk ks vs ok z x st l else
          (let v := dats vs ((mget ks vs x l).getD z)
          .val (bif ok then .tup [v, .dat .bool (mget ks vs x l).isSome] else v) st)
        else .bad
      | _, _, _ => .bad
    | _, _, _ => .bad
  | _ => .bad
def pupdate (T : Tab) (t : TypeId) (m k v : PV) (st : PSt) : PO := match T.und t, m with
  | some (.map kt _), .mp id => match kSh T kt, st.obj id with
    | some ks, some (.map ks' vs l) => match asD ks k, castD (.list (.pair ks' vs)) (.list (.pair ks vs)) l, asV vs v with
      | some x, some l, some y => .val (.tup []) (st.setObj id (.map ks vs (mset ks vs x y l)))
      | _, _, _ => .bad
    | _, _ => .bad
  | _, _ => .bad
def pdelete (T : Tab) (ts : Array TypeId) (args : List PV) (st : PSt) : PO := match ts[0]?, args with
  | some t, [.mp id, k] => match T.und t with
    | some (.map kt _) => match kSh T kt, st.obj id with
      | some ks, some (.map ks' vs l) => match asD ks k, castD (.list (.pair ks' vs)) (.list (.pair ks vs)) l with
        | some x, some l => .val (.tup []) (st.setObj id (.map ks vs (mdel ks vs x l)))
        | _, _ => .bad
      | _, _ => .bad
    | _ => .bad
  | _, _ => .bad
abbrev POp := Tab → PSt → PO
def v1 (st : PSt) (x : Operand) (k : PV → PO) : PO := match pev st x with | some v => k v | none => .bad
def q_move (x : Operand) : POp := fun _ st => ov st (pev st x)
def q_pick (c a b : Operand) : POp := fun _ st => v1 st c fun c => v1 st a fun a => v1 st b fun b => ppick c a b st
def q_alloc (t : TypeId) : POp := fun T st => match pcells T t with | some cs => .val (.ptr st.nx 0) (st.push (.box cs)) | none => .bad
def q_box (_ : TypeId) (x : Operand) : POp := fun _ st => v1 st x fun v => match pcs st v with | some cs => bif lall (solid st) cs then .val (.ptr st.nx 0) (st.push (.box cs)) else .bad | none => .bad
def q_build (t : TypeId) (ps : Array (Nat × Operand)) : POp := fun T st => match pevp st ps.toList with | some l => ov st (pbuild T st t l) | none => .bad
def q_bslice (t : TypeId) (n : Nat) (ps : Array (Nat × Operand)) : POp := fun T st => match pevp st ps.toList with | some l => pbslice T t n l st | none => .bad
def q_load (t : TypeId) (x : Operand) : POp := fun T st => v1 st x fun a => pload T st t a
def q_store (t : TypeId) (x y : Operand) : POp := fun T st => v1 st x fun a => v1 st y fun b => pstore T st t a b
def q_nilCheck (x : Operand) : POp := fun _ st => v1 st x fun a => match a with | .ptr id _ | .eptr id _ _ _ => bif isS (st.obj id) then .val a st else .bad | .dptr .. => .val a st | _ => .bad
def q_bin (op : BinOp) (t : TypeId) (x y : Operand) (_ : TypeId) : POp := fun T st => v1 st x fun a => v1 st y fun b => pbin T op t a b st
def q_un (op : UnOp) (_ : TypeId) (x : Operand) : POp := fun _ st => v1 st x fun a => pun op a st
def q_conv (s d : TypeId) (x : Operand) : POp := fun T st => v1 st x fun a => pconv T s d a st
def q_func (f : Fn) (a b : Array Operand) : POp := fun _ st => match pevs st a.toList, pevs st b.toList with | some x, some y => .val (.fn f x y) st | _, _ => .bad
def q_make (t : TypeId) (l c : Operand) : POp := fun T st => v1 st l fun a => v1 st c fun b => pmake T t a b st
def o1 (st : PSt) (x : Option Operand) (k : Option PV → PO) : PO := match x with | none => k none | some y => v1 st y fun v => k (some v)
def q_slice (t : TypeId) (x : Operand) (a b c : Option Operand) : POp := fun T st => v1 st x fun v => o1 st a fun l => o1 st b fun h => o1 st c fun m => pslice T t v l h m st
def q_faddr (t : TypeId) (x : Operand) (f : Nat) : POp := fun T st => v1 st x fun a => pfaddr T t a f st
def q_field (t : TypeId) (x : Operand) (f : Nat) : POp := fun T st => v1 st x fun a => pfield T t a f st
def q_iaddr (t : TypeId) (x i : Operand) : POp := fun T st => v1 st x fun a => v1 st i fun b => piaddr T t a b st
def q_index (t : TypeId) (x i : Operand) : POp := fun T st => v1 st x fun a => v1 st i fun b => pindex T t a b st
def q_extract (x : Operand) (i : Nat) : POp := fun _ st => v1 st x fun a => pextract a i st
def q_call (c : Call) : POp := fun T st =>
  match pevs st c.args.toList with
  | none => .bad
  | some args => match c.callee with
    | .builtin b => match b with
      | .delete => pdelete T c.argTypes args st
      | _ => pbuiltin T b c.argTypes args st
    | _ => .bad
def q_mkmap (t : TypeId) (r : Option Operand) : POp := fun T st => match r with | none => pmkmap T t st | some _ => .bad
def q_lookup (t : TypeId) (x i : Operand) (ok : Bool) : POp := fun T st => v1 st x fun a => v1 st i fun b => plookup T t a b ok st
def q_update (t : TypeId) (m k x : Operand) : POp := fun T st => v1 st m fun a => v1 st k fun b => v1 st x fun c => pupdate T t a b c st
def q_range (t : TypeId) (x : Operand) : POp := fun T st => v1 st x fun a => prange T t a st
def q_next (x : Operand) (isStr : Bool) : POp := fun _ st => v1 st x fun a => pnext a isStr st
def q_no : POp := fun _ _ => .bad
def pop (o : Op) : POp := @Op.casesOn (fun _ => POp) o q_move q_move q_pick q_alloc q_box q_build q_bslice q_update q_load q_store (fun _ => q_no) (fun _ => q_no) q_nilCheck q_bin q_un q_conv
  (fun _ _ => q_no) (fun _ _ => q_no) q_func q_mkmap (fun _ _ => q_no) q_make q_slice q_faddr q_field q_iaddr q_index q_lookup q_update (fun _ _ _ => q_no) (fun _ _ _ _ => q_no)
  q_range q_next (fun _ => q_no) (fun _ _ _ _ => q_no) q_extract q_call (fun _ => q_no) (fun _ => q_no) (fun _ => q_no) (fun _ _ => q_no) (fun _ _ _ => q_no) (fun _ _ => q_no)
end
end Go.Pe
end
section
namespace Go.Pe
open Go.Det
theorem bytesOf_get {s : List UInt8} {i : Nat} (h : i < s.length) : (bytesOf s).get! i = s.getD i 0 := by
  unfold bytesOf
  show (s.toArray)[i]! = _
  simp [h]
theorem rune_low {s : List UInt8} {i : Nat} (h : i < s.length) (h2 : (s.getD i 0).toNat < 128) : rune s i = ((s.getD i 0).toNat : Int) ∧ runeW s i = 1 := by
  unfold rune runeW Utf8.decode
  have e := bytesOf_get h
  simp only [Nat.add_zero, e, h2, if_true]
  simp
theorem rune_high {s : List UInt8} {i : Nat} (h : i < s.length) (h2 : 128 ≤ (s.getD i 0).toNat) : 128 ≤ rune s i := by
  unfold rune Utf8.decode
  have e := bytesOf_get h
  simp only [Nat.add_zero, e]
  rw [if_neg (by omega)]
  have hE : (128 : Int) ≤ ((Utf8.runeError : Nat) : Int) := by decide
  split
  · split
    · rename_i hc; simp only; omega
    · exact hE
  · split
    · split
      · rename_i hc; simp only [ge_iff_le, Bool.and_eq_true, decide_eq_true_eq] at hc ⊢; omega
      · exact hE
    · split
      · split
        · rename_i hc; simp only [ge_iff_le, Bool.and_eq_true, decide_eq_true_eq] at hc ⊢; omega
        · exact hE
      · exact hE
end Go.Pe
namespace Go.Sp
/-- a letter -/
def letter (c : Int) : Bool := (decide (97 ≤ c) && decide (c ≤ 122)) || (decide (65 ≤ c) && decide (c ≤ 90))
/-- a letter, a digit, or an underscore -/
def mark (c : Int) : Bool := letter c || (decide (48 ≤ c) && decide (c ≤ 57)) || c == 95
def isName : List UInt8 → Bool
  | [] => false
  | c :: s => decide (s.length ≤ 23) && letter (c.toNat : Int) && s.all fun c => mark (c.toNat : Int)
end Go.Sp
end
section
namespace Go.Pe
open Go.Det
theorem keq_str (a b : List UInt8) : keq .str a b = decide (a = b) := by
  show (a == b) = _
  by_cases h : a = b <;> simp [h]
theorem keq_int (k : IntKind) (a b : Int) : keq (.int k) a b = decide (a = b) := by
  show (a == b) = _
  by_cases h : a = b <;> simp [h]
theorem mget_mset_str {v : Sh} (x k : List UInt8) (b : v.T) : ∀ m : List (List UInt8 × v.T), mget .str v x (mset .str v k b m) = if x = k then some b else mget .str v x m
  | [] => by
    show (bif keq .str x k then some b else none) = _
    rw [keq_str]; by_cases h : x = k <;> simp [h, mget]
  | (a, c) :: m => by
    show mget .str v x (bif keq .str k a then (k, b) :: m else (a, c) :: mset .str v k b m) = _
    rw [keq_str]
    by_cases h : k = a
    · subst h
      simp only [decide_true, cond_true]
      show (bif keq .str x k then some b else mget .str v x m) = if x = k then some b else (bif keq .str x k then some c else mget .str v x m)
      rw [keq_str]; by_cases h2 : x = k <;> simp [h2]
    · simp only [h, decide_false, cond_false]
      show (bif keq .str x a then some c else mget .str v x (mset .str v k b m)) = if x = k then some b else (bif keq .str x a then some c else mget .str v x m)
      rw [keq_str, mget_mset_str x k b m]
      by_cases h2 : x = a
      · subst h2; simp [Ne.symm h]
      · simp [h2]
theorem mget_mset_int {v : Sh} {q : IntKind} (x k : Int) (b : v.T) : ∀ m : List (Int × v.T), mget (.int q) v x (mset (.int q) v k b m) = if x = k then some b else mget (.int q) v x m
  | [] => by
    show (bif keq (.int q) x k then some b else none) = _
    rw [keq_int]; by_cases h : x = k <;> simp [h, mget]
  | (a, c) :: m => by
    show mget (.int q) v x (bif keq (.int q) k a then (k, b) :: m else (a, c) :: mset (.int q) v k b m) = _
    rw [keq_int]
    by_cases h : k = a
    · subst h
      simp only [decide_true, cond_true]
      show (bif keq (.int q) x k then some b else mget (.int q) v x m) = if x = k then some b else (bif keq (.int q) x k then some c else mget (.int q) v x m)
      rw [keq_int]; by_cases h2 : x = k <;> simp [h2]
    · simp only [h, decide_false, cond_false]
      show (bif keq (.int q) x a then some c else mget (.int q) v x (mset (.int q) v k b m)) = if x = k then some b else (bif keq (.int q) x a then some c else mget (.int q) v x m)
      rw [keq_int, mget_mset_int x k b m]
      by_cases h2 : x = a
      · subst h2; simp [Ne.symm h]
      · simp [h2]
/-- the map knows just these texts, all of them true -/
def SetS (m : List (List UInt8 × Bool)) (p : List UInt8 → Prop) : Prop := ∀ x, (mget .str .bool x m).getD false = true ↔ p x
theorem SetS.nil : SetS [] (fun _ => False) := fun x => by simp [mget]
theorem SetS.add {m : List (List UInt8 × Bool)} {p : List UInt8 → Prop} (h : SetS m p) (k : List UInt8) : SetS (mset .str .bool k true m) (fun x => x = k ∨ p x) := fun x => by
  rw [mget_mset_str]
  by_cases e : x = k
  · simp [e]
  · rw [if_neg e, h x]; simp [e]
theorem SetS.congr {m : List (List UInt8 × Bool)} {p q : List UInt8 → Prop} (h : SetS m p) (e : ∀ x, p x ↔ q x) : SetS m q := fun x => (h x).trans (e x)
/-- the same for numbers -/
def SetI (m : List (Int × Bool)) (p : Int → Prop) : Prop := ∀ x : Int, (mget (.int .i64) .bool x m).getD false = true ↔ p x
theorem SetI.nil : SetI [] (fun _ => False) := fun x => by simp [mget]
theorem SetI.add {m : List (Int × Bool)} {p : Int → Prop} (h : SetI m p) (k : Int) : SetI (mset (.int .i64) .bool k true m) (fun x => x = k ∨ p x) := fun x => by
  rw [mget_mset_int]
  by_cases e : x = k
  · simp [e]
  · rw [if_neg e, h x]; simp [e]
theorem SetI.congr {m : List (Int × Bool)} {p q : Int → Prop} (h : SetI m p) (e : ∀ x, p x ↔ q x) : SetI m q := fun x => (h x).trans (e x)
end Go.Pe
end
