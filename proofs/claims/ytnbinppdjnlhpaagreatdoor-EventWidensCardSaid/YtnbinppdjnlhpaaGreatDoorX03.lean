import Derived.Test.YtnbinppdjnlhpaaGreatDoorX02
import Derived.IntWalk
/- A part of the proofs of the laws of one chapter (no law is stated here). Made by program out of texts by AI agents. -/
section
namespace Go.Det
noncomputable section
section
variable {T : Tab} {P : Program} {p : Pl} {h : H} {w : World}
def dmake (T : Tab) (h : H) (t : TypeId) (len cap : V) : Option (V × H) :=
  match T.und t, len, cap with
  | some (.slice e), .int _ (.ofNat l), .int _ (.ofNat c) =>
    match T.inf e with
    | some i =>
      bif Nat.ble l c && Nat.blt c 9223372036854775808 && Nat.ble (i.bytes * c) 281474976710656 && Nat.blt 0 i.zero.length && Nat.beq i.zero.length i.size then
        some (.sl h.nx 0 l c 0, dnew h e (zeros i.zero (c * i.size)))
      else none
    | none => none
  | _, _, _ => none
theorem wrap_small (c : Nat) (h : c < 9223372036854775808) : IntKind.i64.wrap (c : Int) = c := IntWalk.i64_in _ (by omega)
theorem sim_make (hT : T.Ok P) (hr : R p h w) {t : TypeId} {len cap : V} {len' cap' : Value} (hl : VRel p len len') (hc : VRel p cap cap') {v : V} {h' : H} (hd : dmake T h t len cap = some (v, h')) :
    ∃ v' p' w', (Instr.makeSlice t len' cap').run P w = .ok v' w' ∧ VRel p' v v' ∧ Ext p h w p' h' w' := by
  unfold dmake at hd
  split at hd
  case h_2 => cases hd
  rename_i e k l k2 c hu
  split at hd
  case h_2 => cases hd
  rename_i i hi
  cases hcond : (Nat.ble l c && Nat.blt c 9223372036854775808 && Nat.ble (i.bytes * c) 281474976710656 && Nat.blt 0 i.zero.length && Nat.beq i.zero.length i.size) with
  | false => simp [hcond] at hd
  | true =>
    simp only [hcond, cond_true, Option.some.injEq, Prod.mk.injEq] at hd
    obtain ⟨rfl, rfl⟩ := hd
    simp only [Bool.and_eq_true, Nat.ble_eq, Nat.blt_eq, beq_t, decide_eq_true_eq] at hcond
    obtain ⟨⟨⟨⟨c1, c2⟩, c3⟩, c4⟩, c5⟩ := hcond
    simp only [VRel] at hl hc
    subst hl hc
    obtain ⟨z, hz, hzr⟩ := run_zero hT hi
    obtain ⟨j, hj, hjb, _⟩ := run_info hT hi
    obtain ⟨n, he, hpn, hn⟩ := sim_new hr e (zeros_rel (hzr p) c4 (c * i.size))
    refine ⟨.slice (some ⟨w.heap.size, 0, none⟩) l c, _, _, ?_, ?_, he⟩
    · unfold Instr.makeSlice asInt asIntOf
      simp only [Sem.run_bind, Sem.run_pure, run_und hT hu, Result.andThen_ok, hj, Int.ofNat_eq_natCast, wrap_small c c2, wrap_small l (by omega), hjb]
      have e3 : (i.bytes : Int) * (c : Int) = ((i.bytes * c : Nat) : Int) := (Int.natCast_mul _ _).symm
      rw [e3]
      generalize i.bytes * c = q at c3 e3 ⊢
      have n2 : ¬ ((decide ((c : Int) < 0) || decide ((q : Int) > 2 ^ 48)) || decide ((l : Int) < 0) || decide ((l : Int) > (c : Int))) = true := by
        simp; omega
      rw [if_neg n2]
      simp only [Sem.run_bind, Result.andThen_ok, run_askRoom, run_size hT hi, Int.toNat_natCast]
      by_cases h0 : c * i.size = 0
      · rw [if_pos h0]
        have e1 : (Array.map (fun x => (#[] : Array Value)[x % (#[] : Array Value).size]!) (Array.range (c * i.size))) = Array.map (fun i_1 => z.cells[i_1 % z.cells.size]!) (Array.range (c * i.size)) := by simp [h0]
        simp only [Sem.run_bind, Sem.run_pure, Result.andThen_ok, run_newRow]
        rw [e1]
      · rw [if_neg h0]
        simp only [Sem.run_bind, hz, Sem.run_pure, Result.andThen_ok, run_newRow]
    · simp only [VRel]
      exact ⟨_, n, c, hpn, rfl, c1, Nat.le_refl _, fun _ => rfl, by simp⟩
/-- the cells that append and copy take -/
def src (h : H) (size : Nat) (x : V) (n : Nat) : Option (List V) :=
  match x with
  | .nils => some []
  | .esl => bif Nat.beq n 0 then some [] else none
  | .es0 => bif Nat.beq n 0 then some [] else none
  | .sl b off _ _ _ => rd h b off (n * size)
  | .str s => some ((s.take n).map fun c => .int .u8 c.toNat)
  | _ => none
def slen : V → Option Nat
  | .nils => some 0
  | .esl => some 0
  | .es0 => some 0
  | .sl _ _ len _ _ => some len
  | .str s => some s.length
  | _ => none
theorem run_slen {x : V} {x' : Value} (hx : VRel p x x') {n : Nat} (hd : slen x = some n) : (Builtin.lenOf x').run P w = .ok n w := by
  unfold slen at hd
  split at hd
  case h_1 => simp only [VRel] at hx; subst hx; cases hd; rfl
  case h_2 => simp only [VRel] at hx; obtain ⟨_, _, rfl⟩ := hx; cases hd; rfl
  case h_3 => simp only [VRel] at hx; obtain ⟨_, rfl⟩ := hx; cases hd; rfl
  case h_4 => simp only [VRel] at hx; obtain ⟨_, _, _, _, rfl, _⟩ := hx; cases hd; rfl
  case h_5 => simp only [VRel] at hx; subst hx; cases hd; simp [Builtin.lenOf, bytesOf_size]
  case h_6 => cases hd
theorem run_src (hr : R p h w) {size n : Nat} {x : V} {x' : Value} (hx : VRel p x x') {cs : List V} (hd : src h size x n = some cs) :
    ∃ vs : List Value, (Builtin.firstCells size n x').run P w = .ok vs.toArray w ∧ VRels p cs vs := by
  unfold src at hd
  split at hd
  case h_6 => cases hd
  case h_1 => simp only [VRel] at hx; subst hx; cases hd; exact ⟨[], rfl, by simp⟩
  case h_2 =>
    simp only [VRel] at hx
    obtain ⟨a, c, rfl⟩ := hx
    rw [beq_t] at hd
    by_cases e : n = 0
    · subst e
      simp only [decide_true, cond_true, Option.some.injEq] at hd; subst hd
      exact ⟨[], by simp [Builtin.firstCells, loadCells, loadCellsFrom], by simp⟩
    · simp [e] at hd
  case h_3 =>
    simp only [VRel] at hx
    obtain ⟨a, rfl⟩ := hx
    rw [beq_t] at hd
    by_cases e : n = 0
    · subst e
      simp only [decide_true, cond_true, Option.some.injEq] at hd; subst hd
      exact ⟨[], by simp [Builtin.firstCells, loadCells, loadCellsFrom], by simp⟩
    · simp [e] at hd
  case h_4 =>
    simp only [VRel] at hx
    obtain ⟨r, m, c, hp, rfl, _⟩ := hx
    obtain ⟨r', m', vs, h1, h2, h3, _⟩ := run_loadCells (P := P) hr hd
    rw [hp] at h1; cases h1
    exact ⟨vs, h2, h3⟩
  case h_5 =>
    rename_i s
    simp only [VRel] at hx; subst hx; cases hd
    refine ⟨(s.take n).map fun c => .int .u8 c.toNat, ?_, ?_⟩
    · simp only [Builtin.firstCells, Sem.run_pure]
      congr 1
      apply Array.ext'
      simp [bytesOf, List.extract]
    · apply VRels.mk (by simp)
      intro i d v h1 h2
      simp only [List.getElem?_map] at h1 h2
      cases hq : (s.take n)[i]? with
      | none => simp [hq] at h1
      | some q => simp [hq] at h1 h2; subst h1 h2; simp [VRel]
theorem growBy_le (newLen : Nat) : ∀ (r c : Nat), c < newLen → Builtin.growBy newLen r c ≤ 2 * newLen + 1000
  | 0, c, h => by simp [Builtin.growBy]; omega
  | r + 1, c, h => by
    unfold Builtin.growBy
    rw [if_neg (by omega)]
    by_cases h2 : c + (c + 768) / 4 < newLen
    · exact growBy_le newLen r _ h2
    · cases r with
      | zero => simp [Builtin.growBy]; omega
      | succ r => unfold Builtin.growBy; rw [if_pos (by omega)]; omega
theorem nextcap_le (need c : Nat) (h : c < need) : Builtin.nextslicecap need c ≤ 2 * need + 1000 := by
  unfold Builtin.nextslicecap
  split
  · omega
  · split
    · omega
    · exact growBy_le need 4 c h
def isInt : TypeDesc → Bool
  | .int _ => true
  | _ => false
def notStr : V → Bool
  | .str _ => false
  | _ => true
def dappend (T : Tab) (h : H) (ts : Array TypeId) (args : List V) : Option (V × H) :=
  match ts[0]?, ts[1]?, args with
  | some t, some tx, [s, x] =>
    match T.und t, T.und tx, slen x with
    | some (.slice e), some dx, some n =>
      match T.inf e, isInt dx with
      | some i, false =>
        bif Nat.blt 0 i.bytes && Nat.blt 0 i.size && Nat.beq i.zero.length i.size && (Nat.beq i.size 1 || notStr x) then
          match src h i.size x n with
          | some new =>
            match s with
            | .nils =>
              bif Nat.beq n 0 then some (.nils, h)
              else bif Nat.ble ((2 * n + 1000) * i.bytes) 281474976710656 then some (.sl h.nx 0 n n i.size, dnew h e new) else none
            | .es0 =>
              bif Nat.beq n 0 then some (.es0, h)
              else bif Nat.ble ((2 * n + 1000) * i.bytes) 281474976710656 then some (.sl h.nx 0 n n i.size, dnew h e new) else none
            | .esl => bif Nat.beq n 0 then some (.esl, h) else none
            | .sl b off len cap o =>
              bif Nat.ble (len + n) cap then (wr h b (off + len * i.size) new).map fun h' => (.sl b off (len + n) cap o, h')
              else bif Nat.ble ((2 * (len + n) + 1000) * i.bytes) 281474976710656 then
                match src h i.size s len with
                | some old =>
                  bif Nat.beq o 0 then some (.sl h.nx 0 (len + n) (len + n) i.size, dnew h e (old ++ new))
                  else
                    match h.get b with
                    | some (.cells _ te fz) =>
                      bif Nat.beq off 0 && Nat.beq o i.size && Nat.beq te e && Nat.ble fz.2 fz.1 && new.all V.one then some (.sl h.nx 0 (len + n) (len + n) i.size, (h.kill b).push (.cells (old ++ new) e (0, 0)))
                      else none
                    | _ => none
                | none => none
              else none
            | _ => none
          | none => none
        else none
      | _, _ => none
    | _, _, _ => none
  | _, _, _ => none
theorem grown_rel {old new : List V} {vo vn : List Value} (h1 : VRels p old vo) (h2 : VRels p new vn) (rest : Array Value) :
    VRels p (old ++ new) ((vo.toArray ++ vn.toArray ++ rest).toList.take (old ++ new).length) := by
  have l1 := h1.length
  have l2 := h2.length
  have : ((vo.toArray ++ vn.toArray ++ rest).toList.take (old ++ new).length) = vo ++ vn := by
    simp only [Array.toList_append, List.length_append, l1, l2]
    rw [List.take_append_of_le_length (by simp)]
    rw [List.take_of_length_le (by simp)]
  rw [this]; exact h1.append h2
section
variable {ts : Array TypeId} {t t0 tx e : TypeId} {dx : TypeDesc} {i : TI} {n : Nat} {x' z : Value} {j : TypeInfo}
theorem run_fits (hT : T.Ok P) (ht0 : ts[0]? = some t0) (htx : ts[1]? = some tx) (hu : T.und t0 = some (.slice e)) (hux : T.und tx = some dx) (hdx : isInt dx = false)
    (hi : T.inf e = some i) (hn : ∀ w, (Builtin.lenOf x').run P w = .ok n w) (base : Option Addr) (len' c : Nat) (hle : len' + n ≤ c) :
    (Builtin.append_ ts t #[.slice base len' c, x']).run P w = ((Builtin.firstCells i.size n x').run P w).andThen fun new w' => ((match base with | some a => storeCells (a.add (len' * i.size)) new.toList | none => pure () : Sem Unit).run P w').andThen fun _ w' => .ok (.slice base (len' + n) c) w' := by
  unfold Builtin.append_
  cases dx <;> first | (cases hdx; done) | skip
  all_goals
    simp only [ht0, htx, List.getElem?_toArray, List.getElem?_cons_zero, List.getElem?_cons_succ, Sem.run_bind, run_und hT hu, run_und hT hux, run_size hT hi, Result.andThen_ok, Sem.run_pure, Bool.false_eq_true, if_false, hn, hle, if_true, Bool.not_false]
    cases base with
    | none => rfl
    | some b => simp only [Sem.run_bind, Sem.run_pure]
theorem run_grows (hT : T.Ok P) (ht0 : ts[0]? = some t0) (htx : ts[1]? = some tx) (hu : T.und t0 = some (.slice e)) (hux : T.und tx = some dx) (hdx : isInt dx = false)
    (hi : T.inf e = some i) (hpos : 0 < i.bytes) (hz : ∀ w, (zeroValue e).run P w = .ok z w) (hn : ∀ w, (Builtin.lenOf x').run P w = .ok n w) (base : Option Addr) (len' c : Nat) (hlt : c < len' + n)
    (hcap : (2 * (len' + n) + 1000) * i.bytes ≤ 281474976710656) :
    ∃ nc, len' + n ≤ nc ∧ (Builtin.append_ ts t #[.slice base len' c, x']).run P w = ((Builtin.firstCells i.size len' (.slice base len' c)).run P { w with drawn := w.drawn + 1 }).andThen fun old w' =>
      ((Builtin.firstCells i.size n x').run P w').andThen fun new w' =>
        .ok (.slice (some ⟨w'.heap.size, 0, none⟩) (len' + n) nc) { w' with heap := w'.heap.push (.cells (old ++ new ++ Builtin.zeroCells z.cells (nc - (len' + n))) e) } := by
  obtain ⟨j, hj, hjb, hjs⟩ := run_info hT hi
  have hnc := nextcap_le (len' + n) c hlt
  have hle : Builtin.nextslicecap (len' + n) c * i.bytes ≤ 281474976710656 := Nat.le_trans (Nat.mul_le_mul_right _ hnc) hcap
  refine ⟨(Question.appendCap (len' + n) c e).cut (w.tape w.drawn (.appendCap (len' + n) c e)), by simp [Question.cut], ?_⟩
  unfold Builtin.append_
  have h1 : ¬ (len' + n ≤ c) := by omega
  have h2 : ¬ (Builtin.nextslicecap (len' + n) c * i.bytes > 2 ^ 48) := by omega
  have h3 : ¬ (i.bytes = 0) := by omega
  cases dx <;> first | (cases hdx; done) | skip
  all_goals
    simp only [ht0, htx, List.getElem?_toArray, List.getElem?_cons_zero, List.getElem?_cons_succ, Sem.run_bind, run_und hT hu, run_und hT hux, run_size hT hi, Result.andThen_ok, Sem.run_pure, Bool.false_eq_true, if_false, hn, Bool.not_false, if_true,
      h1, hj, hjb, h3, or_self, and_false, h2, run_choose, Question.forced, run_askRoom, hz, run_newRow]
end
theorem zeroCells_size (z : Array Value) (n : Nat) : (Builtin.zeroCells z n).size = n * z.size := by simp [Builtin.zeroCells]
theorem src_length {size n : Nat} {x : V} {cs : List V} (hx : slen x = some n) (h1 : size = 1 ∨ ∀ s, x ≠ .str s) (hd : src h size x n = some cs) : cs.length = n * size := by
  unfold src at hd
  split at hd
  case h_6 => cases hd
  case h_1 => cases hd; cases hx; simp
  case h_2 =>
    cases hx
    cases hd; simp
  case h_3 =>
    cases hx
    cases hd; simp
  case h_4 =>
    rw [rd_eq] at hd
    unfold rd0 at hd
    split at hd
    case h_2 => cases hd
    split at hd
    case isFalse => cases hd
    cases hd
    simp; omega
  case h_5 =>
    rename_i s
    cases hd; cases hx
    rcases h1 with rfl | h1
    · simp
    · exact absurd rfl (h1 s)
theorem sim_append (hT : T.Ok P) (hr : R p h w) {ts : Array TypeId} {t : TypeId} {args : List V} {args' : Array Value} (ha : VRels p args args'.toList) {v : V} {h' : H} (hd : dappend T h ts args = some (v, h')) :
    ∃ v' p' w', (Builtin.append_ ts t args').run P w = .ok v' w' ∧ VRel p' v v' ∧ Ext p h w p' h' w' := by
  unfold dappend at hd
  split at hd
  case h_2 => cases hd
  rename_i t0 tx s x ht0 htx
  obtain ⟨s', x', hargs, hs, hx⟩ := ha.two
  have ha0 : args'[0]? = some s' := by rw [← Array.getElem?_toList, hargs]; rfl
  have ha1 : args'[1]? = some x' := by rw [← Array.getElem?_toList, hargs]; rfl
  split at hd
  case h_2 => cases hd
  rename_i e dx n hu hux hxlen
  split at hd
  case h_2 => cases hd
  rename_i i hi hdx
  cases hcond : (Nat.blt 0 i.bytes && Nat.blt 0 i.size && Nat.beq i.zero.length i.size && (Nat.beq i.size 1 || notStr x)) with
  | false => simp [hcond] at hd
  | true =>
    simp only [hcond, cond_true] at hd
    simp only [Bool.and_eq_true, Nat.blt_eq, beq_t, decide_eq_true_eq, Bool.or_eq_true] at hcond
    obtain ⟨⟨⟨c1, c2⟩, c3⟩, c4⟩ := hcond
    have c5 : i.size = 1 ∨ ∀ s, x ≠ .str s := c4.imp id (fun h s e => by subst e; cases h)
    split at hd
    case h_2 => cases hd
    rename_i new hnew
    have hnl := src_length hxlen c5 hnew
    obtain ⟨vn, hvn, hvnr⟩ := run_src (P := P) hr hx hnew
    obtain ⟨j, hj, hjb, hjs⟩ := run_info hT hi
    obtain ⟨z, hz, hzr⟩ := run_zero hT hi
    have hzl := (hzr p).length
    simp at hzl
    have hne : args' = #[s', x'] := by apply Array.ext'; simpa using hargs
    subst hne
    have hlenx : ∀ w, (Builtin.lenOf x').run P w = .ok n w := fun w => run_slen hx hxlen
    -- nothing is appended to an empty slice
    have none0 : ∀ (base : Option Addr) (c : Nat), n = 0 → (Builtin.append_ ts t #[.slice base 0 c, x']).run P w = .ok (.slice base 0 c) w := by
      intro base c h0
      rw [run_fits hT ht0 htx hu hux hdx hi hlenx base 0 c (by omega), hvn]
      have hv0 : vn = [] := by
        have h1 := hvnr.length
        rw [hnl, h0, Nat.zero_mul] at h1
        exact List.length_eq_zero_iff.1 h1.symm
      subst hv0
      cases base <;> simp [h0, storeCells]
    -- something is appended to a slice of capacity 0
    have some0 : ∀ (base : Option Addr), ¬ n = 0 → (2 * n + 1000) * i.bytes ≤ 281474976710656 → ∃ v' p' w', (Builtin.append_ ts t #[.slice base 0 0, x']).run P w = .ok v' w' ∧ VRel p' (.sl h.nx 0 n n i.size) v' ∧ Ext p h w p' (dnew h e new) w' := by
      intro base h0 hb
      obtain ⟨nc, hnc, hrun⟩ := run_grows (w := w) (t := t) hT ht0 htx hu hux hdx hi c1 hz hlenx base 0 0 (by omega) (by simpa using hb)
      simp only [Nat.zero_add] at hrun hnc
      have hd1 := Ext.drew hr (w.drawn + 1)
      obtain ⟨vn', hvn', hvnr'⟩ := run_src (P := P) hd1.rel hx hnew
      have hne2 := Ext.push (n := nc * i.size) hd1.rel (o := .cells new e (0, 0)) (x := .cells (#[] ++ vn'.toArray ++ Builtin.zeroCells z.cells (nc - n)) e) ?_
      · refine ⟨.slice (some ⟨w.heap.size, 0, none⟩) n nc, _, _, ?_, ?_, hd1.trans hne2⟩
        · rw [hrun]
          have hf : ∀ w, (Builtin.firstCells i.size 0 (Value.slice base 0 0)).run P w = .ok #[] w := by
            intro w
            cases base <;> simp [Builtin.firstCells, loadCells, loadCellsFrom]
          simp only [hf, Result.andThen_ok, hvn']
        · simp only [VRel]
          refine ⟨w.heap.size, nc * i.size, nc, by rw [← hr.len]; simp, rfl, Nat.le_refl _, by omega, fun h => by omega, fun _ => by omega⟩
      · have hl := hvnr'.length
        have hsz : (#[] ++ vn'.toArray ++ Builtin.zeroCells z.cells (nc - n)).size = nc * i.size := by
          have : vn'.length = n * i.size := by omega
          simp only [Array.size_append, zeroCells_size, List.size_toArray, List.size_toArray, this, ← hzl, c3, Nat.sub_mul]
          have : n * i.size ≤ nc * i.size := Nat.mul_le_mul_right _ (by omega)
          simp; omega
        refine ⟨_, (0, 0), rfl, hsz, ?_, ?_, fun i _ h1 h2 => ⟨h1, h2⟩⟩
        · rw [hnl]; exact Nat.mul_le_mul_right _ (by omega)
        · have := grown_rel (p := p) (old := []) (vo := []) (by simp) hvnr' (Builtin.zeroCells z.cells (nc - n))
          simpa using this.toC
    split at hd
    case h_5 => cases hd
    case h_1 =>
      simp only [VRel] at hs; subst hs
      rw [beq_t] at hd
      by_cases h0 : n = 0
      · simp only [h0, decide_true, cond_true, Option.some.injEq, Prod.mk.injEq] at hd
        obtain ⟨rfl, rfl⟩ := hd
        exact ⟨.slice none 0 0, p, w, none0 none 0 h0, by simp [VRel], Ext.refl hr⟩
      · simp only [h0, decide_false, cond_false] at hd
        cases hb : Nat.ble ((2 * n + 1000) * i.bytes) 281474976710656 with
        | false => simp [hb] at hd
        | true =>
          simp only [hb, cond_true, Option.some.injEq, Prod.mk.injEq] at hd
          obtain ⟨rfl, rfl⟩ := hd
          rw [Nat.ble_eq] at hb
          exact some0 none h0 hb
    case h_2 =>
      simp only [VRel] at hs; obtain ⟨a0, rfl⟩ := hs
      rw [beq_t] at hd
      by_cases h0 : n = 0
      · simp only [h0, decide_true, cond_true, Option.some.injEq, Prod.mk.injEq] at hd
        obtain ⟨rfl, rfl⟩ := hd
        exact ⟨_, p, w, none0 (some a0) 0 h0, by simp [VRel], Ext.refl hr⟩
      · simp only [h0, decide_false, cond_false] at hd
        cases hb : Nat.ble ((2 * n + 1000) * i.bytes) 281474976710656 with
        | false => simp [hb] at hd
        | true =>
          simp only [hb, cond_true, Option.some.injEq, Prod.mk.injEq] at hd
          obtain ⟨rfl, rfl⟩ := hd
          rw [Nat.ble_eq] at hb
          exact some0 (some a0) h0 hb
    case h_3 =>
      simp only [VRel] at hs; obtain ⟨a0, c0, rfl⟩ := hs
      rw [beq_t] at hd
      by_cases h0 : n = 0
      · simp only [h0, decide_true, cond_true, Option.some.injEq, Prod.mk.injEq] at hd
        obtain ⟨rfl, rfl⟩ := hd
        exact ⟨_, p, w, none0 (some a0) c0 h0, by simp [VRel], Ext.refl hr⟩
      · simp [h0] at hd
    case h_4 =>
      rename_i b off len cap o
      simp only [VRel] at hs
      obtain ⟨r, m, c, hp, rfl, hlen, hcap, ho1, ho2⟩ := hs
      cases hle : Nat.ble (len + n) cap with
      | true =>
        simp only [hle, cond_true, Option.map_eq_some_iff, Prod.mk.injEq] at hd
        obtain ⟨h1, hw, rfl, rfl⟩ := hd
        rw [Nat.ble_eq] at hle
        obtain ⟨r', m', w', g1, g2, g3⟩ := sim_wr (P := P) hr hvnr hw
        rw [hp] at g1; cases g1
        refine ⟨.slice (some ⟨r, off, none⟩) (len + n) c, p, w', ?_, ?_, g3⟩
        · rw [run_fits hT ht0 htx hu hux hdx hi hlenx _ len c (by omega), hvn]
          simp only [Result.andThen_ok, Addr.add_mk, g2]
        · simp only [VRel]
          exact ⟨r, m, c, hp, rfl, hle, hcap, ho1, ho2⟩
      | false =>
        simp only [hle, cond_false] at hd
        have hle' : ¬ (len + n ≤ cap) := by rw [← Nat.ble_eq, hle]; simp
        cases hb : Nat.ble ((2 * (len + n) + 1000) * i.bytes) 281474976710656 with
        | false => simp [hb] at hd
        | true =>
          simp only [hb, cond_true] at hd
          rw [Nat.ble_eq] at hb
          split at hd
          case h_2 => cases hd
          rename_i old hold
          have hol := src_length (x := .sl b off len cap o) (n := len) rfl (.inr (fun s e => by cases e)) hold
          have hsrel : ∀ q : Pl, (∃ q', q = p ++ q') → VRel q (.sl b off len cap o) (.slice (some ⟨r, off, none⟩) len c) := by
            rintro q ⟨q', rfl⟩
            exact VRel.mono q' (by simp only [VRel]; exact ⟨r, m, c, hp, rfl, hlen, hcap, ho1, ho2⟩)
          -- a new row, for a slice whose capacity is used up
          have fresh : ∀ (_ : c < len + n) (h2 : H), R p h2 { w with drawn := w.drawn + 1 } → h2.nx = h.nx →
              ∃ v' p' w', (Builtin.append_ ts t #[.slice (some ⟨r, off, none⟩) len c, x']).run P w = .ok v' w' ∧ VRel p' (.sl h.nx 0 (len + n) (len + n) i.size) v' ∧
                Ext p h2 { w with drawn := w.drawn + 1 } p' (h2.push (.cells (old ++ new) e (0, 0))) w' := by
            intro hlt h2 hr2 hnx
            obtain ⟨nc, hnc, hrun⟩ := run_grows (w := w) (t := t) hT ht0 htx hu hux hdx hi c1 hz hlenx (some ⟨r, off, none⟩) len c hlt hb
            have hd1 := Ext.drew hr (w.drawn + 1)
            obtain ⟨vn', hvn', hvnr'⟩ := run_src (P := P) hd1.rel hx hnew
            obtain ⟨vo', hvo', hvor'⟩ := run_src (P := P) (x := .sl b off len cap o) hd1.rel (hsrel p ⟨[], by simp⟩) hold
            have hl := hvnr'.length
            have hl2 := hvor'.length
            have hsz : (vo'.toArray ++ vn'.toArray ++ Builtin.zeroCells z.cells (nc - (len + n))).size = nc * i.size := by
              have e1 : vn'.length = n * i.size := by omega
              have e2 : vo'.length = len * i.size := by omega
              simp only [Array.size_append, zeroCells_size, List.size_toArray, e1, e2, ← hzl, c3, Nat.sub_mul, Nat.add_mul]
              have : (len + n) * i.size ≤ nc * i.size := Nat.mul_le_mul_right _ (by omega)
              rw [Nat.add_mul] at this
              omega
            have hne2 := Ext.push (n := nc * i.size) hr2 (o := .cells (old ++ new) e (0, 0)) (x := .cells (vo'.toArray ++ vn'.toArray ++ Builtin.zeroCells z.cells (nc - (len + n))) e)
              ⟨_, (0, 0), rfl, hsz, by rw [List.length_append, hol, hnl, ← Nat.add_mul]; exact Nat.mul_le_mul_right _ (by omega), (grown_rel hvor' hvnr' _).toC, fun i _ h1 h2 => ⟨h1, h2⟩⟩
            refine ⟨.slice (some ⟨w.heap.size, 0, none⟩) (len + n) nc, _, _, ?_, ?_, hne2⟩
            · rw [hrun, hvo']
              simp only [Result.andThen_ok, hvn']
            · simp only [VRel]
              refine ⟨w.heap.size, nc * i.size, nc, ?_, rfl, Nat.le_refl _, by omega, fun h => by omega, fun _ => by omega⟩
              rw [← hnx, ← hr2.len]; simp
          rw [beq_t] at hd
          by_cases h0 : o = 0
          · simp only [h0, decide_true, cond_true, Option.some.injEq, Prod.mk.injEq] at hd
            obtain ⟨rfl, rfl⟩ := hd
            have := ho1 h0
            have hd1 := Ext.drew hr (w.drawn + 1)
            obtain ⟨v', p', w', k1, k2, k3⟩ := fresh (by omega) h hd1.rel rfl
            exact ⟨v', p', w', k1, k2, hd1.trans k3⟩
          · simp only [h0, decide_false, cond_false] at hd
            split at hd
            case h_2 => cases hd
            rename_i cs te fz hbk
            cases hc2 : (Nat.beq off 0 && Nat.beq o i.size && Nat.beq te e && Nat.ble fz.2 fz.1 && new.all V.one) with
            | false => simp [hc2] at hd
            | true =>
              simp only [hc2, cond_true, Option.some.injEq, Prod.mk.injEq] at hd
              obtain ⟨rfl, rfl⟩ := hd
              simp only [Bool.and_eq_true, Nat.ble_eq, beq_t, decide_eq_true_eq, List.all_eq_true] at hc2
              obtain ⟨⟨⟨⟨rfl, rfl⟩, rfl⟩, d4⟩, d5⟩ := hc2
              by_cases hfit : len + n ≤ c
              · -- there was room: the row goes on under a new number
                obtain ⟨r', m', cc, fz', g1, g2, g3, g4, g5, g6, g7⟩ := cell_of hr hbk
                rw [hp] at g1; cases g1
                have hm := ho2 h0
                have hl := hvnr.length
                have hone : ∀ v ∈ vn, v.oneCell' = true := by
                  intro v hv
                  obtain ⟨k, hk⟩ := List.mem_iff_getElem?.1 hv
                  have hk' := (List.getElem?_eq_some_iff.1 hk).1
                  obtain ⟨u, hu1, hu2⟩ := hvnr.get (i := k) (d := new[k]'(by omega)) (by simp)
                  rw [hk] at hu1; cases hu1
                  exact hu2.one (d5 _ (List.getElem_mem _))
                have hbnd : len * i.size + n * i.size ≤ c * i.size := by rw [← Nat.add_mul]; exact Nat.mul_le_mul_right _ hfit
                obtain ⟨cc', k1, k2, k3⟩ := run_storeCells (P := P) vn w cc (len * i.size) 0 g2 (by omega) hone (by
                  rintro k _ hk ⟨q1, q2⟩
                  have := g7 (len * i.size + k) (by omega) q1 q2
                  omega)
                have hrd : old = cs.take (len * i.size) ∧ len * i.size ≤ cs.length := by
                  unfold src at hold; simp only [rd_eq] at hold; unfold rd0 at hold
                  simp only [hbk, Nat.zero_add, List.drop_zero] at hold
                  split at hold
                  · rename_i hc0; cases hold; exact ⟨rfl, hc0.1⟩
                  · cases hold
                refine ⟨.slice (some ⟨r, 0, none⟩) (len + n) c, p ++ [(r, m)], { w with heap := w.heap.setIfInBounds r (.cells cc' te fz') }, ?_, ?_, Ext.move hr (o' := .cells (old ++ new) te (0, 0)) hbk hp ⟨cc', fz', rfl, by omega, ?_, ?_, ?_⟩ rfl rfl rfl rfl (fun _ _ _ e1 hlk => by cases e1; obtain ⟨l1, _, l3⟩ := hlk; omega)⟩
                · rw [run_fits hT ht0 htx hu hux hdx hi hlenx _ len c hfit, hvn]
                  simp only [Result.andThen_ok, Addr.add_mk, Nat.zero_add, k1]
                · simp only [VRel]
                  exact ⟨r, m, c, by rw [← hr.len]; simp, rfl, Nat.le_refl _, hfit, fun h => by omega, fun _ => hm⟩
                · rw [List.length_append, hol, hnl]; omega
                · refine ⟨?_, ?_⟩
                  · simp; omega
                  · intro k d v hdk hvk hokk
                    have hkl : k < (old ++ new).length := (List.getElem?_eq_some_iff.1 hdk).1
                    rw [List.getElem?_take_of_lt hkl, k3] at hvk
                    rw [List.length_append, hol, hnl] at hkl
                    simp only [Nat.add_zero, List.getElem?_map] at hvk
                    rw [List.getElem?_range (by omega)] at hvk
                    simp only [Option.map_some, Option.some.injEq] at hvk
                    by_cases hk : k < len * i.size
                    · rw [List.getElem?_append_left (by omega), hrd.1, List.getElem?_take_of_lt hk] at hdk
                      rw [if_neg (by omega)] at hvk
                      obtain ⟨u, hu1, hu2⟩ := g5.get hdk hokk
                      rw [List.getElem?_take_of_lt (by omega)] at hu1
                      simp only [List.getD, hu1, Option.getD_some] at hvk
                      exact hvk ▸ hu2
                    · rw [List.getElem?_append_right (by omega), hol] at hdk
                      rw [if_pos (by omega)] at hvk
                      obtain ⟨u, hu1, hu2⟩ := hvnr.get hdk
                      simp only [List.getD, hu1, Option.getD_some] at hvk
                      exact hvk ▸ hu2
                · intro k hk q1 q2
                  have := g7 k hk q1 q2
                  omega
              · have hk := Ext.kill hr b
                have hd1 := Ext.drew hk.rel (w.drawn + 1)
                obtain ⟨v', p', w', k1, k2, k3⟩ := fresh (by omega) (h.kill b) hd1.rel rfl
                exact ⟨v', p', w', k1, k2, (hk.trans hd1).trans k3⟩
end
end
end Go.Det
end
section
namespace Go.Det
noncomputable section
section
variable {T : Tab} {P : Program} {p : Pl} {h : H} {w : World}
def dcopy (T : Tab) (h : H) (ts : Array TypeId) (args : List V) : Option (V × H) :=
  match ts[0]?, args with
  | some t, [d, x] =>
    match T.und t, slen d, slen x with
    | some (.slice e), some dl, some n =>
      match T.inf e with
      | some i =>
        match src h i.size x (Nat.min n dl) with
        | some new =>
          match d with
          | .nils => some (i64 (Nat.min n dl), h)
          | .sl b off _ _ _ => (wr h b off new).map fun h' => (i64 (Nat.min n dl), h')
          | _ => none
        | none => none
      | none => none
    | _, _, _ => none
  | _, _ => none
theorem sim_copy (hT : T.Ok P) (hr : R p h w) {ts : Array TypeId} {t : TypeId} {args : List V} {args' : Array Value} (ha : VRels p args args'.toList) {v : V} {h' : H} (hd : dcopy T h ts args = some (v, h')) :
    ∃ v' p' w', (Builtin.copy_ ts t args').run P w = .ok v' w' ∧ VRel p' v v' ∧ Ext p h w p' h' w' := by
  unfold dcopy at hd
  split at hd
  case h_2 => cases hd
  rename_i t0 d x ht0
  obtain ⟨d', x', hargs, hdr, hx⟩ := ha.two
  have hne : args' = #[d', x'] := by apply Array.ext'; simpa using hargs
  subst hne
  split at hd
  case h_2 => cases hd
  rename_i e dl n hu hdl hn
  split at hd
  case h_2 => cases hd
  rename_i i hi
  split at hd
  case h_2 => cases hd
  rename_i new hnew
  obtain ⟨vn, hvn, hvnr⟩ := run_src (P := P) hr hx hnew
  unfold Builtin.copy_
  simp only [ht0, List.getElem?_toArray, List.getElem?_cons_zero, List.getElem?_cons_succ, Sem.run_bind, run_und hT hu, Result.andThen_ok]
  split at hd
  case h_3 => cases hd
  case h_1 =>
    simp only [VRel] at hdr; subst hdr
    simp only [slen, Option.some.injEq] at hdl; subst hdl
    cases hd
    simp only [Sem.run_bind, run_slen hx hn, run_size hT hi, Result.andThen_ok, hvn]
    refine ⟨_, p, w, Sem.run_pure .., ?_, Ext.refl hr⟩
    simp [i64, VRel, goInt]
  case h_2 =>
    rename_i b off len cap o
    simp only [slen, Option.some.injEq] at hdl; subst hdl
    simp only [VRel] at hdr
    obtain ⟨r, m, c, hp, rfl, _⟩ := hdr
    rw [Option.map_eq_some_iff] at hd
    obtain ⟨h1, hw, he⟩ := hd
    cases he
    obtain ⟨r', m', w', g1, g2, g3⟩ := sim_wr (P := P) hr hvnr hw
    rw [hp] at g1; cases g1
    simp only [Sem.run_bind, run_slen hx hn, run_size hT hi, Result.andThen_ok, hvn, g2]
    refine ⟨_, p, w', Sem.run_pure .., ?_, g3⟩
    simp [i64, VRel, goInt]
def drange (T : Tab) (h : H) (t : TypeId) (x : V) : Option (V × H) :=
  match T.und t, x with
  | some .string, .str s => some (.ptr h.nx 0, h.push (.siter s 0))
  | _, _ => none
theorem sim_range (hT : T.Ok P) (hr : R p h w) {t : TypeId} {x : V} {x' : Value} (hx : VRel p x x') {v : V} {h' : H} (hd : drange T h t x = some (v, h')) :
    ∃ v' p' w', (Instr.range t x').run P w = .ok v' w' ∧ VRel p' v v' ∧ Ext p h w p' h' w' := by
  unfold drange at hd
  split at hd
  case h_2 => cases hd
  rename_i s hu
  cases hd
  simp only [VRel] at hx; subst hx
  have he := Ext.push (n := 0) hr (o := .siter s 0) (x := .stringIter (bytesOf s) 0) rfl
  refine ⟨.pointer (some ⟨w.heap.size, 0, none⟩), _, _, ?_, ?_, he⟩
  · unfold Instr.range
    simp only [Sem.run_bind, run_und hT hu, Result.andThen_ok, Sem.run_pure, run_newObj]
  · simp only [VRel]; exact ⟨w.heap.size, 0, by rw [← hr.len]; simp, rfl⟩
def dnext (h : H) (it : V) (isStr : Bool) : Option (V × H) :=
  match it, isStr with
  | .ptr b 0, true =>
    match h.get b with
    | some (.siter s pos) =>
      bif Nat.blt pos s.length then
        some (.tup [.bool true, i64 pos, .int .i32 (Utf8.decode (bytesOf s) pos).1], h.put b (.siter s (pos + (Utf8.decode (bytesOf s) pos).2)))
      else some (.tup [.bool false], h)
    | _ => none
  | _, _ => none
theorem sim_next (hr : R p h w) {it : V} {it' : Value} {isStr : Bool} {t : TypeId} (hx : VRel p it it') {v : V} {h' : H} (hd : dnext h it isStr = some (v, h')) :
    ∃ v' p' w', (Instr.next it' isStr t).run P w = .ok v' w' ∧ VRel p' v v' ∧ Ext p h w p' h' w' := by
  unfold dnext at hd
  split at hd
  case h_2 => cases hd
  rename_i b
  simp only [VRel] at hx
  obtain ⟨r, n, hp, rfl⟩ := hx
  split at hd
  case h_2 => cases hd
  rename_i s pos hb
  obtain ⟨r', n', x, h1, h2, h3⟩ := hr.obj _ _ hb
  rw [hp] at h1; cases h1
  simp only [ORel] at h3; subst h3
  rw [blt_t] at hd
  unfold Instr.next
  simp only [Sem.run_bind, getObj, Sem.run, h2, Result.andThen_ok, bytesOf_size]
  by_cases hlt : pos < s.length
  · simp only [hlt, decide_true, cond_true, Option.some.injEq, Prod.mk.injEq] at hd
    obtain ⟨rfl, rfl⟩ := hd
    simp only [hlt, if_true, Sem.run_bind, setObj, Sem.run, h2, Result.andThen_ok]
    refine ⟨_, p, _, Sem.run_pure .., ?_, Ext.put hr hb hp (o' := .siter s (pos + (Utf8.decode (bytesOf s) pos).2)) rfl rfl rfl rfl rfl⟩
    simp [VRel, i64, goInt]
  · simp only [hlt, decide_false, cond_false, Option.some.injEq, Prod.mk.injEq] at hd
    obtain ⟨rfl, rfl⟩ := hd
    simp only [hlt, if_false]
    exact ⟨_, p, w, Sem.run_pure .., by simp [VRel], Ext.refl hr⟩
def dmakeMap (h : H) (r : Option V) : Option (V × H) :=
  match r with
  | none => some (.map h.nx, h.push (.map [] 0))
  | some _ => none
theorem sim_makeMap (hr : R p h w) {t : TypeId} {r : Option V} {r' : Option Value} (hx : ORelV p r r') {v : V} {h' : H} (hd : dmakeMap h r = some (v, h')) :
    ∃ v' p' w', (Instr.makeMap t r').run P w = .ok v' w' ∧ VRel p' v v' ∧ Ext p h w p' h' w' := by
  unfold dmakeMap at hd
  split at hd
  case h_2 => cases hd
  cases hd
  simp only [ORelV] at hx; subst hx
  have he := Ext.push (n := 0) hr (o := .map [] 0) (x := .map #[] 0) ⟨#[], rfl, .nil⟩
  refine ⟨.map (some w.heap.size), _, _, ?_, ?_, he⟩
  · unfold Instr.makeMap
    simp
  · simp only [VRel]; exact ⟨w.heap.size, 0, by rw [← hr.len]; simp, rfl⟩
/-- are two keys of type kt the same -/
def dkeq (T : Tab) (kt : TypeId) (a b : V) : Option Bool :=
  match T.und kt, a, b with
  | some (.int _), .int k x, .int k' y => if k = k' then some (x == y) else none
  | some .string, .str x, .str y => some (x == y)
  | some .bool, .bool x, .bool y => some (x == y)
  | _, _, _ => none
def dfind (T : Tab) (kt : TypeId) (k : V) : List (V × V × Nat) → Nat → Option (Option (Nat × V))
  | [], _ => some none
  | (a, v, _) :: es, i =>
    match dkeq T kt k a with
    | some true => some (some (i, v))
    | some false => dfind T kt k es (i + 1)
    | none => none
def plainKey : V → Bool
  | .int .. | .str _ | .bool _ => true
  | _ => false
theorem bytes_beq (x y : ByteArray) : (x == y) = (x.data == y.data) := rfl
theorem sim_keq {kt : TypeId} {a b : V} {a' b' : Value} (ha : VRel p a a') (hb : VRel p b b') {r : Bool} (hd : dkeq T kt a b = some r) {d : TypeDesc} (hu : T.und kt = some d) :
    Instr.sameNow d a' b' = some r ∧ (r = true → a' = b') := by
  unfold dkeq at hd
  split at hd
  case h_1 =>
    rename_i hu'
    rw [hu] at hu'; cases hu'
    simp only [VRel] at ha hb; subst ha hb
    split at hd
    · rename_i e; subst e; cases hd; exact ⟨by simp [Instr.sameNow], fun h => by simp at h; subst h; rfl⟩
    · cases hd
  case h_2 =>
    rename_i hu'
    rw [hu] at hu'; cases hu'
    simp only [VRel] at ha hb; subst ha hb
    cases hd
    refine ⟨?_, fun h => by simp at h; subst h; rfl⟩
    simp only [Instr.sameNow]
    congr 1
    rw [bytes_beq, Bool.eq_iff_iff]
    simp [bytesOf]
  case h_3 =>
    rename_i hu'
    rw [hu] at hu'; cases hu'
    simp only [VRel] at ha hb; subst ha hb
    cases hd
    exact ⟨rfl, fun h => by simp at h; subst h; rfl⟩
  case h_4 => cases hd
theorem sim_find {kt : TypeId} {k : V} {k' : Value} (hk : VRel p k k') {d : TypeDesc} (hu : T.und kt = some d) :
    ∀ {es : List (V × V × Nat)} {l : List MapEntry}, ERel p es l → ∀ {i : Nat} {r : Option (Nat × V)}, dfind T kt k es i = some r →
    ∃ r', Instr.findNow d k' l i = some r' ∧ (match r with | none => r' = none | some (j, v) => ∃ v', r' = some (j, v') ∧ VRel p v v' ∧ i ≤ j ∧ ∃ e, l[j - i]? = some e ∧ e.key = k') := by
  intro es l he
  induction he with
  | nil => intro i r hd; simp only [dfind, Option.some.injEq] at hd; subst hd; exact ⟨none, rfl, rfl⟩
  | @cons a v b es e l h1 h2 h3 _ ih =>
    intro i r hd
    unfold dfind at hd
    split at hd
    case h_1 =>
      rename_i hq
      cases hd
      obtain ⟨g1, g2⟩ := sim_keq hk h1 hq hu
      exact ⟨some (i, e.val), by simp [Instr.findNow, g1], e.val, rfl, h2, Nat.le_refl _, e, by simp, (g2 rfl).symm⟩
    case h_2 =>
      rename_i hq
      obtain ⟨g1, _⟩ := sim_keq hk h1 hq hu
      obtain ⟨r', k1, k2⟩ := ih hd
      refine ⟨r', by simp [Instr.findNow, g1, k1], ?_⟩
      cases r with
      | none => exact k2
      | some jv =>
        obtain ⟨j, v⟩ := jv
        obtain ⟨v', m1, m2, m3, e', m4, m5⟩ := k2
        refine ⟨v', m1, m2, by omega, e', ?_, m5⟩
        have : j - i = (j - (i + 1)) + 1 := by omega
        rw [this]; simpa using m4
    case h_3 => cases hd
theorem run_checkKey {k : V} {k' : Value} (hk : VRel p k k') (hp : plainKey k = true) (hT : T.Ok P) {kt : TypeId} {d : TypeDesc} (hu : T.und kt = some d) (hs : isAggD d = false) (hi : ∀ ms, d ≠ .interface ms) (b : Bool) :
    (Instr.checkKey b 10000 kt k').run P w = .ok () w := by
  unfold Instr.checkKey
  rw [Sem.run_bind, run_und hT hu]
  simp only [Result.andThen_ok]
  cases k <;> simp only [plainKey] at hp <;> simp only [VRel] at hk
  case bool | int | str =>
    subst hk
    cases d <;> first | rfl | (cases hs; done) | exact absurd rfl (hi _)
  all_goals cases hp
def plainD : TypeDesc → Bool
  | .int _ | .string | .bool => true
  | _ => false
theorem plainD_ok {d : TypeDesc} (h : plainD d = true) : isAggD d = false ∧ ∀ ms, d ≠ .interface ms := by
  cases d <;> first | (cases h; done) | exact ⟨rfl, fun ms e => by cases e⟩
theorem sameBits_refl {k : V} {k' : Value} (hk : VRel p k k') (hp : plainKey k = true) : Instr.sameBits 10000 k' k' = true := by
  cases k <;> simp only [plainKey] at hp <;> simp only [VRel] at hk
  case bool => subst hk; simp [Instr.sameBits]
  case int => subst hk; simp [Instr.sameBits]
  case str => subst hk; simp [Instr.sameBits, bytes_beq]
  all_goals cases hp
theorem sameCell_eq {a b : V} {a' b' : Value} (ha : VRel p a a') (hb : VRel p b b') (h : sameCell a b = some true) : a' = b' := by
  unfold sameCell at h
  split at h
  case h_1 => simp only [VRel] at ha hb; subst ha hb; simp at h; subst h; rfl
  case h_2 =>
    split at h
    · rename_i e; subst e; simp only [VRel] at ha hb; subst ha hb; simp at h; subst h; rfl
    · cases h
  case h_3 => simp only [VRel] at ha hb; subst ha hb; simp at h; subst h; rfl
  case h_4 => cases h
theorem sameCells_eq : ∀ {xs ys : List V} {x y : List Value}, VRels p xs x → VRels p ys y → sameCells xs ys = some true → x = y
  | [], [], x, y, hx, hy, _ => by simp at hx hy; subst hx hy; rfl
  | [], _ :: _, _, _, _, _, h => by simp [sameCells] at h
  | _ :: _, [], _, _, _, _, h => by simp [sameCells] at h
  | a :: as, b :: bs, x, y, hx, hy, h => by
    simp only [VRels] at hx hy
    obtain ⟨u, us, rfl, h1, h2⟩ := hx
    obtain ⟨v, vs, rfl, h3, h4⟩ := hy
    unfold sameCells at h
    split at h
    case h_1 =>
      rename_i hc
      rw [sameCell_eq h1 h3 hc, sameCells_eq h2 h4 h]
    case h_2 => split at h <;> cases h
    case h_3 => cases h
theorem fit_bits : ∀ {ks : List FK} {xs : List V} {x : List Value}, fit ks xs = true → VRels p xs x → (x.zip x).all (fun (a, b) => Instr.sameBits 9999 a b) = true
  | [], [], x, _, hx => by simp at hx; subst hx; rfl
  | [], _ :: _, _, h, _ => by simp [fit] at h
  | _ :: _, [], _, h, _ => by simp [fit] at h
  | k :: ks, v :: vs, x, h, hx => by
    simp only [VRels] at hx
    obtain ⟨u, us, rfl, h1, h2⟩ := hx
    unfold fit at h
    cases hk : k.ok v with
    | false => simp [hk] at h
    | true =>
      simp only [hk, cond_true] at h
      have h3 := fit_bits h h2
      simp only [List.zip_cons_cons, List.all_cons, h3, Bool.and_true]
      unfold FK.ok at hk
      split at hk
      case h_1 => simp only [VRel] at h1; subst h1; simp [Instr.sameBits]
      case h_2 => simp only [VRel] at h1; subst h1; simp [Instr.sameBits, bytes_beq]
      case h_3 => simp only [VRel] at h1; subst h1; simp [Instr.sameBits]
      case h_4 => cases hk
def dfindS (ks : List FK) (k : List V) : List (V × V × Nat) → Nat → Option (Option (Nat × V))
  | [], _ => some none
  | (a, v, _) :: es, i =>
    match a with
    | .agg ys => match dflat (some ks) k ys with
      | some true => some (some (i, v))
      | some false => dfindS ks k es (i + 1)
      | none => none
    | _ => none
/-- k is a key of type kt -/
def keyOk (T : Tab) (kt : TypeId) (d : TypeDesc) (k : V) : Bool :=
  match k with
  | .agg xs => match T.flat kt with
    | some ks => fit ks xs
    | none => false
  | k => plainKey k && plainD d
def dfindK (T : Tab) (kt : TypeId) (k : V) (es : List (V × V × Nat)) : Option (Option (Nat × V)) :=
  match k with
  | .agg xs => match T.flat kt with
    | some ks => dfindS ks xs es 0
    | none => none
  | k => dfind T kt k es 0
theorem run_findAsking (hT : T.Ok P) {kt : TypeId} {ks : List FK} (hf : T.flat kt = some ks) {xs : List V} {x : Array Value} (hx : VRels p xs x.toList) :
    ∀ {es : List (V × V × Nat)} {l : List MapEntry}, ERel p es l → ∀ {i : Nat} {r : Option (Nat × V)}, dfindS ks xs es i = some r →
    ∃ r', (Instr.findAsking kt (.agg x) l i).run P w = .ok r' w ∧ (match r with | none => r' = none | some (j, v) => ∃ v', r' = some (j, v') ∧ VRel p v v' ∧ i ≤ j ∧ ∃ e, l[j - i]? = some e ∧ e.key = .agg x) := by
  intro es l he
  induction he with
  | nil => intro i r hd; simp only [dfindS, Option.some.injEq] at hd; subst hd; exact ⟨none, rfl, rfl⟩
  | @cons a v b es e l h1 h2 h3 _ ih =>
    intro i r hd
    unfold dfindS at hd
    split at hd
    case h_2 => cases hd
    rename_i ys
    simp only [VRel] at h1
    obtain ⟨y, hy, h1⟩ := h1
    split at hd
    case h_3 => cases hd
    case h_1 =>
      rename_i hc
      cases hd
      obtain ⟨l', e1, g1, g2, g3⟩ := dflat_some hc
      cases e1
      refine ⟨some (i, e.val), ?_, e.val, rfl, h2, Nat.le_refl _, e, by simp, ?_⟩
      · simp only [Instr.findAsking, Sem.run_bind, hy, hT.flat kt ks hf p xs ys x y true w g1 g2 hx h1 g3, Result.andThen_ok, if_true, Sem.run_pure]
      · rw [hy]
        have := sameCells_eq hx h1 g3
        congr 1
        exact (Array.toList_inj.1 this).symm
    case h_2 =>
      rename_i hc
      obtain ⟨l', e1, g1, g2, g3⟩ := dflat_some hc
      cases e1
      obtain ⟨r', k1, k2⟩ := ih hd
      refine ⟨r', ?_, ?_⟩
      · simp only [Instr.findAsking, Sem.run_bind, hy, hT.flat kt ks hf p xs ys x y false w g1 g2 hx h1 g3, Result.andThen_ok, Bool.false_eq_true, if_false]
        exact k1
      · cases r with
        | none => exact k2
        | some jv =>
          obtain ⟨j, v⟩ := jv
          obtain ⟨v', m1, m2, m3, e', m4, m5⟩ := k2
          refine ⟨v', m1, m2, by omega, e', ?_, m5⟩
          have : j - i = (j - (i + 1)) + 1 := by omega
          rw [this]; simpa using m4
theorem run_keyOk (hT : T.Ok P) {kt : TypeId} {d : TypeDesc} (hu : T.und kt = some d) {k : V} {k' : Value} (hk : VRel p k k') (hc : keyOk T kt d k = true) (b : Bool) :
    (Instr.checkKey b 10000 kt k').run P w = .ok () w := by
  unfold keyOk at hc
  split at hc
  case h_1 =>
    rename_i xs
    split at hc
    case h_2 => cases hc
    rename_i ks hf
    simp only [VRel] at hk
    obtain ⟨x, rfl, hx⟩ := hk
    exact hT.key kt ks hf p xs x b w hc hx
  case h_2 =>
    simp only [Bool.and_eq_true] at hc
    obtain ⟨g1, g2⟩ := plainD_ok hc.2
    exact run_checkKey hk hc.1 hT hu g1 g2 b
theorem bits_keyOk {kt : TypeId} {d : TypeDesc} {k : V} {k' : Value} (hk : VRel p k k') (hc : keyOk T kt d k = true) : Instr.sameBits 10000 k' k' = true := by
  unfold keyOk at hc
  split at hc
  case h_1 =>
    rename_i xs
    split at hc
    case h_2 => cases hc
    rename_i ks hf
    simp only [VRel] at hk
    obtain ⟨x, rfl, hx⟩ := hk
    have := fit_bits hc hx
    simp only [Instr.sameBits, beq_self_eq_true, Bool.true_and]
    exact this
  case h_2 =>
    simp only [Bool.and_eq_true] at hc
    exact sameBits_refl hk hc.1
def entries (h : H) (m : V) : Option (List (V × V × Nat)) :=
  match m with
  | .nilm => some []
  | .map b => match h.get b with
    | some (.map es _) => some es
    | _ => none
  | _ => none
def dlookup (T : Tab) (h : H) (t : TypeId) (m k : V) (ok : Bool) : Option V :=
  match T.und t with
  | some (.map kt e) =>
    match T.und kt, entries h m with
    | some d, some es =>
      bif keyOk T kt d k then
        match dfindK T kt k es with
        | some (some (_, v)) => some (bif ok then .tup [v, .bool true] else v)
        | some none => match T.inf e with
          | some i => some (bif ok then .tup [i.zv, .bool false] else i.zv)
          | none => none
        | none => none
      else none
    | _, _ => none
  | _ => none
theorem ent_cases (hr : R p h w) {m : V} {m' : Value} (hm : VRel p m m') {es : List (V × V × Nat)} (hd : entries h m = some es) :
    (m' = .map none ∧ es = []) ∨ ∃ r l cl b n, m = .map b ∧ m' = .map (some r) ∧ p[b]? = some (r, n) ∧ h.get b = some (.map es cl) ∧ w.heap[r]? = some (.map l cl) ∧ ERel p es l.toList := by
  unfold entries at hd
  split at hd
  case h_1 => simp only [VRel] at hm; subst hm; cases hd; exact .inl ⟨rfl, rfl⟩
  case h_2 =>
    simp only [VRel] at hm
    obtain ⟨r, n, hp, rfl⟩ := hm
    split at hd
    case h_2 => cases hd
    rename_i es' cl hb
    cases hd
    obtain ⟨r', n', o, h1, h2, l, h3, h4⟩ := hr.obj _ _ hb
    rw [hp] at h1; cases h1; subst h3
    exact .inr ⟨r, l, cl, _, _, rfl, rfl, hp, hb, h2, h4⟩
  case h_3 => cases hd
theorem run_findKey (hT : T.Ok P) {kt : TypeId} {k : V} {k' : Value} (hk : VRel p k k') {d : TypeDesc} (hu : T.und kt = some d) {es : List (V × V × Nat)} {l : List MapEntry} (he : ERel p es l)
    {r : Option (Nat × V)} (hd : dfindK T kt k es = some r) :
    ∃ r', (Instr.findKey kt k' l).run P w = .ok r' w ∧ (match r with | none => r' = none | some (j, v) => ∃ v', r' = some (j, v') ∧ VRel p v v' ∧ ∃ e, l[j]? = some e ∧ e.key = k') := by
  by_cases hk2 : ∃ xs, k = .agg xs
  · obtain ⟨xs, rfl⟩ := hk2
    simp only [dfindK] at hd
    cases hf : T.flat kt with
    | none => simp [hf] at hd
    | some ks =>
      simp only [hf] at hd
      simp only [VRel] at hk
      obtain ⟨x, rfl, hx⟩ := hk
      obtain ⟨fs, hfs⟩ := hT.kind kt ks hf
      rw [hu] at hfs; cases hfs
      obtain ⟨r', h1, h2⟩ := run_findAsking (P := P) (w := w) hT hf hx he hd
      refine ⟨r', ?_, ?_⟩
      · unfold Instr.findKey
        simp only [Sem.run_bind, run_und hT hu, Result.andThen_ok]
        cases l with
        | nil => simp only [Instr.findNow]; simpa [Instr.findAsking] using h1
        | cons e l => simp only [Instr.findNow, Instr.sameNow]; exact h1
      · cases r with
        | none => exact h2
        | some jv =>
          obtain ⟨j, v⟩ := jv
          obtain ⟨v', m1, m2, m3, e', m4, m5⟩ := h2
          exact ⟨v', m1, m2, e', by simpa using m4, m5⟩
  · have hq : dfindK T kt k es = dfind T kt k es 0 := by cases k <;> first | rfl | exact absurd ⟨_, rfl⟩ hk2
    rw [hq] at hd
    obtain ⟨r', h1, h2⟩ := sim_find hk hu he hd
    refine ⟨r', ?_, ?_⟩
    · unfold Instr.findKey
      simp only [Sem.run_bind, run_und hT hu, Result.andThen_ok, h1, Sem.run_pure]
    · cases r with
      | none => exact h2
      | some jv =>
        obtain ⟨j, v⟩ := jv
        obtain ⟨v', m1, m2, m3, e', m4, m5⟩ := h2
        exact ⟨v', m1, m2, e', by simpa using m4, m5⟩
theorem sim_lookup (hT : T.Ok P) (hr : R p h w) {t : TypeId} {m k : V} {m' k' : Value} {ok : Bool} (hm : VRel p m m') (hk : VRel p k k') {v : V} (hd : dlookup T h t m k ok = some v) :
    ∃ v', (Instr.lookup t m' k' ok).run P w = .ok v' w ∧ VRel p v v' := by
  unfold dlookup at hd
  split at hd
  case h_2 => cases hd
  rename_i kt e hu
  split at hd
  case h_2 => cases hd
  rename_i d es hkd hes
  cases hc : keyOk T kt d k with
  | false => simp [hc] at hd
  | true =>
    simp only [hc, cond_true] at hd
    obtain ⟨l, hlr, hrun⟩ : ∃ l : List MapEntry, ERel p es l ∧ (Instr.lookup t m' k' ok).run P w = ((Instr.findKey kt k' l).run P w).andThen fun r w' =>
        match r with
        | some (_, v) => .ok (if ok then .tuple #[v, .bool true] else v) w'
        | none => ((zeroValue e).run P w').andThen fun z w' => .ok (if ok then .tuple #[z, .bool false] else z) w' := by
      rcases ent_cases hr hm hes with ⟨rfl, rfl⟩ | ⟨r, l, cl, b, n, rfl, rfl, hp, hb, hw, he⟩
      · refine ⟨[], .nil, ?_⟩
        unfold Instr.lookup
        simp only [Sem.run_bind, run_und hT hu, Result.andThen_ok, Sem.run_pure, run_keyOk hT hkd hk hc]
        congr 1
        funext r w'
        cases r <;> simp
      · refine ⟨l.toList, he, ?_⟩
        unfold Instr.lookup
        simp only [Sem.run_bind, run_und hT hu, Result.andThen_ok, Sem.run_pure, run_keyOk hT hkd hk hc, getObj, Sem.run, hw]
        congr 1
        funext r w'
        cases r <;> simp
    rw [hrun]
    split at hd
    case h_3 => cases hd
    case h_1 =>
      rename_i j v0 hf
      cases hd
      obtain ⟨r', k1, v', rfl, k3, _⟩ := run_findKey (P := P) (w := w) hT hk hkd hlr hf
      simp only [k1, Result.andThen_ok]
      cases ok
      · exact ⟨v', by simp, by simpa using k3⟩
      · exact ⟨.tuple #[v', .bool true], by simp, by simp only [cond_true, VRel]; exact ⟨_, rfl, by simp [k3, VRel]⟩⟩
    case h_2 =>
      rename_i hf
      split at hd
      case h_2 => cases hd
      rename_i i hi
      cases hd
      obtain ⟨r', k1, k2⟩ := run_findKey (P := P) (w := w) hT hk hkd hlr hf
      simp only at k2; subst k2
      obtain ⟨z, hz, hzr⟩ := run_zv hT hi
      simp only [k1, Result.andThen_ok, hz]
      cases ok
      · exact ⟨z, by simp, by simpa using hzr p⟩
      · exact ⟨.tuple #[z, .bool false], by simp, by simp only [cond_true, VRel]; exact ⟨_, rfl, by simp [hzr p, VRel]⟩⟩
def eset (es : List (V × V × Nat)) (i : Nat) (k v : V) : List (V × V × Nat) := es.modify i fun e => (k, v, e.2.2)
theorem ERel.modify {es : List (V × V × Nat)} {l : List MapEntry} (he : ERel p es l) {k v : V} {k' v' : Value} (hk : VRel p k k') (hv : VRel p v v') (i : Nat) :
    ERel p (eset es i k v) (l.modify i fun e => { e with key := k', val := v' }) := by
  unfold eset
  induction he generalizing i with
  | nil => simp; exact .nil
  | @cons a x b es e l h1 h2 h3 h4 ih =>
    cases i with
    | zero => simp; exact .cons hk hv h3 h4
    | succ i => simp; exact .cons h1 h2 h3 (ih i)
theorem ERel.snoc {es : List (V × V × Nat)} {l : List MapEntry} (he : ERel p es l) {k v : V} {e : MapEntry} (hk : VRel p k e.key) (hv : VRel p v e.val) : ERel p (es ++ [(k, v, e.born)]) (l ++ [e]) := by
  induction he with
  | nil => exact .cons hk hv rfl .nil
  | cons h1 h2 h3 _ ih => exact .cons h1 h2 h3 ih
def dupdate (T : Tab) (h : H) (t : TypeId) (m k v : V) : Option H :=
  match T.und t, m with
  | some (.map kt _), .map b =>
    match T.und kt, h.get b with
    | some d, some (.map es cl) =>
      bif keyOk T kt d k then
        match dfindK T kt k es with
        | some (some (i, _)) => some (h.put b (.map (eset es i k v) cl))
        | some none => some (h.put b (.map (es ++ [(k, v, cl)]) (cl + 1)))
        | none => none
      else none
    | _, _ => none
  | _, _ => none
theorem sim_update (hT : T.Ok P) (hr : R p h w) {t : TypeId} {m k v : V} {m' k' v' : Value} (hm : VRel p m m') (hk : VRel p k k') (hv : VRel p v v') {h' : H} (hd : dupdate T h t m k v = some h') :
    ∃ w', (Instr.mapUpdate t m' k' v').run P w = .ok () w' ∧ Ext p h w p h' w' := by
  unfold dupdate at hd
  split at hd
  case h_2 => cases hd
  rename_i kt e b hu
  split at hd
  case h_2 => cases hd
  rename_i d es cl hkd hb
  cases hc : keyOk T kt d k with
  | false => simp [hc] at hd
  | true =>
    simp only [hc, cond_true] at hd
    rcases ent_cases (es := es) hr hm (by simp only [entries, hb]) with ⟨rfl, _⟩ | ⟨r, l, cl', b', n, e1, rfl, hp, hb', hw, he⟩
    · simp [VRel] at hm
    · cases e1
      rw [hb] at hb'; cases hb'
      unfold Instr.mapUpdate
      simp only [Sem.run_bind, run_und hT hu, Result.andThen_ok, run_keyOk hT hkd hk hc, getObj, Sem.run, hw]
      split at hd
      case h_3 => cases hd
      case h_1 =>
        rename_i j v0 hf
        cases hd
        obtain ⟨r', k1, v1, rfl, k3, en, k4, k5⟩ := run_findKey (P := P) (w := w) hT hk hkd he hf
        simp only [k1, Result.andThen_ok]
        have hold : (l[j]?.map (·.key)).getD k' = k' := by
          have : l[j]? = some en := by simpa using k4
          simp [this, k5]
        rw [hold]
        unfold Instr.keyThatStays
        simp only [bits_keyOk hk hc, if_true, Sem.run_bind, Sem.run_pure, Result.andThen_ok, setObj, Sem.run, hw]
        refine ⟨_, rfl, Ext.put hr hb hp (o' := .map (eset es j k v) cl) ⟨_, rfl, ?_⟩ rfl rfl rfl rfl⟩
        have := he.modify hk hv j
        simpa using this
      case h_2 =>
        rename_i hf
        cases hd
        obtain ⟨r', k1, k2⟩ := run_findKey (P := P) (w := w) hT hk hkd he hf
        simp only at k2; subst k2
        simp only [k1, Result.andThen_ok, setObj, Sem.run, hw]
        refine ⟨_, rfl, Ext.put hr hb hp (o' := .map (es ++ [(k, v, cl)]) (cl + 1)) ⟨_, rfl, ?_⟩ rfl rfl rfl rfl⟩
        have := he.snoc (e := { key := k', val := v', born := cl }) hk hv
        simpa using this
end
end
end Go.Det
end
