import Derived.Test.YtnbinppdjnlhpaaGreatDoorX04
import Derived.LoopNIn
import Derived.OrdersIn
import Derived.RangeFuncLeaves
/- A part of the proofs of the laws of one chapter (no law is stated here). Made by program out of texts by AI agents. -/
section
namespace Go.Det
noncomputable section
def wantedD (fr : Fr) (ops : Array Oper) (o : Oper) : Bool :=
  match o.guard with
  | none => true
  | some (j, want) =>
    match (ops[j]?).bind (·.dst) with
    | some t => bif Nat.blt t fr.n then (match fr.get t with | .bool b => b == want | _ => false) else false
    | none => false
/-- what is called: a function, or a round of a range over a function -/
inductive Cl where
  | fn (f : FuncId) (args : List V)
  | rnd (b : Nat) (l : LS) (fr : Fr)
/-- all that a call may come to -/
abbrev CallF := Cl → H → Option (List (V × H))
def bl {α β : Type} : List α → (α → Option (List β)) → Option (List β)
  | [], _ => some []
  | a :: as, f => match f a with
    | none => none
    | some x => match as with
      | [] => some x
      | b :: bs => match bl (b :: bs) f with
        | some y => some (x ++ y)
        | none => none
theorem bl_mem {α β : Type} {f : α → Option (List β)} : ∀ {l : List α} {r : List β}, bl l f = some r → ∀ a ∈ l, ∃ x, f a = some x ∧ ∀ b ∈ x, b ∈ r
  | [], r, _, a, ha => by cases ha
  | [c], r, h, a, ha => by
    unfold bl at h
    split at h
    · cases h
    rename_i x hx
    cases h
    cases List.mem_singleton.1 ha
    exact ⟨_, hx, fun b hb => hb⟩
  | c :: d :: as, r, h, a, ha => by
    unfold bl at h
    split at h
    · cases h
    rename_i x hx
    simp only at h
    split at h
    case h_2 => cases h
    rename_i y hy
    cases h
    rcases List.mem_cons.1 ha with rfl | ha
    · exact ⟨_, hx, fun b hb => List.mem_append_left _ hb⟩
    · obtain ⟨z, h1, h2⟩ := bl_mem hy a ha
      exact ⟨z, h1, fun b hb => List.mem_append_right _ (h2 b hb)⟩
def putAll (fr : Fr) (d : Option Nat) : List (V × H) → Option (List (Fr × H))
  | [] => some []
  | (v, h) :: l => match fr.put d v with
    | some f => match putAll fr d l with
      | some r => some ((f, h) :: r)
      | none => none
    | none => none
theorem putAll_mem {fr : Fr} {d : Option Nat} : ∀ {l : List (V × H)} {r : List (Fr × H)}, putAll fr d l = some r → ∀ v h, (v, h) ∈ l → ∃ f, fr.put d v = some f ∧ (f, h) ∈ r
  | [], r, _, v, h, hm => by cases hm
  | (u, k) :: l, r, hd, v, h, hm => by
    unfold putAll at hd
    split at hd
    case h_2 => cases hd
    rename_i f hf
    split at hd
    case h_2 => cases hd
    rename_i r' hr
    cases hd
    rcases List.mem_cons.1 hm with e | hm
    · cases e; exact ⟨f, hf, by simp⟩
    · obtain ⟨g, h1, h2⟩ := putAll_mem hr v h hm
      exact ⟨g, h1, List.mem_cons_of_mem _ h2⟩
/-- one operation, carried out -/
def step1 (C : Ctx) (call : CallF) (ops : Array Oper) (o : Oper) (fr : Fr) (h : H) : Option (List (Fr × H)) :=
  bif wantedD fr ops o then
    match dopx C fr h o with
    | some (.val v h') => match fr.put o.dst v with
      | some fr' => some [(fr', h')]
      | none => none
    | some (.skip h') => match fr.put o.dst (.tup []) with
      | some fr' => some [(fr', h')]
      | none => none
    | some (.enter f args) => match call (.fn f args) h with
      | some l => putAll fr o.dst l
      | none => none
    | some (.round b ls f) => match call (.rnd b ls f) h with
      | some l => putAll fr o.dst l
      | none => none
    | some (.alts l) => putAll fr o.dst l
    | none => none
  else match fr.put o.dst (.tup []) with
    | some fr' => some [(fr', h)]
    | none => none
def dops (C : Ctx) (call : CallF) (ops : Array Oper) : List Oper → Fr → H → Option (List (Fr × H))
  | [], fr, h => some [(fr, h)]
  | o :: rest, fr, h => match step1 C call ops o fr h with
    | some l => bl l fun x => dops C call ops rest x.1 x.2
    | none => none
def FW (ro : Option Nat) : Fence := { Fence.wide with round := ro }
theorem callsW {ro : Option Nat} {n : Nat} {P : Program} {f : FuncId} {args : Array Value} {w : World} {R : Ending → World → Prop} : CallsIn (FW ro) n P f args w R ↔ Calls P f args w R := by
  have : CallsIn (FW ro) n P f args w R ↔ CallsIn Fence.wide n P f args w R := Iff.rfl
  exact this.trans callsIn_wide
theorem roundW {ro : Option Nat} {n : Nat} {P : Program} {k : Nat} {f : FuncId} {tmps : Array Value} {asg body : Code} {w : World} {R : Ending → World → Prop} (h : RoundIn Fence.wide 0 P k f tmps asg body w R) : RoundIn (FW ro) n P k f tmps asg body w R :=
  ⟨trivial, fun c cs _ => h.2 c cs (room_wide _)⟩
inductive DX where
  | normal
  | exit (id : Nat)
  | ret
def DX.toExit : DX → Exit
  | .normal => .normal
  | .exit id => .exit id
  | .ret => .ret
section
variable {C : Ctx} {P : Program} {p : Pl} {h : H} {w : World} {fr : Fr} {a : Act}
theorem FRel.put (hf : FRel p fr a) {d : Option Nat} {v : V} {v' : Value} (hv : VRel p v v') {fr' : Fr} (hd : fr.put d v = some fr') : FRel p fr' (a.put d v') := by
  unfold Fr.put at hd
  cases d with
  | none => cases hd; exact hf
  | some t =>
    simp only [blt_t] at hd
    by_cases hlt : t < fr.n
    · simp only [hlt, decide_true, cond_true, Option.some.injEq] at hd
      subst hd
      refine ⟨by simp [Act.put, hf.1], fun s => ?_⟩
      have hlt' : t < a.tmps.size := hf.1 ▸ hlt
      by_cases e : s = t
      · subst e
        simp [Fr.get, Act.put, hlt', hv]
      · have := hf.2 s
        simp only [Fr.get, PM.get_set, if_neg e, Act.put] at this ⊢
        rw [Array.getD_eq_getD_getElem?, Array.getElem?_setIfInBounds_ne (fun x => e x.symm), ← Array.getD_eq_getD_getElem?]
        exact this
    · simp [hlt] at hd
theorem FRel.mono (hf : FRel p fr a) {p' : Pl} (hp : ∃ q, p' = p ++ q) : FRel p' fr a := by
  obtain ⟨q, rfl⟩ := hp
  exact ⟨hf.1, fun t => (hf.2 t).mono q⟩
theorem FRel.ext (hf : FRel p fr a) {p' : Pl} {h' : H} {w' : World} (e : Ext p h w p' h' w') : FRel p' fr a := hf.mono e.pre
theorem bool_of {p : Pl} {v : V} {b : Bool} (hv : VRel p v (.bool b)) : v = .bool b := by
  cases v <;> simp only [VRel] at hv <;> first | (cases hv; rfl) | (simp at hv; done) | (obtain ⟨_, _, _, _, hx, _⟩ := hv; cases hx; done) | (obtain ⟨_, _, _, hx⟩ := hv; cases hx; done) | (obtain ⟨_, _, hx, _⟩ := hv; cases hx; done) | (obtain ⟨_, _, hx⟩ := hv; cases hx; done) | (obtain ⟨_, hx, _⟩ := hv; cases hx; done)
theorem wanted_eq (hf : FRel p fr a) (ops : Array Oper) (o : Oper) : Region.wanted o (yielded ops a.tmps) = wantedD fr ops o := by
  unfold Region.wanted wantedD
  cases hgd : o.guard with
  | none => rfl
  | some jw =>
    obtain ⟨j, want⟩ := jw
    simp only
    unfold yielded
    cases hb : (ops[j]?).bind (·.dst) with
    | none => simp
    | some t =>
      simp only [Option.bind_some, blt_t]
      by_cases hlt : t < fr.n
      · have hlt' : t < a.tmps.size := hf.1 ▸ hlt
        have hv := hf.2 t
        simp only [hlt, decide_true, cond_true]
        have e : a.tmps[t]? = some (a.tmps.getD t undef) := by simp [hlt']
        rw [e]
        cases hb2 : a.tmps.getD t undef with
        | bool b =>
          rw [hb2] at hv
          have := bool_of hv
          rw [this]
          cases b <;> cases want <;> rfl
        | _ =>
          rw [hb2] at hv
          cases hg2 : fr.get t with
          | bool b => rw [hg2] at hv; simp [VRel] at hv
          | _ => cases want <;> rfl
      · have : a.tmps[t]? = none := Array.getElem?_eq_none (Nat.le_of_not_lt (hf.1 ▸ hlt))
        simp [this, hlt]
/-- an ending is one of these -/
def Came (p : Pl) (h : H) (w : World) (l : List (V × H)) (e : Ending) (w' : World) : Prop :=
  ∃ v h' v' p', (v, h') ∈ l ∧ e = .returned v' ∧ VRel p' v v' ∧ Ext p h w p' h' w'
structure CallF.Ok (C : Ctx) (P : Program) (call : CallF) : Prop where
  fn : ∀ f args h l, call (.fn f args) h = some l → ∀ (p : Pl) (w : World) (args' : Array Value), R p h w → Gl C p → VRels p args args'.toList → Calls P f args' w (Came p h w l)
  rnd : ∀ b ls fr h l, call (.rnd b ls fr) h = some l → ∀ (p : Pl) (w : World) (k n : Nat) (f : FuncId) (tmps : Array Value), R p h w → Gl C p → h.get b = some (.loop ls) → p[b]? = some (k, n) → FRelT p fr tmps →
    RoundIn Fence.wide 0 P k f tmps ls.asg ls.body w (Came p h w l)
theorem dop_defer {o : Oper} {r : OR} (hd : dop C fr h o = some r) : ∀ c, o.op ≠ .defer c := by
  intro c e
  rw [dop_eq] at hd
  unfold dop0 at hd
  simp [e] at hd
theorem dopx_defer {o : Oper} {r : OR} (hd : dopx C fr h o = some r) : ∀ c, o.op ≠ .defer c := by
  intro c e
  unfold dopx at hd
  split at hd
  case h_1 => rename_i hr; exact dop_defer hr c e
  case h_2 => rw [e] at hd; cases hd
theorem putsAll {p' : Pl} {l : List (V × H)} {r : List (Fr × H)} {d : Option Nat} (hp : putAll fr d l = some r) (hf : FRel p fr a) {K : Act → World → Prop}
    (hK : ∀ x ∈ r, ∀ p' a' w', FRel p' x.1 a' → Ext p h w p' x.2 w' → a'.defers = a.defers → K a' w') {v : V} {h' : H} {v' : Value} {w' : World} (hm : (v, h') ∈ l) (hv : VRel p' v v') (he : Ext p h w p' h' w') : K (a.put d v') w' := by
  obtain ⟨f, h1, h2⟩ := putAll_mem hp v h' hm
  exact hK _ h2 p' _ w' ((hf.ext he).put hv h1) he (by cases d <;> rfl)
theorem sim_step1 (hC : C.Ok P) {call : CallF} (hcall : call.Ok C P) (hr : R p h w) (hg : Gl C p) (hf : FRel p fr a) {ops : Array Oper} {i : Nat} {o : Oper} (ho : ops[i]? = some o) {l : List (Fr × H)}
    (hd : step1 C call ops o fr h = some l) {ro : Option Nat} {n : Nat} {Q : Exit → Act → World → Prop} {K : Act → World → Prop}
    (hK : ∀ x ∈ l, ∀ p' a' w', FRel p' x.1 a' → Ext p h w p' x.2 w' → a'.defers = a.defers → K a' w') : wpOpIn (FW ro) n P ops Q i K a w := by
  have hdf : ∀ v, (a.put o.dst v).defers = a.defers := by intro v; cases o.dst <;> rfl
  unfold step1 at hd
  unfold wpOpIn
  simp only [ho]
  rw [wanted_eq hf]
  cases hw : wantedD fr ops o with
  | false =>
    simp only [hw, cond_false] at hd
    simp only [Bool.false_eq_true, if_false]
    refine ⟨fun _ _ => trivial, ?_⟩
    split at hd
    case h_2 => cases hd
    rename_i fr1 hp
    cases hd
    exact hK _ (List.mem_singleton.2 rfl) p _ w (hf.put (by simp [VRel, undef]) hp) (Ext.refl hr) (hdf _)
  | true =>
    simp only [hw, cond_true] at hd
    simp only [if_true]
    refine ⟨fun _ _ => trivial, ?_⟩
    split at hd
    case h_6 => cases hd
    case h_1 =>
      rename_i v h1 hop
      split at hd
      case h_2 => cases hd
      rename_i fr1 hp
      cases hd
      obtain ⟨v', p', w', g1, g2, g3⟩ := sim_opx hC hr hg hf hop
      rw [Oper.semAt_eq _ _ _ (dopx_defer hop), g1, Oper.uponIn_value]
      exact hK _ (List.mem_singleton.2 rfl) p' _ w' ((hf.ext g3).put g2 hp) g3 (hdf _)
    case h_2 =>
      rename_i h1 hop
      split at hd
      case h_2 => cases hd
      rename_i fr1 hp
      cases hd
      obtain ⟨p', w', g1, g3⟩ := sim_opx hC hr hg hf hop
      rw [Oper.semAt_eq _ _ _ (dopx_defer hop), g1, Oper.uponIn_skip]
      exact hK _ (List.mem_singleton.2 rfl) p' _ w' ((hf.ext g3).put (by simp [VRel, undef]) hp) g3 (hdf _)
    case h_3 =>
      rename_i f args hop
      split at hd
      case h_2 => cases hd
      rename_i l1 hc
      obtain ⟨args', g1, g2⟩ := sim_opx hC hr hg hf hop
      rw [Oper.semAt_eq _ _ _ (dopx_defer hop), g1, Oper.uponIn_enter]
      refine ⟨fun h => (by simp [FW, Fence.wide] at h), callsW.2 ((hcall.fn f args h l1 hc p w args' hr hg g2).mono ?_)⟩
      rintro e w' ⟨v, h', v', p', hm, rfl, k1, k2⟩
      exact putsAll hd hf hK hm k1 k2
    case h_4 =>
      rename_i b ls f hop
      split at hd
      case h_2 => cases hd
      rename_i l1 hc
      obtain ⟨k, m, g, tmps, g1, g2, g3, g4⟩ := sim_opx hC hr hg hf hop
      rw [Oper.semAt_eq _ _ _ (dopx_defer hop), g3, Oper.uponIn_round]
      refine ⟨fun h => (by simp [FW, Fence.wide] at h), (roundW (hcall.rnd b ls f h l1 hc p w k m g tmps hr hg g2 g1 g4)).mono ?_⟩
      rintro e w' ⟨v, h', v', p', hm, rfl, k1, k2⟩
      exact putsAll hd hf hK hm k1 k2
    case h_5 =>
      rename_i l1 hop
      obtain ⟨v, h', v', p', w', hm, g1, g2, g3⟩ := sim_opx hC hr hg hf hop
      rw [Oper.semAt_eq _ _ _ (dopx_defer hop), g1, Oper.uponIn_value]
      exact putsAll hd hf hK hm g2 g3
theorem sim_dops (hC : C.Ok P) {call : CallF} (hcall : call.Ok C P) {ops : Array Oper} {ro : Option Nat} {n : Nat} {Q : Exit → Act → World → Prop} :
    ∀ (l : List Oper) (k : Nat), (∀ j, l[j]? = ops[k + j]?) → ∀ {p : Pl} {h : H} {w : World} {fr : Fr} {a : Act}, R p h w → Gl C p → FRel p fr a → ∀ {L : List (Fr × H)}, dops C call ops l fr h = some L →
    (∀ x ∈ L, ∀ p' a' w', FRel p' x.1 a' → Ext p h w p' x.2 w' → a'.defers = a.defers → Q .normal a' w') → wpOpsIn (FW ro) n P ops Q (List.range' k l.length) a w
  | [], k, _, p, h, w, fr, a, hr, hg, hf, L, hd, hQ => by
    cases hd
    exact hQ _ (List.mem_singleton.2 rfl) p a w hf (Ext.refl hr) rfl
  | o :: l, k, hl, p, h, w, fr, a, hr, hg, hf, L, hd, hQ => by
    unfold dops at hd
    split at hd
    case h_2 => cases hd
    rename_i l1 hs
    rw [List.length_cons, List.range'_succ, wpOpsIn_cons]
    refine sim_step1 hC hcall hr hg hf (by simpa using (hl 0).symm) hs (K := wpOpsIn (FW ro) n P ops Q (List.range' (k + 1) l.length)) fun x hx p1 a1 w1 hf1 he1 hdf1 => ?_
    obtain ⟨L1, g1, g2⟩ := bl_mem hd x hx
    exact sim_dops hC hcall l (k + 1) (fun j => by have := hl (j + 1); simpa [Nat.add_assoc, Nat.add_comm 1 j] using this) he1.rel (hg.ext he1) hf1 g1
      fun y hy p2 a2 w2 hf2 he2 hdf2 => hQ y (g2 y hy) p2 a2 w2 hf2 (he1.trans he2) (hdf2.trans hdf1)
/-- a region whose order is fixed -/
theorem sim_region (hC : C.Ok P) {call : CallF} (hcall : call.Ok C P) {ops : Array Oper} {ro : Option Nat} {n : Nat} {Q : Exit → Act → World → Prop} (hr : R p h w) (hg : Gl C p) (hf : FRel p fr a) {L : List (Fr × H)}
    (hd : dops C call ops ops.toList fr h = some L) {id : Nat}
    (hQ : ∀ x ∈ L, ∀ p' a' w', FRel p' x.1 a' → Ext p h w p' x.2 w' → a'.defers = a.defers → Q .normal a' w') : (Code.region id ops false).wpIn (FW ro) n P Q a w := by
  refine wpIn_region ?_
  have := sim_dops (Q := Q) (ro := ro) (n := n) hC hcall ops.toList 0 (fun j => by simp) hr hg hf hd hQ
  rw [List.range_eq_range']
  simpa using this
end
end
end Go.Det
end
section
namespace Go.Det
noncomputable section
theorem evs_congr {C : Ctx} {fr fr' : Fr} : ∀ {xs : List Operand}, (∀ x ∈ xs, ev C fr x = ev C fr' x) → evs C fr xs = evs C fr' xs
  | [], _ => rfl
  | x :: xs, h => by
    unfold evs
    rw [h x (by simp), evs_congr (fun y hy => h y (by simp [hy]))]
theorem evp_congr {C : Ctx} {fr fr' : Fr} : ∀ {xs : List (Nat × Operand)}, (∀ x ∈ xs, ev C fr x.2 = ev C fr' x.2) → evp C fr xs = evp C fr' xs
  | [], _ => rfl
  | (i, x) :: xs, h => by
    unfold evp
    rw [h (i, x) (by simp), evp_congr (fun y hy => h y (by simp [hy]))]
theorem evo_congr {C : Ctx} {fr fr' : Fr} {x : Option Operand} (h : ∀ y, x = some y → ev C fr y = ev C fr' y) : evo C fr x = evo C fr' x := by
  cases x with
  | none => rfl
  | some y => simp [evo, h y rfl]
theorem dop_congr {C : Ctx} {fr fr' : Fr} {h : H} {o : Oper} (hx : ∀ x ∈ o.op.operands, ev C fr x = ev C fr' x) : dop C fr h o = dop C fr' h o := by
  obtain ⟨dst, op, type, pos, after, guard⟩ := o
  cases op <;> simp only [Op.operands] at hx <;> simp only [dop_eq, dop0]
  case build t ps => rw [evp_congr fun x hm => hx x.2 (by simp; exact ⟨x.1, by simpa using hm⟩)]
  case buildSlice t n ps => rw [evp_congr fun x hm => hx x.2 (by simp; exact ⟨x.1, by simpa using hm⟩)]
  case makeFunc f first captured => rw [evs_congr (xs := first.toList) fun x hm => hx x (by simp at hm ⊢; exact .inl hm), evs_congr (xs := captured.toList) fun x hm => hx x (by simp at hm ⊢; exact .inr hm)]
  case makeMap t r => rw [evo_congr fun y hy => hx y (by simp [hy])]
  case slice t x lo hi mx =>
    rw [hx x (by simp), evo_congr (x := lo) fun y hy => hx y (by simp [hy]), evo_congr (x := hi) fun y hy => hx y (by simp [hy]), evo_congr (x := mx) fun y hy => hx y (by simp [hy])]
  case call c =>
    obtain ⟨callee, args, ts⟩ := c
    rw [evs_congr (xs := args.toList) (fr := fr) (fr' := fr') fun x hm => hx x (by simp at hm; simp [Call.operands, hm])]
    cases callee with
    | value f =>
      have hf := hx f (by simp [Call.operands])
      cases evs C fr' args.toList with
      | none => rfl
      | some as => simp only [hf]
    | invoke => rfl
    | builtin b => cases evs C fr' args.toList <;> rfl
  all_goals (first | rfl | (simp_all; done))
/-- the slots that an operation reads -/
def reads (ops : Array Oper) (o : Oper) : List Tmp := o.looksAt ops
theorem ev_same {C : Ctx} {fr fr' : Fr} {x : Operand} (h : ∀ t, x = .tmp t → fr.get t = fr'.get t) : ev C fr x = ev C fr' x := by
  cases x with
  | tmp t => simp only [ev, h t rfl]
  | _ => rfl
theorem mem_reads {ops : Array Oper} {o : Oper} {t : Tmp} (h : Operand.tmp t ∈ o.op.operands) : t ∈ reads ops o :=
  List.mem_append_left _ (List.mem_filterMap.2 ⟨.tmp t, by simpa using h, rfl⟩)
theorem wantedD_same {fr fr' : Fr} {ops : Array Oper} {o : Oper} (hn : fr.n = fr'.n) (h : ∀ t ∈ reads ops o, fr.get t = fr'.get t) : wantedD fr ops o = wantedD fr' ops o := by
  unfold wantedD
  cases hg : o.guard with
  | none => rfl
  | some jw =>
    obtain ⟨j, want⟩ := jw
    simp only
    cases hb : (ops[j]?).bind (·.dst) with
    | none => rfl
    | some t =>
      simp only [hn]
      rw [h t (List.mem_append_right _ (by simp [hg, hb]))]
/-- a frame that holds just some slots of another one, and the same of an activation -/
def keepF (l : List Tmp) (fr : Fr) : Fr := ⟨fr.n, l.foldr (fun t m => m.set t (some (fr.get t))) .leaf⟩
def keepA (l : List Tmp) (a : Act) : Act := { a with tmps := Array.ofFn (n := a.tmps.size) fun t => if l.contains t.1 then a.tmps.getD t undef else undef }
theorem keepF_get (l : List Tmp) (fr : Fr) (t : Tmp) : (keepF l fr).get t = if t ∈ l then fr.get t else .tup [] := by
  unfold keepF Fr.get
  induction l with
  | nil => simp
  | cons x l ih =>
    simp only [List.foldr_cons, PM.get_set, List.mem_cons]
    by_cases e : t = x
    · subst e; simp
    · simp only [e, if_false, false_or]; exact ih
theorem keepA_get (l : List Tmp) (a : Act) (t : Tmp) : (keepA l a).tmps.getD t undef = if t ∈ l then a.tmps.getD t undef else undef := by
  unfold keepA
  by_cases h : t < a.tmps.size
  · simp [h]
  · simp only [Array.getD_eq_getD_getElem?]
    rw [Array.getElem?_eq_none (by simpa using Nat.le_of_not_lt h), Array.getElem?_eq_none (Nat.le_of_not_lt h)]
    simp
section
variable {C : Ctx} {P : Program} {p : Pl} {h : H} {w : World} {fr : Fr} {a : Act}
/-- the temporaries that an operation reads are as the frame says -/
structure FOn (p : Pl) (fr : Fr) (a : Act) (l : List Tmp) : Prop where
  n : fr.n = a.tmps.size
  get : ∀ t ∈ l, VRel p (fr.get t) (a.tmps.getD t undef)
theorem FOn.keep {l : List Tmp} (hf : FOn p fr a l) : FRel p (keepF l fr) (keepA l a) := by
  refine ⟨by simp [keepF, keepA, hf.n], fun t => ?_⟩
  rw [keepF_get, keepA_get]
  by_cases ht : t ∈ l
  · simp only [ht, if_true]; exact hf.get t ht
  · simp only [ht, if_false]; simp [VRel, undef]
theorem eval_keep {ops : Array Oper} {o : Oper} {x : Operand} (hx : x ∈ o.op.operands) : (keepA (reads ops o) a).eval x = a.eval x := by
  cases x with
  | tmp t =>
    have := keepA_get (reads ops o) a t
    rw [if_pos (mem_reads hx)] at this
    exact this
  | _ => rfl
theorem ev_keep {ops : Array Oper} {o : Oper} {x : Operand} (hx : x ∈ o.op.operands) : ev C (keepF (reads ops o) fr) x = ev C fr x := by
  refine ev_same fun t ht => ?_
  subst ht
  rw [keepF_get, if_pos (mem_reads hx)]
theorem sim_op_on (hC : C.Ok P) (hr : R p h w) (hg : Gl C p) {ops : Array Oper} {o : Oper} (hf : FOn p fr a (reads ops o)) (hs : ∀ cs b, o.op ≠ .select cs b) {r : OR} (hd : dop C fr h o = some r) :
    OSim p h w r ((execOp a.eval o).run P w) := by
  have h1 := sim_op hC hr hg hf.keep (o := o) (r := r) (by rw [dop_congr (fr' := fr) fun x hx => ev_keep hx]; exact hd)
  rwa [execOp_congr o hs fun x hx => eval_keep hx] at h1
theorem wanted_on {ops : Array Oper} {o : Oper} (hf : FOn p fr a (reads ops o)) : Region.wanted o (yielded ops a.tmps) = wantedD fr ops o := by
  have h1 := wanted_eq hf.keep ops o
  rw [wantedD_same (fr := keepF (reads ops o) fr) (fr' := fr) (ops := ops) (o := o) rfl fun t ht => by rw [keepF_get, if_pos ht]] at h1
  rw [← h1]
  unfold Region.wanted
  cases hg : o.guard with
  | none => rfl
  | some jw =>
    obtain ⟨j, want⟩ := jw
    simp only
    congr 1
    unfold yielded
    cases hb : (ops[j]?).bind (·.dst) with
    | none => rfl
    | some t =>
      simp only [Option.bind_some]
      have ht : t ∈ reads ops o := List.mem_append_right _ (by simp [hg, hb])
      have := keepA_get (reads ops o) a t
      rw [if_pos ht] at this
      by_cases hlt : t < a.tmps.size
      · have e1 : a.tmps[t]? = some (a.tmps.getD t undef) := by simp [hlt]
        have e2 : (keepA (reads ops o) a).tmps[t]? = some ((keepA (reads ops o) a).tmps.getD t undef) := by simp [keepA, hlt]
        rw [e1, e2, this]
      · rw [Array.getElem?_eq_none (Nat.le_of_not_lt hlt), Array.getElem?_eq_none (by simpa [keepA] using Nat.le_of_not_lt hlt)]
end
/-- it reads, or computes -/
def isRd (o : Oper) : Bool :=
  match o.op with
  | .move _ | .assign _ | .pick .. | .build .. | .load .. | .nilCheck _ | .binOp .. | .unOp .. | .convert .. | .makeInterface .. | .makeFunc .. | .slice .. | .fieldAddr .. | .field .. | .indexAddr .. | .index .. | .lookup .. | .extract .. => true
  | .call { callee := .builtin .len, .. } | .call { callee := .builtin .max, .. } | .call { callee := .builtin .min, .. } => true
  | _ => false
/-- what it reads may lie in memory -/
def isHd (o : Oper) : Bool :=
  match o.op with
  | .load .. | .convert .. | .lookup .. => true
  | .call { callee := .builtin .len, .. } => true
  | _ => false
/-- it makes a block -/
def isAl (o : Oper) : Bool :=
  match o.op with
  | .alloc _ | .box .. | .buildSlice .. => true
  | _ => false
theorem okv_val {h : H} {v : Option V} {r : OR} (hd : okv h v = some r) : ∃ x, v = some x ∧ r = .val x h := by
  cases v with
  | none => cases hd
  | some x => cases hd; exact ⟨x, rfl, rfl⟩
theorem rd_val {C : Ctx} {fr : Fr} {h : H} {o : Oper} (hk : isRd o = true) {r : OR} (hd : dop C fr h o = some r) : ∃ v, r = .val v h := by
  obtain ⟨dst, op, type, pos, after, guard⟩ := o
  cases op <;> simp only [isRd] at hk <;> simp only [dop_eq, dop0] at hd <;> try (cases hk; done)
  case call c =>
    obtain ⟨callee, args, ts⟩ := c
    cases callee with
    | builtin b =>
      cases he : evs C fr args.toList with
      | none => simp [he] at hd
      | some as =>
        simp only [he] at hd
        cases b <;> first | (cases hk; done) | (simp only [dbuiltin] at hd; obtain ⟨x, _, rfl⟩ := okv_val hd; exact ⟨x, rfl⟩)
    | value f => cases hk
    | invoke => cases hk
  all_goals
    repeat' split at hd
    all_goals first
      | (cases hd; done)
      | (obtain ⟨x, _, rfl⟩ := okv_val hd; exact ⟨x, rfl⟩)
theorem rd_indep {C : Ctx} {fr : Fr} {h : H} {o : Oper} (hk : isRd o = true) (hn : isHd o = false) {v : V} (hd : dop C fr h o = some (.val v h)) (h' : H) : dop C fr h' o = some (.val v h') := by
  have key : ∀ {x : Option V}, okv h x = some (.val v h) → okv h' x = some (.val v h') := by
    intro x hx
    obtain ⟨y, rfl, e⟩ := okv_val hx
    cases e; rfl
  obtain ⟨dst, op, type, pos, after, guard⟩ := o
  cases op <;> simp only [isRd] at hk <;> simp only [isHd] at hn <;> simp only [dop_eq, dop0] at hd ⊢ <;> try (first | (cases hk; done) | (cases hn; done))
  case call c =>
    obtain ⟨callee, args, ts⟩ := c
    cases callee with
    | builtin b =>
      cases he : evs C fr args.toList with
      | none => simp [he] at hd
      | some as =>
        simp only [he] at hd ⊢
        cases b <;> first | (cases hk; done) | (cases hn; done) | (simp only [dbuiltin] at hd ⊢; exact key hd)
    | value f => cases hk
    | invoke => cases hk
  all_goals
    repeat' split at hd
    all_goals first
      | (cases hd; done)
      | exact key hd
      | (simp only [*]; exact key hd)
end
end Go.Det
end
section
namespace Go.Det
noncomputable section
section
variable {C : Ctx} {P : Program} {p : Pl} {h : H} {w : World} {fr : Fr} {a : Act}
/-- the cells of a slice literal -/
def bcells (T : Tab) (t : TypeId) (len : Nat) (parts : List (Nat × V)) : Option (List V × TypeId) :=
  match T.und t with
  | some (.slice e) => match T.inf e with
    | some i =>
      bif Nat.ble (len * i.size) 16777216 && Nat.blt 0 (i.zero.length) && Nat.beq i.zero.length i.size then
        (dfill (fun k => some (k * i.size, i.size)) (zeros i.zero (len * i.size)) parts).map fun cs => (cs, e)
      else none
    | none => none
  | _ => none
/-- what an operation that makes a block puts there, and the value that leads to it -/
def dal (C : Ctx) (fr : Fr) (o : Oper) : Option (O × (Nat → V)) :=
  match o.op with
  | .alloc t => match C.T.inf t with
    | some i => some (.cells i.zero t (0, 0), fun b => .ptr b 0)
    | none => none
  | .box t x => match ev C fr x with
    | some v => some (.cells v.cells t (0, 0), fun b => .ptr b 0)
    | none => none
  | .buildSlice t n parts => match evp C fr parts.toList with
    | some ps => match bcells C.T t n ps with
      | some (cs, e) => some (.cells cs e (0, 0), fun b => .sl b 0 n n 0)
      | none => none
    | none => none
  | _ => none
theorem dal_isAl {o : Oper} {r : O × (Nat → V)} (hd : dal C fr o = some r) : isAl o = true := by
  unfold dal at hd
  unfold isAl
  split at hd <;> simp_all
theorem sim_al (hC : C.Ok P) (hg : Gl C p) {ops : Array Oper} {o : Oper} (hf : FOn p fr a (reads ops o)) {ob : O} {f : Nat → V} (hd : dal C fr o = some (ob, f)) :
    ∃ x n v', (execOp a.eval o).run P w = .ok (.value v') { w with heap := w.heap.push x } ∧ ORel p n ob x ∧ ∀ (q : Pl) b, q[b]? = some (w.heap.size, n) → VRel q (f b) v' := by
  have hsel : ∀ cs b, o.op ≠ .select cs b := by
    intro cs b e
    have := dal_isAl hd
    simp [isAl, e] at this
  have hE : ∀ (P : Program) (w : World), (execOp (keepA (reads ops o) a).eval o).run P w = (execOp a.eval o).run P w := fun P w => by rw [execOp_congr o hsel fun x hx => eval_keep hx]
  have hk := hf.keep
  have cellsO : ∀ (t : TypeId) (cs : List V) (c : Array Value), VRels p cs c.toList → ORel p c.size (.cells cs t (0, 0)) (.cells c t) := by
    intro t cs c hx
    refine ⟨c, (0, 0), rfl, rfl, by have := hx.length; simp at this; omega, ?_, fun i _ h1 h2 => ⟨h1, h2⟩⟩
    have := hx.length
    rw [List.take_of_length_le (by simp at this ⊢; omega)]; exact hx.toC
  unfold dal at hd
  split at hd
  case h_4 => cases hd
  case h_1 =>
    rename_i t ho
    split at hd
    case h_2 => cases hd
    rename_i i hi
    cases hd
    obtain ⟨z, hz, hzr⟩ := run_zero hC.T hi
    refine ⟨.cells z.cells t, _, .pointer (some ⟨w.heap.size, 0, none⟩), ?_, cellsO _ _ _ (hzr p), fun q b hb => by simp only [VRel]; exact ⟨_, _, hb, rfl⟩⟩
    unfold execOp
    simp only [ho]
    unfold Instr.alloc newVar
    simp only [Sem.run_bind, hz, Result.andThen_ok, run_newRow, Sem.run_pure]
  case h_2 =>
    rename_i t x ho
    split at hd
    case h_2 => cases hd
    rename_i v hv
    cases hd
    have hx : VRel p v (a.eval x) := by
      have := sim_ev (C := C) hg hk (x := x) (v := v) (by rw [ev_keep (by simp [ho, Op.operands])]; exact hv)
      rwa [eval_keep (by simp [ho, Op.operands])] at this
    refine ⟨.cells (a.eval x).cells t, _, .pointer (some ⟨w.heap.size, 0, none⟩), ?_, cellsO _ _ _ hx.cells, fun q b hb => by simp only [VRel]; exact ⟨_, _, hb, rfl⟩⟩
    unfold execOp
    simp only [ho]
    unfold Instr.box newVar
    simp only [Sem.run_bind, Result.andThen_ok, run_newRow, Sem.run_pure]
  case h_3 =>
    rename_i t len parts ho
    split at hd
    case h_2 => cases hd
    rename_i ps hps
    split at hd
    case h_2 => cases hd
    rename_i cs e hcs
    cases hd
    have hp : PRel p ps (parts.map fun (i, x) => (i, a.eval x)).toList := by
      have := sim_evp (C := C) (fr := keepF (reads ops o) fr) hg hk (xs := parts.toList) (vs := ps) (by
        rw [evp_congr (fr' := fr) fun x hx => ev_keep (by rw [ho]; simp [Op.operands]; exact ⟨x.1, by simpa using hx⟩)]; exact hps)
      have e2 : (parts.toList.map fun (i, x) => (i, (keepA (reads ops o) a).eval x)) = (parts.map fun (i, x) => (i, a.eval x)).toList := by
        rw [Array.toList_map]
        apply List.map_congr_left
        rintro ⟨i, x⟩ hm
        simp only
        rw [eval_keep (by rw [ho]; simp [Op.operands]; exact ⟨i, by simpa using hm⟩)]
      rwa [e2] at this
    unfold bcells at hcs
    split at hcs
    case h_2 => cases hcs
    rename_i e' hu
    split at hcs
    case h_2 => cases hcs
    rename_i i hi
    cases hcond : (Nat.ble (len * i.size) 16777216 && Nat.blt 0 (i.zero.length) && Nat.beq i.zero.length i.size) with
    | false => simp [hcond] at hcs
    | true =>
      simp only [hcond, cond_true, Option.map_eq_some_iff, Prod.mk.injEq] at hcs
      obtain ⟨cs', hcs', rfl, rfl⟩ := hcs
      simp only [Bool.and_eq_true, Nat.ble_eq, Nat.blt_eq, beq_t, decide_eq_true_eq] at hcond
      obtain ⟨⟨c1, c2⟩, c3⟩ := hcond
      obtain ⟨z, hz, hzr⟩ := run_zero hC.T hi
      have hzl := (hzr p).length
      simp at hzl
      obtain ⟨oo, h1, h2⟩ := sim_fill (p := p) (place := fun k => some (k * i.size, i.size)) hp (zeros_rel (hzr p) c2 (len * i.size)) hcs'
      refine ⟨.cells oo e', _, .slice (some ⟨w.heap.size, 0, none⟩) len len, ?_, cellsO _ _ _ h2, fun q b hb => by simp only [VRel]; exact ⟨_, _, len, hb, rfl, Nat.le_refl _, Nat.le_refl _, fun _ => rfl, by simp⟩⟩
      unfold execOp
      simp only [ho]
      unfold Instr.buildSlice
      simp only [Sem.run_bind, run_und hC.T hu, Result.andThen_ok, run_size hC.T hi]
      rw [if_neg (by omega)]
      by_cases h0 : len * i.size = 0
      · rw [if_pos h0]
        simp only [Sem.run_bind, Sem.run_pure, Result.andThen_ok]
        have e1 : (Array.map (fun x => (#[] : Array Value)[x % (#[] : Array Value).size]!) (Array.range (len * i.size))) = Array.map (fun i_1 => z.cells[i_1 % z.cells.size]!) (Array.range (len * i.size)) := by simp [h0]
        rw [e1, h1]
        simp only [Sem.run_bind, run_newRow, Result.andThen_ok, Sem.run_pure]
      · simp only [h0, if_false, Sem.run_bind, hz, Result.andThen_ok, Sem.run_pure, h1, run_newRow]
/-- a block of the world that stood aside is taken in -/
theorem Ext.adopt {p₀ p : Pl} {h₀ h : H} {w₀ w : World} (he : Ext p₀ h₀ w₀ p h w) {r n : Nat} {o : O} {x : Obj} (hx : w.heap[r]? = some x) (ho : ORel p n o x) (hi : ¬ Im p h r) (hnew : w₀.heap.size ≤ r) :
    Ext p₀ h₀ w₀ (p ++ [(r, n)]) (h.push o) w := by
  have hr := he.rel
  have hnewp : (p ++ [(r, n)])[h.nx]? = some (r, n) := by rw [← hr.len]; simp
  have hold : ∀ b, b < h.nx → (p ++ [(r, n)])[b]? = p[b]? := fun b hb => List.getElem?_append_left (by rw [hr.len]; exact hb)
  have get' : ∀ c oc, (h.push o).get c = some oc → (c = h.nx ∧ oc = o) ∨ (c < h.nx ∧ h.get c = some oc) := by
    intro c oc hc
    rw [H.get_push] at hc
    by_cases e : c = h.nx
    · rw [if_pos e] at hc; cases hc; exact .inl ⟨e, rfl⟩
    · rw [if_neg e] at hc; exact .inr ⟨hr.lt hc, hc⟩
  refine ⟨?_, ⟨by simp [hr.len], fun c oc hc => ?_, fun c c' oc oc' s m m' hc hc' h1 h2 => ?_⟩, he.size, he.same, fun s hs => ?_, he.os, he.out, he.tape, fun s hs hl => ?_⟩
  · obtain ⟨q, rfl⟩ := he.pre; exact ⟨q ++ [(r, n)], by simp⟩
  · rcases get' c oc hc with ⟨rfl, rfl⟩ | ⟨e1, e2⟩
    · exact ⟨r, n, x, hnewp, hx, ho.mono _⟩
    · obtain ⟨s, m, y, k1, k2, k3⟩ := hr.obj c oc e2
      exact ⟨s, m, y, by rw [hold c e1]; exact k1, k2, k3.mono _⟩
  · rcases get' c oc hc with ⟨rfl, rfl⟩ | ⟨e1, e2⟩ <;> rcases get' c' oc' hc' with ⟨rfl, rfl⟩ | ⟨f1, f2⟩
    · rfl
    · rw [hnewp] at h1; cases h1; rw [hold c' f1] at h2; exact absurd ⟨c', oc', m', f2, h2⟩ hi
    · rw [hnewp] at h2; cases h2; rw [hold c e1] at h1; exact absurd ⟨c, oc, m, e2, h1⟩ hi
    · rw [hold c e1] at h1; rw [hold c' f1] at h2
      exact hr.inj c c' oc oc' s m m' e2 f2 h1 h2
  · obtain ⟨c, oc, m, k1, k2⟩ := hs
    rcases get' c oc k1 with ⟨rfl, rfl⟩ | ⟨e1, e2⟩
    · rw [hnewp] at k2; cases k2; exact .inr hnew
    · rw [hold c e1] at k2; exact he.im s ⟨c, oc, m, e2, k2⟩
  · obtain ⟨e1, h1⟩ := he.lock s hs hl
    refine ⟨e1, ?_⟩
    rcases h1 with ⟨c, m, cs, t, fz, k1, k2, k3⟩ | h1
    · have hlc := hr.lt k1
      exact .inl ⟨c, m, cs, t, fz, by rw [H.get_push, if_neg (by omega)]; exact k1, by rw [hold c hlc]; exact k2, k3⟩
    · refine .inr ?_
      rintro ⟨c, oc, m, k1, k2⟩
      rcases get' c oc k1 with ⟨rfl, rfl⟩ | ⟨f1, f2⟩
      · rw [hnewp] at k2; cases k2; omega
      · rw [hold c f1] at k2; exact h1 ⟨c, oc, m, f2, k2⟩
/-- a block of the world is made, that the evaluator does not know yet -/
theorem Ext.aside {p₀ p : Pl} {h₀ h : H} {w₀ w : World} (he : Ext p₀ h₀ w₀ p h w) (x : Obj) : Ext p₀ h₀ w₀ p h { w with heap := w.heap.push x } := by
  have hr := he.rel
  refine ⟨he.pre, ⟨hr.len, fun b o hb => ?_, hr.inj⟩, by have := he.size; simp; omega, fun r hlt hn => ?_, he.im, he.os, he.out, he.tape, fun r hlt hl => ?_⟩
  · obtain ⟨r, n, y, h1, h2, h3⟩ := hr.obj b o hb
    have := (Array.getElem?_eq_some_iff.1 h2).1
    exact ⟨r, n, y, h1, by simp [Array.getElem?_push, Nat.ne_of_lt this, h2], h3⟩
  · have h1 := he.same r hlt hn
    have := he.size
    simp only [Array.getElem?_push]
    rw [if_neg (by omega)]; exact h1
  · obtain ⟨h1, h2⟩ := he.lock r hlt hl
    have := he.size
    refine ⟨?_, h2⟩
    simp only [Array.getElem?_push]
    rw [if_neg (by omega)]; exact h1
end
end
end Go.Det
end
section
namespace Go.Det
noncomputable section
def hstep (C : Ctx) (call : CallF) (fr : Fr) (h : H) (o : Oper) : Option (V × H) :=
  match dop C fr h o with
  | some (.val v h') => some (v, h')
  | some (.skip h') => some (.tup [], h')
  | some (.enter f args) => match call (.fn f args) h with
    | some [x] => some x
    | _ => none
  | _ => none
def isHv (o : Oper) : Bool := !isRd o && !isAl o
structure Stat (ops : Array Oper) (anc : Nat → Nat → Bool) (ord pos : Nat → Nat) (sc : Nat → Option Nat) : Prop where
  sel : Region.noSelect ops = true
  ordp : ∀ q, q < ops.size → ord q < ops.size ∧ pos (ord q) = q
  posp : ∀ i, i < ops.size → pos i < ops.size ∧ ord (pos i) = i
  edge : ∀ j i, anc j i = true → ∃ (o : Oper) (e : Edge), ops[j]? = some o ∧ e ∈ o.after ∧ Region.binds .any e = true ∧ (e.on = i ∨ anc e.on i = true)
  dir : ∀ (j : Nat) (o : Oper) (e : Edge), ops[j]? = some o → e ∈ o.after → Region.binds .any e = true → anc j e.on = true ∧ e.on < ops.size
  apos : ∀ j i, anc j i = true → pos i < pos j
  s1 : ∀ (i j : Nat) (o o' : Oper), ops[i]? = some o → ops[j]? = some o' → isHv o = true → isHv o' = true → i ≠ j → anc i j = true ∨ anc j i = true
  s2 : ∀ (i j : Nat) (o o' : Oper), ops[i]? = some o → ops[j]? = some o' → isHv o = true → isRd o' = true → anc j i = true ∨ pos j < pos i
  q1 : ∀ (i k : Nat), sc i = some k → ∃ (o ok : Oper) (t : Tmp), ops[i]? = some o ∧ ops[k]? = some ok ∧ (o.op = .assign (.tmp t) ∨ o.op = .move (.tmp t)) ∧ o.guard = none ∧ isAl ok = true ∧ ok.dst = some t ∧ anc i k = true
  s3 : ∀ (j k : Nat) (o o' : Oper) (t : Tmp), ops[j]? = some o → ops[k]? = some o' → (isAl o = true ∨ (sc j).isSome = true) → isHv o' = false → o.dst = some t → t ∈ reads ops o' → anc k j = true →
    sc k = some j ∨ ∃ (i : Nat) (oi : Oper), ops[i]? = some oi ∧ isHv oi = true ∧ anc i j = true ∧ anc k i = true
  s4 : ∀ (i j : Nat) (o o' : Oper), ops[i]? = some o → ops[j]? = some o' → isHv o = true → isAl o' = true → anc i j = true ∨ pos i < pos j
  s5 : ∀ (i j : Nat) (o o' : Oper), ops[i]? = some o → ops[j]? = some o' → isRd o = true → isHd o = true → isAl o' = true → pos j < pos i → ∃ (k : Nat) (ok : Oper), ops[k]? = some ok ∧ isHv ok = true ∧ pos j < pos k ∧ pos k < pos i
  s6 : ∀ (i j : Nat) (o o' : Oper) (t : Tmp), ops[i]? = some o → ops[j]? = some o' → i ≠ j → o.dst = some t → o'.dst ≠ some t ∧ (t ∈ reads ops o' → anc j i = true ∨ anc i j = true)
structure Canon (C : Ctx) (call : CallF) (ops : Array Oper) (anc : Nat → Nat → Bool) (ord pos : Nat → Nat) (fr0 : Fr) (h0 : H) (v : Nat → V) (Hh : Nat → H) (F : Nat → Fr) : Prop where
  h0 : Hh 0 = h0
  f0 : F 0 = fr0
  fn : ∀ q, q ≤ ops.size → (F q).n = fr0.n
  fget : ∀ q, q < ops.size → ∀ (o : Oper), ops[ord q]? = some o → ∀ t, (F (q + 1)).get t = if o.dst = some t then v (ord q) else (F q).get t
  dst : ∀ (i : Nat) (o : Oper) (t : Tmp), ops[i]? = some o → o.dst = some t → t < fr0.n
  step : ∀ (i : Nat) (o : Oper), ops[i]? = some o →
    (wantedD (F (pos i)) ops o = false ∧ v i = .tup [] ∧ Hh (pos i + 1) = Hh (pos i)) ∨
    (wantedD (F (pos i)) ops o = true ∧
      ((isRd o = true ∧ dop C (F (pos i)) (Hh (pos i)) o = some (.val (v i) (Hh (pos i))) ∧ Hh (pos i + 1) = Hh (pos i)) ∨
       (isAl o = true ∧ ∃ ob f, dal C (F (pos i)) o = some (ob, f) ∧ v i = f (Hh (pos i)).nx ∧ Hh (pos i + 1) = (Hh (pos i)).push ob) ∨
       (isHv o = true ∧ hstep C call (F (pos i)) (Hh (pos i)) o = some (v i, Hh (pos i + 1)))))
  stable : ∀ (i j : Nat) (o oj : Oper), ops[i]? = some o → ops[j]? = some oj → isHv o = true → isRd oj = true → isHd oj = true → wantedD (F (pos j)) ops oj = true → pos j < pos i → anc i j = false →
    dop C (F (pos j)) (Hh (pos i + 1)) oj = some (.val (v j) (Hh (pos i + 1)))
theorem kinds (o : Oper) : isRd o = true ∨ isAl o = true ∨ isHv o = true := by
  unfold isHv; cases isRd o <;> cases isAl o <;> simp
theorem rd_not_al {o : Oper} (h : isRd o = true) : isAl o = false := by
  unfold isRd at h; unfold isAl
  split at h <;> simp_all
theorem hv_not {o : Oper} (h : isHv o = true) : isRd o = false ∧ isAl o = false := by
  unfold isHv at h; simpa using h
section
variable {C : Ctx} {P : Program} {call : CallF} {ops : Array Oper} {anc : Nat → Nat → Bool} {ord pos : Nat → Nat} {sc : Nat → Option Nat} {fr0 : Fr} {h0 : H} {v : Nat → V} {Hh : Nat → H} {F : Nat → Fr}
theorem Fw (st : Stat ops anc ord pos sc) (cn : Canon C call ops anc ord pos fr0 h0 v Hh F) {k : Nat} {o : Oper} {t : Tmp} (hk : ops[k]? = some o) (ht : o.dst = some t) :
    ∀ q, q ≤ ops.size → pos k < q → (F q).get t = v k
  | 0, _, h => by omega
  | q + 1, hq, h => by
    have hqn : q < ops.size := by omega
    obtain ⟨h1, h2⟩ := st.ordp q hqn
    rw [cn.fget q hqn (ops[ord q]) (by simp [h1]) t]
    have hkn := (Array.getElem?_eq_some_iff.1 hk).1
    by_cases e : pos k = q
    · have e2 : ord q = k := by rw [← e]; exact (st.posp k hkn).2
      have e3 : ops[ord q] = o := by have := (Array.getElem?_eq_some_iff.1 hk).2; simp only [e2]; exact this
      rw [e3, if_pos ht, e2]
    · have hne : ord q ≠ k := fun e2 => e (by rw [← e2, h2])
      have := (st.s6 k (ord q) o (ops[ord q]) t hk (by simp [h1]) (Ne.symm hne) ht).1
      rw [if_neg this]
      exact Fw st cn hk ht q (by omega) (by omega)
theorem Fz (st : Stat ops anc ord pos sc) (cn : Canon C call ops anc ord pos fr0 h0 v Hh F) {t : Tmp} :
    ∀ q, q ≤ ops.size → (∀ k o, ops[k]? = some o → o.dst = some t → ¬ pos k < q) → (F q).get t = fr0.get t
  | 0, _, _ => by rw [cn.f0]
  | q + 1, hq, h => by
    have hqn : q < ops.size := by omega
    obtain ⟨h1, h2⟩ := st.ordp q hqn
    rw [cn.fget q hqn (ops[ord q]) (by simp [h1]) t, if_neg]
    · exact Fz st cn q (by omega) fun k o hk ht hlt => h k o hk ht (by omega)
    · intro ht
      exact h (ord q) _ (by simp [h1]) ht (by omega)
theorem copy_v (st : Stat ops anc ord pos sc) (cn : Canon C call ops anc ord pos fr0 h0 v Hh F) {i k : Nat} (h : sc i = some k) : v i = v k := by
  obtain ⟨o, ok, t, h1, h2, h3, h4, h5, h6, h7⟩ := st.q1 i k h
  have hin := (Array.getElem?_eq_some_iff.1 h1).1
  have hg := Fw st cn h2 h6 (pos i) (Nat.le_of_lt (st.posp i hin).1) (st.apos i k h7)
  have hw : wantedD (F (pos i)) ops o = true := by unfold wantedD; rw [h4]
  have hrd : isRd o = true := by unfold isRd; rcases h3 with h3 | h3 <;> rw [h3]
  rcases cn.step i o h1 with ⟨u, _⟩ | ⟨_, ⟨_, u, _⟩ | ⟨u, _⟩ | ⟨u, _⟩⟩
  · rw [hw] at u; cases u
  · have : dop C (F (pos i)) (Hh (pos i)) o = some (.val ((F (pos i)).get t) (Hh (pos i))) := by
      rw [dop_eq]; unfold dop0; rcases h3 with h3 | h3 <;> simp only [h3, ev, okv]
    rw [this, hg] at u
    simp only [Option.some.injEq, OR.val.injEq] at u
    exact u.1.symm
  · rw [rd_not_al hrd] at u; cases u
  · rw [(hv_not u).1] at hrd; cases hrd
/-- the state of a run in some order: which operations have been carried out, and how far the evaluator's memory has gone along -/
structure Inv (C : Ctx) (ops : Array Oper) (pos : Nat → Nat) (sc : Nat → Option Nat) (fr0 : Fr) (v : Nat → V) (Hh : Nat → H) (F : Nat → Fr) (p0 : Pl) (h0 : H) (w0 : World) (df : List Deferred)
    (S : Nat → Prop) (m : Nat) (fl : Nat → Nat) (p : Pl) (a : Act) (w : World) : Prop where
  ext : Ext p0 h0 w0 p (Hh m) w
  gl : Gl C p
  mn : m ≤ ops.size
  mh : ∀ (k : Nat) (o : Oper), ops[k]? = some o → isHv o = true → (S k ↔ pos k < m)
  ma : ∀ (k : Nat) (o : Oper), ops[k]? = some o → isAl o = true → pos k < m → S k
  sz : a.tmps.size = fr0.n
  df : a.defers = df
  slot : ∀ t, (∀ (i : Nat) (o : Oper), S i → ops[i]? = some o → o.dst ≠ some t) → VRel p (fr0.get t) (a.tmps.getD t undef)
  slotw : ∀ (i : Nat) (o : Oper) (t : Tmp), S i → ops[i]? = some o → o.dst = some t → ((isAl o = true ∨ (sc i).isSome = true) → wantedD (F (pos i)) ops o = true → pos i < m) → VRel p (v i) (a.tmps.getD t undef)
  flt : ∀ (i : Nat) (o : Oper), S i → ops[i]? = some o → isAl o = true → wantedD (F (pos i)) ops o = true → m ≤ pos i →
    ∃ n x ob f v', dal C (F (pos i)) o = some (ob, f) ∧ w.heap[fl i]? = some x ∧ w0.heap.size ≤ fl i ∧ ¬ Im p (Hh m) (fl i) ∧ ORel p n ob x ∧
      (∀ (q : Pl) b, q[b]? = some (fl i, n) → VRel q (f b) v') ∧ (∀ t, o.dst = some t → a.tmps.getD t undef = v')
  inj : ∀ (i j : Nat) (o o' : Oper), S i → S j → ops[i]? = some o → ops[j]? = some o' → isAl o = true → isAl o' = true → wantedD (F (pos i)) ops o = true → wantedD (F (pos j)) ops o' = true →
    m ≤ pos i → m ≤ pos j → fl i = fl j → i = j
/-- a copy of the value that leads to a block that is made here -/
structure Flt2 (ops : Array Oper) (pos : Nat → Nat) (sc : Nat → Option Nat) (S : Nat → Prop) (m : Nat) (a : Act) : Prop where
  eq : ∀ (i k : Nat) (o ok : Oper) (t tk : Tmp), S i → ops[i]? = some o → sc i = some k → ops[k]? = some ok → o.dst = some t → ok.dst = some tk → m ≤ pos i → a.tmps.getD t undef = a.tmps.getD tk undef ∧ S k
/-- the evaluator's memory goes on over operations that have been carried out -/
theorem Inv.adv (st : Stat ops anc ord pos sc) (cn : Canon C call ops anc ord pos fr0 h0 v Hh F) {p0 : Pl} {w0 : World} {df : List Deferred} {S : Nat → Prop} {fl : Nat → Nat} {a : Act} {w : World} :
    ∀ (d m : Nat) {p : Pl}, Inv C ops pos sc fr0 v Hh F p0 h0 w0 df S m fl p a w → Flt2 ops pos sc S m a → m + d ≤ ops.size →
    (∀ q, m ≤ q → q < m + d → ∀ (o : Oper), ops[ord q]? = some o → isHv o = false ∧ (isAl o = true → S (ord q))) →
    ∃ p', Inv C ops pos sc fr0 v Hh F p0 h0 w0 df S (m + d) fl p' a w
  | 0, m, p, hi, _, _, _ => ⟨p, hi⟩
  | d + 1, m, p, hi, h2f, hn, hq => by
    have hm : m < ops.size := by omega
    obtain ⟨g1, g2⟩ := st.ordp m hm
    obtain ⟨o0, hj⟩ : ∃ o0, ops[ord m]? = some o0 := ⟨ops[ord m], by simp [g1]⟩
    obtain ⟨q1, q2⟩ := hq m (Nat.le_refl _) (by omega) _ hj
    -- one step
    have one : ∃ p', Inv C ops pos sc fr0 v Hh F p0 h0 w0 df S (m + 1) fl p' a w := by
      have hmh : ∀ (k : Nat) (o : Oper), ops[k]? = some o → isHv o = true → (S k ↔ pos k < m + 1) := by
        intro k o hk hv
        rw [hi.mh k o hk hv]
        constructor
        · intro h; omega
        · intro h
          by_cases e : pos k = m
          · have hkn := (Array.getElem?_eq_some_iff.1 hk).1
            have e2 : ord m = k := by rw [← e]; exact (st.posp k hkn).2
            subst e2
            rw [hj] at hk; cases hk
            simp [q1] at hv
          · omega
      have hma : ∀ (k : Nat) (o : Oper), ops[k]? = some o → isAl o = true → pos k < m + 1 → S k := by
        intro k o hk hal hlt
        by_cases e : pos k = m
        · have hkn := (Array.getElem?_eq_some_iff.1 hk).1
          have e2 : ord m = k := by rw [← e]; exact (st.posp k hkn).2
          subst e2
          rw [hj] at hk; cases hk
          exact q2 hal
        · exact hi.ma k o hk hal (by omega)
      have same : Hh (m + 1) = Hh m → (isAl o0 = true → wantedD (F (pos (ord m))) ops o0 = false) → (wantedD (F (pos (ord m))) ops o0 = false → v (ord m) = .tup []) →
          Inv C ops pos sc fr0 v Hh F p0 h0 w0 df S (m + 1) fl p a w := by
        intro hh hal _
        refine ⟨by rw [hh]; exact hi.ext, hi.gl, by omega, hmh, hma, hi.sz, hi.df, hi.slot, fun i o t hs hi' ht hc => ?_, fun i o hs hi' ha hw hle => ?_, fun i j o o' hs hs' hi' hj' ha ha' hw hw' hle hle' he => ?_⟩
        · by_cases hcp : (sc i).isSome = true ∧ pos i = m
          · obtain ⟨k, hk⟩ := Option.isSome_iff_exists.1 hcp.1
            obtain ⟨o2, ok, tk, h1, h2, h3, h4, h5, h6, h7⟩ := st.q1 i k hk
            rw [hi'] at h1; cases h1
            obtain ⟨e1, e2⟩ := h2f.eq i k o ok t tk hs hi' hk h2 ht h6 (by omega)
            rw [copy_v st cn hk, e1]
            have := st.apos _ _ h7
            exact hi.slotw k ok tk e2 h2 h6 fun _ _ => by omega
          · refine hi.slotw i o t hs hi' ht fun ha hw => ?_
            have h1 := hc ha hw
            by_cases e : pos i = m
            · have hin := (Array.getElem?_eq_some_iff.1 hi').1
              have e2 : ord m = i := by rw [← e]; exact (st.posp i hin).2
              subst e2
              rw [hj] at hi'; cases hi'
              rcases ha with ha | ha
              · rw [hal ha] at hw; cases hw
              · exact absurd ⟨ha, e⟩ hcp
            · omega
        · obtain ⟨n, x, ob, f, v', k1, k2, k3, k4, k5⟩ := hi.flt i o hs hi' ha hw (by omega)
          exact ⟨n, x, ob, f, v', k1, k2, k3, by rw [hh]; exact k4, k5⟩
        · exact hi.inj i j o o' hs hs' hi' hj' ha ha' hw hw' (by omega) (by omega) he
      rcases cn.step (ord m) _ hj with ⟨u1, u2, u3⟩ | ⟨u1, ⟨u2, u3, u4⟩ | ⟨u2, ob, f, u3, u4, u5⟩ | ⟨u2, u3⟩⟩
      · rw [g2] at u3
        exact ⟨p, same u3 (fun _ => u1) (fun _ => u2)⟩
      · rw [g2] at u4
        exact ⟨p, same u4 (fun h => by rw [rd_not_al u2] at h; cases h) (fun h => by rw [u1] at h; cases h)⟩
      · -- a block is taken in
        obtain ⟨n, x, ob', f', v', k1, k2, k3, k4, k5, k6, k7⟩ := hi.flt (ord m) _ (q2 u2) hj u2 u1 (by omega)
        rw [u3] at k1; cases k1
        rw [g2] at u4 u5
        have hx := hi.ext.adopt k2 k5 k4 k3
        rw [← u5] at hx
        have hnew : (p ++ [(fl (ord m), n)])[(Hh m).nx]? = some (fl (ord m), n) := by rw [← hi.ext.rel.len]; simp
        have hv : VRel (p ++ [(fl (ord m), n)]) (v (ord m)) v' := by rw [u4]; exact k6 _ _ hnew
        refine ⟨p ++ [(fl (ord m), n)], hx, ?_, by omega, hmh, hma, hi.sz, hi.df, fun t ht => (hi.slot t ht).mono _, fun i o t hs hi' ht hc => ?_, fun i o hs hi' ha hw hle => ?_, fun i j o o' hs hs' hi' hj' ha ha' hw hw' hle hle' he => ?_⟩
        · intro g hlt
          obtain ⟨n', hn'⟩ := hi.gl g hlt
          exact ⟨n', by rw [List.getElem?_append_left (List.getElem?_eq_some_iff.1 hn').1]; exact hn'⟩
        · by_cases e : i = ord m
          · subst e
            rw [hj] at hi'; cases hi'
            rw [k7 t ht]; exact hv
          · refine (hi.slotw i o t hs hi' ht fun ha hw => ?_).mono _
            have h1 := hc ha hw
            have hin := (Array.getElem?_eq_some_iff.1 hi').1
            have : pos i ≠ m := fun e2 => e (by rw [← e2]; exact (st.posp i hin).2.symm)
            omega
        · obtain ⟨n', x', ob', f', v'', l1, l2, l3, l4, l5, l6, l7⟩ := hi.flt i o hs hi' ha hw (by omega)
          refine ⟨n', x', ob', f', v'', l1, l2, l3, ?_, l5.mono _, l6, l7⟩
          rintro ⟨b, ob2, n2, m1, m2⟩
          rw [u5, H.get_push] at m1
          by_cases e : b = (Hh m).nx
          · subst e
            rw [hnew] at m2
            have : fl (ord m) = fl i := (Prod.mk.inj (Option.some.inj m2)).1
            have := hi.inj (ord m) i _ o (q2 u2) hs hj hi' u2 ha u1 hw (by omega) (by omega) this
            subst this
            omega
          · rw [if_neg e] at m1
            have hb := hi.ext.rel.lt m1
            rw [List.getElem?_append_left (by rw [hi.ext.rel.len]; exact hb)] at m2
            exact l4 ⟨b, ob2, n2, m1, m2⟩
        · exact hi.inj i j o o' hs hs' hi' hj' ha ha' hw hw' (by omega) (by omega) he
      · rw [q1] at u2; cases u2
    obtain ⟨p', hi'⟩ := one
    obtain ⟨p'', hi''⟩ := Inv.adv st cn d (m + 1) hi' ⟨fun i k o ok t tk g1 g2 g3 g4 g5 g6 g7 => h2f.eq i k o ok t tk g1 g2 g3 g4 g5 g6 (by omega)⟩ (by omega) (fun q h1 h2 => hq q (by omega) (by omega))
    exact ⟨p'', by rw [show m + (d + 1) = m + 1 + d from by omega]; exact hi''⟩
end
end
end Go.Det
end
