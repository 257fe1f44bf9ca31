import Derived.Test.YtnbinppdjnlhpaaGreatDoorX14
/- A part of the proofs of the laws of one chapter (no law is stated here). Made by program out of texts by AI agents. -/
section
namespace Go.Pe
open Go.Det
section
variable {B : Nat} {h0 : H0} {F : Fz} {ρ : Rho} {N : Nat} {C : Ctx} {st st' : PSt} {fr : Fr} {h h' : H}
theorem SR.same (hr : SR B h0 F ρ st.nx st.ob h) {id b n : Nat} {o o' : Obj} {x : O} (ho : st.obj id = some o) (hb : ρ id = some (b, n)) (hg : h.get b = some x) (hf : o.frozen = false) (hf' : o'.frozen = false)
    (hx : ObR F ρ st.nx n o' x) : SR B h0 F ρ st.nx (obSet st.ob id o') h := by
  have hput : ∀ c, h.get c = (h.put b x).get c := by
    intro c
    rw [H.get_put]
    by_cases e : c = b
    · rw [if_pos e, e, hg]
    · rw [if_neg e]
  exact SR.congr (st := ⟨st.n, st.fr, obSet st.ob id o', st.nx⟩) (hr.set ho hb hg hf hf' hx) hput rfl
theorem s_clear (hr : SR B h0 F ρ st.nx st.ob h) {ts : Array TypeId} {ps : List PV} {xs : List V} (hx : PRs F ρ st.nx ps xs) {v : PV} (ht : (pclear C.T ts ps st).To v st') : OK B h0 F ρ st h (headIds ps) (okp (dclear C.T h ts xs)) v st' := by
  unfold pclear at ht
  split at ht
  case h_2 => simp at ht
  rename_i t p hts
  simp only [PRs] at hx
  obtain ⟨x, _, rfl, hx, rfl⟩ := hx
  split at ht
  case h_2 => simp at ht
  rename_i e hu
  split at ht
  case h_3 => simp at ht
  case h_1 =>
    simp only [To_val] at ht
    obtain ⟨rfl, rfl⟩ := ht
    simp only [PR] at hx; subst hx
    exact ⟨.tup [], h, F, ρ, .inl (by simp [dclear, hts, hu, okp]), by simp [PR], hr, Le.refl, rfl, rfl, Nat.le_refl _, fun _ _ => .inl rfl⟩
  rename_i id sz off len cap
  split at ht
  case h_2 => simp at ht
  rename_i i e' s l hi ho
  cases hc : (Nat.beq sz s.sz && Nat.blt 0 i.zero.length && Nat.beq i.zero.length s.sz && Det.lall V.one i.zero) with
  | false => rw [hc] at ht; simp at ht
  | true =>
    rw [hc] at ht
    simp only [Bool.and_eq_true, lall_eq] at hc
    obtain ⟨⟨⟨c1, c2⟩, c3⟩, c4⟩ := hc
    have c1 := Nat.eq_of_beq_eq_true c1
    have c3 := Nat.eq_of_beq_eq_true c3
    subst c1
    simp only [cond_true] at ht
    split at ht
    case h_2 => simp at ht
    rename_i z hz
    simp only [To_chk, decide_eq_true_eq] at ht
    obtain ⟨k1, rfl, rfl⟩ := ht
    obtain ⟨b, n, y, h1, h2, ⟨bs, fz, rfl, h3, h4, h5⟩, h6, _⟩ := hr.at ho
    have hz0 : DC F s z i.zero := unflat1_rel (ofVs_rel (F := F) (ρ := ρ) (N := st.nx) i.zero) hz
    have hrep := DCL.replicate hz0 len
    have hsp := DCL.splice h3 hrep (a := off) (by simpa using k1)
    rw [List.length_replicate] at hsp
    have hlen : (l.take off ++ (List.replicate len z ++ l.drop (off + len))).length = l.length := by simp; omega
    have skip : dclear C.T h ts [x] = some (.tup [], h) → len = 0 → OK B h0 F ρ st h (headIds [.sl id s.sz off len cap]) (okp (dclear C.T h ts [x])) (.tup []) (st.setObj id (.arr false e' s (l.take off ++ (List.replicate len z ++ l.drop (off + len))))) := by
      intro hd h0
      subst h0
      have el : l.take off ++ (List.replicate 0 z ++ l.drop (off + 0)) = l := by simp
      refine ⟨.tup [], h, F, ρ, .inl (by rw [hd]; rfl), by simp [PR], hr.same ho h1 h2 rfl rfl (o' := .arr false e' s _) ⟨bs, fz, rfl, ?_, h4, ?_⟩, Le.refl, rfl, rfl, Nat.le_refl _, fun _ _ => .inl rfl⟩
      · rw [el]; exact h3
      · rw [el]; exact h5
    simp only [PR] at hx
    rcases hx.2 b n h1 with ⟨_, g6, o, g5, rfl⟩ | ⟨e0, ek, g6, rfl | ⟨off', rfl, _⟩⟩
    · by_cases h0 : len = 0
      · exact skip (by simp [dclear, hts, hu, h0]) h0
      · have hw : wr h b (off * s.sz) (zeros i.zero (len * i.zero.length)) = some (h.put b (.cells (lput (off * s.sz) ((List.replicate len i.zero).flatten) bs) e' fz)) := by
          rw [zeros_flat]
          refine wr_ok h2 ?_ h4 ?_
          · rw [hrep.1, List.length_replicate, ← Nat.add_mul, h3.1]; exact Nat.mul_le_mul_right _ k1
          · exact hrep.ones
        have b0 : Nat.beq len 0 = false := by rw [beq_t]; simp [h0]
        refine ⟨.tup [], h.put b (.cells (lput (off * s.sz) ((List.replicate len i.zero).flatten) bs) e' fz), F, ρ, .inl ?_, by simp [PR], hr.set ho h1 h2 rfl rfl (o' := .arr false e' s _) ⟨_, fz, rfl, hsp, h4, hlen.trans h5⟩, Le.refl, rfl, rfl, Nat.le_refl _, fun c _ => ?_⟩
        · simp only [dclear, hts, hu, b0, cond_false, hi, c2, cond_true, hw, Option.map_some, okp]
        · rw [H.get_put]
          by_cases e : c = b
          · exact .inr ⟨id, by simp [headIds], n, e ▸ h1⟩
          · rw [if_neg e]; exact .inl rfl
    · exact skip (by simp [dclear, hts, hu]) e0
    · exact skip (by simp [dclear, hts, hu]) e0
theorem s_range (hr : SR B h0 F ρ st.nx st.ob h) {t : TypeId} {p : PV} {x : V} (hx : PR F ρ st.nx p x) {v : PV} (ht : (prange C.T t p st).To v st') : OK B h0 F ρ st h [] (okp (dmrange C.T h t x)) v st' := by
  unfold prange at ht
  split at ht
  case h_2 => simp at ht
  rename_i s hu
  simp only [To_val] at ht
  obtain ⟨rfl, rfl⟩ := ht
  obtain rfl := pr_str hx
  have hd : dmrange C.T h t (.str s) = some (.ptr h.nx 0, h.push (.siter s 0)) := by simp [dmrange, drange, hu]
  rw [hd]
  exact OK.new hr (o := .siter s 0) (n := 0) rfl rfl pr_ptr0
theorem s_next (hr : SR B h0 F ρ st.nx st.ob h) {p : PV} {x : V} (hx : PR F ρ st.nx p x) {i : Bool} {v : PV} (ht : (pnext p i st).To v st') : i = true ∧ ∃ id off, p = .ptr id off ∧ OK B h0 F ρ st h [id] (okp (dnext h x i)) v st' := by
  unfold pnext at ht
  split at ht
  case h_2 => simp at ht
  rename_i id
  split at ht
  case h_2 => simp at ht
  rename_i s pos ho
  obtain ⟨b, n, y, h1, h2, h3, h6, _⟩ := hr.at ho
  simp only [ObR] at h3; subst h3
  simp only [PR] at hx
  obtain rfl := hx.2 b n h1
  refine ⟨rfl, id, 0, rfl, ?_⟩
  by_cases hp : pos < s.length
  · rw [decide_eq_true hp] at ht
    cases ht with
    | tt ht =>
      simp only [To_val] at ht
      obtain ⟨rfl, rfl⟩ := ht
      have hd : dnext h (.ptr b 0) true = some (.tup [.bool true, i64 pos, .int .i32 (rune s pos)], h.put b (.siter s (pos + runeW s pos))) := by
        simp only [dnext, h2, blt_t, decide_eq_true hp, cond_true]; rfl
      refine ⟨_, _, F, ρ, .inl (by rw [hd]; rfl), ?_, hr.set ho h1 h2 rfl rfl (o' := .siter s _) rfl, Le.refl, rfl, rfl, Nat.le_refl _, fun c _ => ?_⟩
      · simp [PR, DC, i64]
      · rw [H.get_put]
        by_cases e : c = b
        · exact .inr ⟨id, List.mem_singleton.2 rfl, n, e ▸ h1⟩
        · rw [if_neg e]; exact .inl rfl
  · rw [decide_eq_false hp] at ht
    cases ht with
    | ff ht =>
      simp only [To_val] at ht
      obtain ⟨rfl, rfl⟩ := ht
      refine ⟨.tup [.bool false], h, F, ρ, .inl ?_, by simp [PR], hr, Le.refl, rfl, rfl, Nat.le_refl _, fun _ _ => .inl rfl⟩
      simp only [dnext, h2, blt_t, decide_eq_false hp, cond_false, okp]
end
end Go.Pe
end
section
namespace Go.Pe
open Go.Det
section
variable {B : Nat} {h0 : H0} {C : Ctx} {F F1 F' : Fz} {ρ : Rho} {N : Nat} {st st' : PSt} {fr : Fr} {h h' : H}
/-- a value that bears no object -/
def PC (F : Fz) (p : PV) (v : V) : Prop := ∀ ρ N, PR F ρ N p v
def PCs (F : Fz) (ps : List PV) (vs : List V) : Prop := ∀ ρ N, PRs F ρ N ps vs
theorem Le.fzs (hF : ∀ b cs, F b = some cs → F1 b = some cs) : Le F ρ N F1 ρ N := ⟨hF, fun _ _ => .inl rfl, Nat.le_refl _⟩
theorem PC.mono (hF : ∀ b cs, F b = some cs → F1 b = some cs) {p : PV} {v : V} (hp : PC F p v) : PC F1 p v := fun ρ N => (hp ρ N).mono (Le.fzs hF)
theorem PCs.mono (hF : ∀ b cs, F b = some cs → F1 b = some cs) {p : List PV} {v : List V} (hp : PCs F p v) : PCs F1 p v := fun ρ N => (hp ρ N).mono (Le.fzs hF)
theorem PCs.cons {p : PV} {ps : List PV} {v : V} {vs : List V} (h1 : PC F p v) (h2 : PCs F ps vs) : PCs F (p :: ps) (v :: vs) := fun ρ N => (PRs_cons ..).2 ⟨h1 ρ N, h2 ρ N⟩
theorem PCs.dc {s : Sh} {ps : List PV} {vs : List V} {x : s.T} (hp : PCs F ps vs) (hd : unflat1 s ps = some x) : DC F s x vs := unflat1_rel (hp (fun _ => none) 0) hd
theorem PC.dats : ∀ {s : Sh} {x : s.T} {cs : List V}, DC F s x cs → (s.isP = true → PC F (dats s x) (.agg cs)) ∧ (s.isP = false → ∀ v, cs = [v] → PC F (dats s x) v)
  | .pair a b, x, cs, h => ⟨fun _ ρ N => by unfold Pe.dats PR; exact ⟨cs, rfl, flat_rel h⟩, fun e => by cases e⟩
  | .unit, x, cs, h => ⟨fun _ ρ N => by simp only [DC] at h; subst h; unfold Pe.dats PR; exact ⟨[], rfl, by simp⟩, fun e => by cases e⟩
  | .int _, x, cs, h => ⟨fun e => (by cases e), fun _ v hv ρ N => by subst hv; unfold Pe.dats PR; exact h⟩
  | .bool, x, cs, h => ⟨fun e => (by cases e), fun _ v hv ρ N => by subst hv; unfold Pe.dats PR; exact h⟩
  | .str, x, cs, h => ⟨fun e => (by cases e), fun _ v hv ρ N => by subst hv; unfold Pe.dats PR; exact h⟩
  | .list _, x, cs, h => ⟨fun e => (by cases e), fun _ v hv ρ N => by subst hv; unfold Pe.dats PR; exact h⟩
  | .nlist _, x, cs, h => ⟨fun e => (by cases e), fun _ v hv ρ N => by subst hv; unfold Pe.dats PR; exact h⟩
  | .fnv, x, cs, h => ⟨fun e => (by cases e), fun _ v hv ρ N => by
      subst hv
      simp only [DC, List.cons.injEq, and_true] at h
      subst h
      unfold Pe.dats
      cases (x : Option Fn) <;> simp [PR]⟩
theorem SR.ob_eq {ob ob' : Ob} (hr : SR B h0 F ρ N ob h) (he : ∀ j, obGet ob' j = obGet ob j) : SR B h0 F ρ N ob' h :=
  ⟨fun id o ho => hr.obj id o (he id ▸ ho), fun id id' o o' b n n' h1 h2 => hr.inj id id' o o' b n n' (he id ▸ h1) (he id' ▸ h2), hr.frz, hr.own, fun id hid => hr.dead id (he id ▸ hid), hr.old, hr.lt, hr.le, hr.fo, hr.pn⟩
/-- the elements of a piece of an array that nobody writes -/
theorem sub_dc {s : Sh} {l : List s.T} {cs : List V} {b : Nat} (hF : F b = some cs) (hd : DCL F s l cs) {off len : Nat} (hle : off + len ≤ l.length) {cap o : Nat} (hcap : len ≤ cap) (ho : o = 0 ∨ o = s.sz) :
    DC F (.list s) ((l.drop off).take len) [.sl b (off * s.sz) len cap o] := by
  have hlen : ((l.drop off).take len).length = len := by simp; omega
  simp only [DC]
  refine ⟨_, rfl, .inr ⟨b, off * s.sz, cap, o, cs, by rw [hlen], by rw [hlen]; exact hcap, hF, ?_, ho, fun i hi => ?_⟩⟩
  · rw [hlen, hd.1, ← Nat.add_mul]; exact Nat.mul_le_mul_right _ hle
  · rw [hlen] at hi
    have h1 := hd.2 (off + i) (by omega)
    have e1 : ((l.drop off).take len)[i] = l[off + i]'(by omega) := by simp
    rw [e1, ← Nat.add_mul]
    exact h1
theorem freeze1_same (st : PSt) (p : PV) : (freeze1 st p).nx = st.nx ∧ (freeze1 st p).fr = st.fr ∧ (freeze1 st p).n = st.n := by
  unfold freeze1
  split
  · split <;> exact ⟨rfl, rfl, rfl⟩
  · exact ⟨rfl, rfl, rfl⟩
theorem freezes_same : ∀ (ps : List PV) (st : PSt), (freezes ps st).nx = st.nx ∧ (freezes ps st).fr = st.fr ∧ (freezes ps st).n = st.n
  | [], _ => ⟨rfl, rfl, rfl⟩
  | p :: ps, st => by
    obtain ⟨h1, h2, h3⟩ := freezes_same ps (freeze1 st p)
    obtain ⟨g1, g2, g3⟩ := freeze1_same st p
    exact ⟨h1.trans g1, h2.trans g2, h3.trans g3⟩
theorem freezes_append : ∀ (ps qs : List PV) (st : PSt), freezes (ps ++ qs) st = freezes qs (freezes ps st)
  | [], _, _ => rfl
  | p :: ps, qs, st => freezes_append ps qs (freeze1 st p)
/-- the same objects, up to whether they may be written -/
def ObjEq : Option Obj → Option Obj → Prop
  | some (.arr _ e s l), o => ∃ fz, o = some (.arr fz e s l)
  | a, b => b = a
theorem ObjEq.refl (o : Option Obj) : ObjEq o o := by
  cases o with
  | none => rfl
  | some o => cases o <;> first | rfl | exact ⟨_, rfl⟩
theorem freeze1_obj (st : PSt) (p : PV) (j : Nat) : ObjEq (st.obj j) ((freeze1 st p).obj j) := by
  unfold freeze1
  split
  case h_2 => exact ObjEq.refl _
  split
  case h_2 => exact ObjEq.refl _
  rename_i id _ _ _ _ _ fz e s l ho
  show ObjEq (obGet st.ob j) (obGet (obSet st.ob id (.arr true e s l)) j)
  rw [obGet_set _ _ _ _ (by show (st.obj id).isSome = true; rw [ho]; rfl)]
  split
  · rename_i e1; subst e1
    show ObjEq (st.obj j) _
    rw [ho]; exact ⟨_, rfl⟩
  · exact ObjEq.refl _
theorem byVal_eq {st st' : PSt} (h : ∀ id, ObjEq (st.obj id) (st'.obj id)) (p : PV) : byVal st' p = byVal st p := by
  unfold byVal
  cases p <;> try rfl
  rename_i id sz off len cap
  have := h id
  cases ho : st.obj id with
  | none => rw [ho] at this; simp only [ho, show st'.obj id = none from this]
  | some o =>
    rw [ho] at this
    cases o with
    | arr fz e s l =>
      obtain ⟨fz', h1⟩ := this
      simp only [ho, h1]
    | box _ => simp only [ho, show st'.obj id = _ from this]
    | map _ _ _ => simp only [ho, show st'.obj id = _ from this]
    | siter _ _ => simp only [ho, show st'.obj id = _ from this]
    | lp _ _ _ _ _ _ _ _ => simp only [ho, show st'.obj id = _ from this]
theorem byVals_eq {st st' : PSt} (h : ∀ id, ObjEq (st.obj id) (st'.obj id)) : ∀ ps : List PV, byVals st' ps = byVals st ps
  | [] => rfl
  | p :: ps => by unfold byVals; rw [byVal_eq h p, byVals_eq h ps]
theorem ObjEq.trans {a b c : Option Obj} (h1 : ObjEq a b) (h2 : ObjEq b c) : ObjEq a c := by
  cases a with
  | none => have : b = none := h1; subst this; exact h2
  | some o =>
    cases o with
    | arr fz e s l => obtain ⟨fz', rfl⟩ := h1; exact h2
    | box _ => have : b = _ := h1; subst this; exact h2
    | map _ _ _ => have : b = _ := h1; subst this; exact h2
    | siter _ _ => have : b = _ := h1; subst this; exact h2
    | lp _ _ _ _ _ _ _ _ => have : b = _ := h1; subst this; exact h2
theorem freezes_obj : ∀ (ps : List PV) (st : PSt) (id : Nat), ObjEq (st.obj id) ((freezes ps st).obj id)
  | [], _, _ => ObjEq.refl _
  | p :: ps, st, id => (freeze1_obj st p id).trans (freezes_obj ps (freeze1 st p) id)
theorem argOf_eq {st st' : PSt} (h : ∀ id, ObjEq (st.obj id) (st'.obj id)) (s : Sh) (p : PV) : argOf st' s p = argOf st s p := by
  unfold argOf; rw [byVals_eq h]
theorem argsOf_eq {st st' : PSt} (h : ∀ id, ObjEq (st.obj id) (st'.obj id)) : ∀ (l : List Sh) (ps : List PV), argsOf st' l ps = argsOf st l ps
  | [], [] => rfl
  | [], _ :: _ => rfl
  | [a], [p] => argOf_eq h a p
  | [a], [] => rfl
  | [a], _ :: _ :: _ => rfl
  | a :: b :: l, [] => rfl
  | a :: b :: l, p :: ps => by unfold argsOf; rw [argOf_eq h a p, argsOf_eq h (b :: l) ps]
/-- a value is handed over: its array is written no more -/
theorem freeze1_rel (hr : SR B h0 F ρ st.nx st.ob h) {p : PV} {v : V} (hp : PR F ρ st.nx p v) :
    ∃ F1, SR B h0 F1 ρ (freeze1 st p).nx (freeze1 st p).ob h ∧ (∀ b cs, F b = some cs → F1 b = some cs) ∧ ∀ x, byVal st p = some (true, x) → PC F1 x v := by
  have same : ∀ {q : PV}, (∀ x, byVal st q = some (true, x) → PC F x v) → freeze1 st q = st → ∃ F1, SR B h0 F1 ρ (freeze1 st q).nx (freeze1 st q).ob h ∧ (∀ b cs, F b = some cs → F1 b = some cs) ∧ ∀ x, byVal st q = some (true, x) → PC F1 x v :=
    fun h1 h2 => ⟨F, by rw [h2]; exact hr, fun _ _ h => h, h1⟩
  cases p with
  | sl id sz off len cap =>
    cases ho : st.obj id with
    | none => exact same (fun x hx => by simp [byVal, ho] at hx) (by simp [freeze1, ho])
    | some o =>
      cases o with
      | box _ => exact same (fun x hx => by simp [byVal, ho] at hx) (by simp [freeze1, ho])
      | map _ _ _ => exact same (fun x hx => by simp [byVal, ho] at hx) (by simp [freeze1, ho])
      | siter _ _ => exact same (fun x hx => by simp [byVal, ho] at hx) (by simp [freeze1, ho])
      | lp _ _ _ _ _ _ _ _ => exact same (fun x hx => by simp [byVal, ho] at hx) (by simp [freeze1, ho])
      | arr fz e s l =>
        obtain ⟨b, n, x, h1, h2, ⟨cs, fz', rfl, h4, h5, h6⟩, h7, h8⟩ := hr.at ho
        have hst : freeze1 st (.sl id sz off len cap) = st.setObj id (.arr true e s l) := by simp [freeze1, ho]
        have hset : ∀ j, obGet (obSet st.ob id (.arr true e s l)) j = if j = id then some (.arr true e s l) else obGet st.ob j := fun j => obGet_set _ _ _ _ (by show (st.obj id).isSome = true; rw [ho]; rfl)
        have fin : ∀ {G : Fz}, G b = some cs → (∀ b cs, F b = some cs → G b = some cs) → ∀ x, byVal st (.sl id sz off len cap) = some (true, x) → PC G x v := by
          intro G hG hFG x hx ρ' N'
          simp only [byVal, ho] at hx
          cases hsz : Nat.beq sz s.sz with
          | false => rw [hsz] at hx; simp at hx
          | true =>
            rw [hsz] at hx
            simp only [cond_true, Option.some.injEq, Prod.mk.injEq, decide_eq_true_eq] at hx
            obtain ⟨hle, rfl⟩ := hx
            have hsz := Nat.eq_of_beq_eq_true hsz
            subst hsz
            unfold PR
            simp only [PR] at hp
            rcases hp.2 b n h1 with ⟨k1, k2, o, k3, rfl⟩ | ⟨rfl, rfl, k3, rfl | ⟨off', rfl, k4⟩⟩
            · exact sub_dc hG (h4.mono hFG) hle k1 k3
            · simp [DC]
            · simp only [List.take_zero, DC]
              refine ⟨_, rfl, .inr ⟨b, off', 0, 0, cs, rfl, Nat.le_refl _, hG, ?_, .inl rfl, fun i hi => by simp at hi⟩⟩
              simp only [List.length_nil, Nat.zero_mul, Nat.add_zero]
              rw [h4.1]
              exact Nat.le_trans k4 (Nat.mul_le_mul_right _ (by rw [h6]; exact k3))
        cases hfz : fz with
        | true =>
          subst hfz
          obtain ⟨cs', t', fz2, k1, k2⟩ := h8 rfl
          cases k1
          refine ⟨F, ?_, fun _ _ h => h, fin k2 (fun _ _ h => h)⟩
          rw [hst]
          refine SR.ob_eq hr fun j => ?_
          show obGet (obSet st.ob id _) j = _
          rw [hset]
          split
          · rename_i ej; subst ej; exact ho.symm
          · rfl
        | false =>
          subst hfz
          have hFb : F b = none := h7 rfl
          have hmono : ∀ c cs', F c = some cs' → (fun c => if c = b then some cs else F c) c = some cs' := by
            intro c cs' hc
            have : c ≠ b := fun e => by rw [e, hFb] at hc; cases hc
            simp [this, hc]
          refine ⟨fun c => if c = b then some cs else F c, ?_, hmono, fin (by simp) hmono⟩
          rw [hst]
          have hle : Le F ρ st.nx (fun c => if c = b then some cs else F c) ρ st.nx := Le.fzs hmono
          have get' : ∀ k ok, obGet (obSet st.ob id (.arr true e s l)) k = some ok → ∃ o2, obGet st.ob k = some o2 := by
            intro k ok hk
            rw [hset] at hk
            by_cases ek : k = id
            · exact ⟨_, ek ▸ ho⟩
            · rw [if_neg ek] at hk; exact ⟨ok, hk⟩
          refine ⟨fun j oj hj => ?_, fun i j oi oj c m m' hi hj g1 g2 => ?_, fun c cs' hc => ?_, hr.own, fun j hj => ?_, hr.old, hr.lt, hr.le, fun c cs' hc => ?_, hr.pn⟩
          · have hj : obGet (obSet st.ob id (.arr true e s l)) j = some oj := hj
            rw [hset] at hj
            by_cases ej : j = id
            · subst ej
              simp only [if_true, Option.some.injEq] at hj; subst hj
              refine ⟨b, n, _, h1, h2, ⟨cs, fz', rfl, h4.mono hmono, h5, h6⟩, fun e => (by cases e), fun _ => ⟨cs, _, _, rfl, by simp⟩⟩
            · rw [if_neg ej] at hj
              obtain ⟨c, m, y, g1, g2, g3, g4, g5⟩ := hr.obj j oj hj
              have hne : c ≠ b := fun ec => ej (hr.inj j id oj _ c m n hj ho g1 (ec ▸ h1))
              exact ⟨c, m, y, g1, g2, g3.mono hle, fun e => by simp [hne, g4 e], fun e => by obtain ⟨a1, a2, a3, a4, a5⟩ := g5 e; exact ⟨a1, a2, a3, a4, by simp [hne, a5]⟩⟩
          · obtain ⟨_, k1⟩ := get' i oi hi
            obtain ⟨_, k2⟩ := get' j oj hj
            exact hr.inj i j _ _ c m m' k1 k2 g1 g2
          · split at hc
            · rename_i ec; cases hc; subst ec; exact ⟨_, _, h2⟩
            · exact hr.frz c cs' hc
          · have hj : obGet (obSet st.ob id (.arr true e s l)) j = none := hj
            rw [hset] at hj
            split at hj
            · cases hj
            · exact hr.dead j hj
          · split at hc
            · rename_i ec; subst ec; exact .inr (hr.own id c n h1).2
            · exact hr.fo c cs' hc
  | dat s x => exact same (fun y hy ρ' N' => by simp only [byVal, Option.some.injEq, Prod.mk.injEq, true_and] at hy; subst hy; unfold PR at hp ⊢; exact hp) rfl
  | bl b => exact same (fun y hy ρ' N' => by simp only [byVal, Option.some.injEq, Prod.mk.injEq, true_and] at hy; subst hy; unfold PR at hp ⊢; exact hp) rfl
  | nil => exact same (fun y hy ρ' N' => by simp only [byVal, Option.some.injEq, Prod.mk.injEq, true_and] at hy; subst hy; unfold PR at hp ⊢; exact hp) rfl
  | any | ub | yl _ | nilp | nilm | nilf | nili | agg _ | tup _ | ptr _ _ | eptr _ _ _ _ | dptr _ _ _ | mp _ | fn _ _ _ => exact same (fun x hx => by simp [byVal] at hx) rfl
theorem freezes_rel : ∀ {ps : List PV} {vs : List V} {st : PSt} {F : Fz}, SR B h0 F ρ st.nx st.ob h → PRs F ρ st.nx ps vs →
    ∃ F1, SR B h0 F1 ρ (freezes ps st).nx (freezes ps st).ob h ∧ (∀ b cs, F b = some cs → F1 b = some cs) ∧ ∀ xs, byVals st ps = some (true, xs) → PCs F1 xs vs
  | [], vs, st, F, hr, hp => ⟨F, hr, fun _ _ h => h, fun xs hx => by
    cases hx
    have hv : vs = [] := by simpa using hp
    subst hv
    intro ρ' N'; simp⟩
  | p :: ps, vs, st, F, hr, hp => by
    simp only [PRs] at hp
    obtain ⟨v, vs, rfl, h1, h2⟩ := hp
    obtain ⟨F1, g1, g2, g3⟩ := freeze1_rel hr h1
    have h2' : PRs F1 ρ (freeze1 st p).nx ps vs := by rw [(freeze1_same st p).1]; exact h2.mono (Le.fzs g2)
    obtain ⟨F2, k1, k2, k3⟩ := freezes_rel g1 h2'
    refine ⟨F2, k1, fun b cs hb => k2 b cs (g2 b cs hb), fun xs hx => ?_⟩
    unfold byVals at hx
    split at hx
    case h_2 => cases hx
    rename_i c x d xs' e1 e2
    simp only [Option.some.injEq, Prod.mk.injEq, Bool.and_eq_true] at hx
    obtain ⟨⟨rfl, rfl⟩, rfl⟩ := hx
    exact PCs.cons ((g3 x e1).mono k2) (k3 xs' (by rw [byVals_eq (freeze1_obj st p)]; exact e2))
theorem s_bslice (hr : SR B h0 F ρ st.nx st.ob h) {t : TypeId} {n : Nat} {l : List (Nat × PV)} {l' : List (Nat × V)} (hl : PRn F ρ st.nx l l') {v : PV} (ht : (pbslice C.T t n l st).To v st') : OK B h0 F ρ st h [] (okp (dbslice C.T h t n l')) v st' := by
  unfold pbslice at ht
  split at ht
  case h_2 => simp at ht
  rename_i e hu
  split at ht
  case h_2 => simp at ht
  rename_i i s hi hs
  cases hc : (Nat.ble (Nat.mul n i.size) 16777216 && Nat.blt 0 i.zero.length && Nat.beq i.zero.length i.size && Nat.beq i.size s.sz) with
  | false => rw [hc] at ht; simp at ht
  | true =>
    rw [hc] at ht
    simp only [Bool.and_eq_true] at hc
    obtain ⟨⟨⟨c1, c2⟩, c3⟩, c4⟩ := hc
    simp only [cond_true] at ht
    split at ht
    case h_2 => simp at ht
    rename_i cs hcs
    split at ht
    case h_2 =>
      split at ht
      case h_2 => simp at ht
      rename_i c cs' hb
      split at ht
      case h_2 => simp at ht
      rename_i el hel
      simp only [To_chk] at ht
      obtain ⟨rfl, rfl, rfl⟩ := ht
      have e3 := Nat.eq_of_beq_eq_true c3
      have e4 := Nat.eq_of_beq_eq_true c4
      have hz : PRs F ρ st.nx (pzeros (i.zero.map ofV) n) (zeros i.zero (n * i.size)) := by
        rw [← e3, zeros_flat]; exact pzeros_rel _ _
      obtain ⟨ys, g1, g2⟩ := pfill_rel hr hl hz hcs
      have hlen : ys.length = n * s.sz := by
        rw [← e4]
        rw [dfill_len g1]
        simp [zeros]
      obtain ⟨F1, j1, j2, j3⟩ := freezes_rel hr g2
      obtain ⟨k1, k2⟩ := chunk_rel (j3 cs' hb ρ st.nx) hel hlen
      have hd : dbslice C.T h t n l' = some (.sl h.nx 0 n n 0, h.push (.cells ys e (0, 0))) := by
        have c1' : Nat.ble (n * i.size) 16777216 = true := c1
        simp only [dbslice, hu, hi, c1', c2, c3, Bool.and_self, cond_true, g1, dnew]
      rw [hd]
      obtain ⟨f1, f2, f3⟩ := freezes_same cs st
      have res := OK.new (F := F1) (ρ := ρ) (st := freezes cs st) j1 (o := .arr false e s el) (x := .cells ys e (0, 0)) (n := n) (v := .sl (freezes cs st).nx s.sz 0 n none) (v' := .sl h.nx 0 n n 0) rfl ⟨_, _, rfl, k2.mono (fun _ _ h => h), Nat.le_refl _, k1⟩ (pr_sl0 (.inl rfl))
      obtain ⟨v', h', F', ρ', q1, q2, q3, q4, q5, q6, q7, q8⟩ := res
      rw [f1] at q2
      exact ⟨v', h', F', ρ', q1, q2, q3, (by rw [f1] at q4; exact (Le.fzs j2).trans q4), q5.trans f2, q6.trans f3, q7, q8⟩
    rename_i el hel
    simp only [To_val] at ht
    obtain ⟨rfl, rfl⟩ := ht
    have e3 := Nat.eq_of_beq_eq_true c3
    have e4 := Nat.eq_of_beq_eq_true c4
    have hz : PRs F ρ st.nx (pzeros (i.zero.map ofV) n) (zeros i.zero (n * i.size)) := by
      rw [← e3, zeros_flat]; exact pzeros_rel _ _
    obtain ⟨ys, g1, g2⟩ := pfill_rel hr hl hz hcs
    have hlen : ys.length = n * s.sz := by
      rw [← e4]
      rw [dfill_len g1]
      simp [zeros]
    obtain ⟨k1, k2⟩ := chunk_rel g2 hel hlen
    have hd : dbslice C.T h t n l' = some (.sl h.nx 0 n n 0, h.push (.cells ys e (0, 0))) := by
      have c1' : Nat.ble (n * i.size) 16777216 = true := c1
      simp only [dbslice, hu, hi, c1', c2, c3, Bool.and_self, cond_true, g1, dnew]
    rw [hd]
    exact OK.new hr (o := .arr false e s el) (n := n) rfl ⟨_, _, rfl, k2.mono (fun _ _ h => h), Nat.le_refl _, k1⟩ (pr_sl0 (.inl rfl))
end
end Go.Pe
end
section
namespace Go.Pe
open Go.Det
section
variable {B : Nat} {h0 : H0} {F : Fz} {ρ : Rho} {N : Nat} {C : Ctx} {st st' : PSt} {fr : Fr} {h h' : H}
theorem To_v1 {x : Operand} {k : PV → PO} {v : PV} : (v1 st x k).To v st' ↔ ∃ p, pev st x = some p ∧ (k p).To v st' := by
  unfold v1
  cases pev st x with
  | none => simp
  | some p => simp
theorem To_o1 (hf : FP F ρ N st fr) {x : Option Operand} {k : Option PV → PO} {v : PV} (ht : (o1 st x k).To v st') : ∃ p y, evo C fr x = some y ∧ ORp F ρ N p y ∧ (k p).To v st' := by
  unfold o1 at ht
  cases x with
  | none => exact ⟨none, none, rfl, rfl, ht⟩
  | some x =>
    obtain ⟨p, h1, h2⟩ := To_v1.1 ht
    obtain ⟨y, g1, g2⟩ := pev_rel (C := C) hf h1
    exact ⟨some p, some y, by simp [evo, g1], ⟨y, rfl, g2⟩, h2⟩
theorem OK.sub {tch tch' : List Nat} {d : Option OR} {v : PV} (ho : OK B h0 F ρ st h tch d v st') (hs : ∀ i ∈ tch, i ∈ tch') : OK B h0 F ρ st h tch' d v st' := by
  obtain ⟨v', h', F', ρ', g1, g2, g3, g4, g5, g6, g7, g8⟩ := ho
  refine ⟨v', h', F', ρ', g1, g2, g3, g4, g5, g6, g7, fun b hb => ?_⟩
  rcases g8 b hb with e | ⟨id, hi, n, e⟩
  · exact .inl e
  · exact .inr ⟨id, hs id hi, n, e⟩
theorem s_builtin (hr : SR B h0 F ρ st.nx st.ob h) {b : Builtin} {ts : Array TypeId} {ps : List PV} {xs : List V} (hx : PRs F ρ st.nx ps xs) {v : PV} (ht : (pbuiltin C.T b ts ps st).To v st') :
    OK B h0 F ρ st h (match b with | .append | .clear => headIds ps | _ => []) (dbuiltin C h b ts xs) v st' := by
  unfold pbuiltin at ht
  split at ht
  case h_6 => simp at ht
  case h_5 => exact s_clear hr hx ht
  case h_1 => exact s_len hr hx ht
  case h_2 => exact s_append hr hx ht
  case h_3 => exact s_mm (g := dmax) hr (fun k x y => by simp [dmax, imax]) hx ht
  case h_4 => exact s_mm (g := dmin) hr (fun k x y => by simp [dmin, imin]) hx ht
/-- an operation that is no call of a Go function -/
theorem sim_pop (hr : Rel B h0 F ρ st fr h) {o : Oper} {v : PV} (ht : (pop o.op C.T st).To v st') :
    ∃ tch, OK B h0 F ρ st h tch (dop C fr h o) v st' ∧ ∀ sp ids, hvIds sp st o.op = some ids → ∀ i ∈ tch, i ∈ ids := by
  have nil : ∀ {d : Option OR} {op : Op}, OK B h0 F ρ st h [] d v st' → ∃ tch, OK B h0 F ρ st h tch d v st' ∧ ∀ sp ids, hvIds sp st op = some ids → ∀ i ∈ tch, i ∈ ids := fun h => ⟨[], h, fun _ _ _ i hi => by cases hi⟩
  have ev1 : ∀ {x p}, pev st x = some p → ∃ y, ev C fr x = some y ∧ PR F ρ st.nx p y := fun hp => pev_rel hr.fp hp
  unfold pop at ht
  rw [dop_eq]
  unfold dop0
  cases hop : o.op <;> rw [hop] at ht <;> simp only [q_no, To_bad] at ht <;> simp only
  case move x | assign x =>
    simp only [q_move, To_ov] at ht
    obtain ⟨h1, rfl⟩ := ht
    obtain ⟨y, g1, g2⟩ := ev1 h1
    refine nil ?_
    rw [g1]; exact OK.pure hr.sr rfl g2
  case pick c a b =>
    simp only [q_pick, To_v1] at ht
    obtain ⟨p, h1, q, h2, r, h3, ht⟩ := ht
    obtain ⟨x, g1, g2⟩ := ev1 h1
    obtain ⟨y, g3, g4⟩ := ev1 h2
    obtain ⟨z, g5, g6⟩ := ev1 h3
    obtain ⟨t, rfl, hk⟩ := s_pick hr.sr g2 g4 g6 ht
    refine nil ?_
    rw [g1]; simp only
    cases t
    · simpa [g5] using hk
    · simpa [g3] using hk
  case alloc t => exact nil (s_alloc hr.sr ht)
  case box t x =>
    simp only [q_box, To_v1] at ht
    obtain ⟨p, h1, ht⟩ := ht
    obtain ⟨y, g1, g2⟩ := ev1 h1
    split at ht
    case h_2 => simp at ht
    rename_i cs hcs
    cases hs : Det.lall (solid st) cs with
    | false => rw [hs] at ht; simp at ht
    | true =>
    rw [hs] at ht
    simp only [cond_true, To_val] at ht
    obtain ⟨rfl, rfl⟩ := ht
    refine nil ?_
    rw [g1]
    exact s_box hr.sr g2 hcs (by rw [← lall_eq]; exact hs)
  case build t ps =>
    simp only [q_build] at ht
    split at ht
    case h_2 => simp at ht
    rename_i l hl
    obtain ⟨l', g1, g2⟩ := pevp_rel (C := C) hr.fp hl
    refine nil ?_
    rw [g1]
    exact s_build hr.sr g2 ht
  case buildSlice t n ps =>
    simp only [q_bslice] at ht
    split at ht
    case h_2 => simp at ht
    rename_i l hl
    obtain ⟨l', g1, g2⟩ := pevp_rel (C := C) hr.fp hl
    refine nil ?_
    rw [g1]
    exact s_bslice hr.sr g2 ht
  case load t x =>
    simp only [q_load, To_v1] at ht
    obtain ⟨p, h1, ht⟩ := ht
    obtain ⟨y, g1, g2⟩ := ev1 h1
    refine nil ?_
    rw [g1]; exact s_load hr.sr g2 ht
  case store t x y =>
    simp only [q_store, To_v1] at ht
    obtain ⟨p, h1, q, h2, ht⟩ := ht
    obtain ⟨a, g1, g2⟩ := ev1 h1
    obtain ⟨b, g3, g4⟩ := ev1 h2
    obtain ⟨id, hid, hk⟩ := s_store hr.sr g2 g4 ht
    refine ⟨[id], by rw [g1, g3]; exact hk, fun sp ids hids => ?_⟩
    simp only [hvIds, h1] at hids
    rcases hid with ⟨off, rfl⟩ | ⟨sz, j, off, rfl⟩ <;> (simp only [Option.some.injEq] at hids; subst hids; intro i hi; exact hi)
  case nilCheck x =>
    simp only [q_nilCheck, To_v1] at ht
    obtain ⟨p, h1, ht⟩ := ht
    obtain ⟨y, g1, g2⟩ := ev1 h1
    rw [g1]
    split at ht
    case h_4 => simp at ht
    case h_1 =>
      rename_i id off
      cases hl : isS (st.obj id) with
      | false => rw [hl] at ht; simp at ht
      | true =>
        rw [hl] at ht
        simp only [cond_true, To_val] at ht
        obtain ⟨rfl, rfl⟩ := ht
        obtain ⟨b, n, k1⟩ := hr.sr.live hl
        have g2' := g2
        simp only [PR] at g2'
        obtain rfl := g2'.2 b n k1
        exact nil (OK.pure hr.sr rfl g2)
    case h_2 =>
      rename_i id sz j off
      cases hl : isS (st.obj id) with
      | false => rw [hl] at ht; simp at ht
      | true =>
        rw [hl] at ht
        simp only [cond_true, To_val] at ht
        obtain ⟨rfl, rfl⟩ := ht
        obtain ⟨b, n, k1⟩ := hr.sr.live hl
        have g2' := g2
        simp only [PR] at g2'
        obtain rfl := g2'.2 b n k1
        exact nil (OK.pure hr.sr rfl g2)
    case h_3 =>
      simp only [To_val] at ht
      obtain ⟨rfl, rfl⟩ := ht
      have g2' := g2
      simp only [PR] at g2'
      obtain ⟨b, o', cs, rfl, _⟩ := g2'
      exact nil (OK.pure hr.sr rfl g2)
  case binOp op t x y t2 =>
    simp only [q_bin, To_v1] at ht
    obtain ⟨p, h1, q, h2, ht⟩ := ht
    obtain ⟨a, g1, g2⟩ := ev1 h1
    obtain ⟨b, g3, g4⟩ := ev1 h2
    refine nil ?_
    rw [g1, g3]; exact s_bin hr.sr g2 g4 ht
  case unOp op t x =>
    simp only [q_un, To_v1] at ht
    obtain ⟨p, h1, ht⟩ := ht
    obtain ⟨y, g1, g2⟩ := ev1 h1
    refine nil ?_
    rw [g1]; exact s_un hr.sr g2 ht
  case convert s d x =>
    simp only [q_conv, To_v1] at ht
    obtain ⟨p, h1, ht⟩ := ht
    obtain ⟨y, g1, g2⟩ := ev1 h1
    refine nil ?_
    rw [g1]; exact s_conv hr.sr g2 ht
  case makeFunc f a b =>
    simp only [q_func] at ht
    split at ht
    case h_2 => simp at ht
    rename_i x y hx hy
    simp only [To_val] at ht
    obtain ⟨rfl, rfl⟩ := ht
    obtain ⟨u, g1, g2⟩ := pevs_rel (C := C) hr.fp hx
    obtain ⟨w, g3, g4⟩ := pevs_rel (C := C) hr.fp hy
    refine nil ?_
    rw [g1, g3]
    exact OK.pure hr.sr rfl (by unfold PR; exact ⟨_, _, rfl, g2, g4⟩)
  case makeMap t r =>
    simp only [q_mkmap] at ht
    split at ht
    case h_2 => simp at ht
    refine nil ?_
    exact s_mkmap hr.sr ht
  case lookup t x i ok =>
    simp only [q_lookup, To_v1] at ht
    obtain ⟨p, h1, q, h2, ht⟩ := ht
    obtain ⟨a, g1, g2⟩ := ev1 h1
    obtain ⟨b, g3, g4⟩ := ev1 h2
    refine nil ?_
    rw [g1, g3]; exact s_lookup hr.sr g2 g4 ht
  case mapUpdate t m k x | insert t m k x =>
    simp only [q_update, To_v1] at ht
    obtain ⟨p, h1, q, h2, r, h3, ht⟩ := ht
    obtain ⟨a, g1, g2⟩ := ev1 h1
    obtain ⟨b, g3, g4⟩ := ev1 h2
    obtain ⟨c, g5, g6⟩ := ev1 h3
    obtain ⟨id, rfl, hk⟩ := s_update hr.sr g2 g4 g6 ht
    refine ⟨[id], by rw [g1, g3, g5]; exact hk, fun sp ids hids => ?_⟩
    simp only [hvIds, h1, Option.some.injEq] at hids
    subst hids; intro i hi; exact hi
  case makeSlice t l c =>
    simp only [q_make, To_v1] at ht
    obtain ⟨p, h1, q, h2, ht⟩ := ht
    obtain ⟨a, g1, g2⟩ := ev1 h1
    obtain ⟨b, g3, g4⟩ := ev1 h2
    refine nil ?_
    rw [g1, g3]; exact s_make hr.sr g2 g4 ht
  case slice t x lo hi mx =>
    simp only [q_slice, To_v1] at ht
    obtain ⟨p, h1, ht⟩ := ht
    obtain ⟨a, g1, g2⟩ := ev1 h1
    obtain ⟨l, l', k1, k2, ht⟩ := To_o1 (C := C) hr.fp ht
    obtain ⟨m, m', k3, k4, ht⟩ := To_o1 (C := C) hr.fp ht
    obtain ⟨n, n', k5, k6, ht⟩ := To_o1 (C := C) hr.fp ht
    refine nil ?_
    rw [g1, k1, k3, k5]; exact s_slice hr.sr g2 k2 k4 k6 ht
  case fieldAddr t x f =>
    simp only [q_faddr, To_v1] at ht
    obtain ⟨p, h1, ht⟩ := ht
    obtain ⟨y, g1, g2⟩ := ev1 h1
    refine nil ?_
    rw [g1]; exact s_faddr hr.sr g2 ht
  case field t x f =>
    simp only [q_field, To_v1] at ht
    obtain ⟨p, h1, ht⟩ := ht
    obtain ⟨y, g1, g2⟩ := ev1 h1
    refine nil ?_
    rw [g1]; exact s_field hr.sr g2 ht
  case indexAddr t x i =>
    simp only [q_iaddr, To_v1] at ht
    obtain ⟨p, h1, q, h2, ht⟩ := ht
    obtain ⟨a, g1, g2⟩ := ev1 h1
    obtain ⟨b, g3, g4⟩ := ev1 h2
    refine nil ?_
    rw [g1, g3]; exact s_iaddr hr.sr g2 g4 ht
  case index t x i =>
    simp only [q_index, To_v1] at ht
    obtain ⟨p, h1, q, h2, ht⟩ := ht
    obtain ⟨a, g1, g2⟩ := ev1 h1
    obtain ⟨b, g3, g4⟩ := ev1 h2
    refine nil ?_
    rw [g1, g3]; exact s_index hr.sr g2 g4 ht
  case extract x i =>
    simp only [q_extract, To_v1] at ht
    obtain ⟨p, h1, ht⟩ := ht
    obtain ⟨y, g1, g2⟩ := ev1 h1
    refine nil ?_
    rw [g1]; exact s_extract hr.sr g2 ht
  case range t x =>
    simp only [q_range, To_v1] at ht
    obtain ⟨p, h1, ht⟩ := ht
    obtain ⟨y, g1, g2⟩ := ev1 h1
    refine nil ?_
    rw [g1]; exact s_range hr.sr g2 ht
  case next x i =>
    simp only [q_next, To_v1] at ht
    obtain ⟨p, h1, ht⟩ := ht
    obtain ⟨y, g1, g2⟩ := ev1 h1
    obtain ⟨rfl, id, off, rfl, hk⟩ := s_next hr.sr g2 ht
    refine ⟨[id], by rw [g1]; exact hk, fun sp ids hids => ?_⟩
    simp only [hvIds] at hids; cases hids
  case call c =>
    simp only [q_call] at ht
    split at ht
    case h_1 => simp at ht
    rename_i args hargs
    obtain ⟨args', g1, g2⟩ := pevs_rel (C := C) hr.fp hargs
    split at ht
    case h_2 => simp at ht
    case h_1 =>
      rename_i b hb
      split at ht
      case h_1 =>
        obtain ⟨id, qs, rfl, hk⟩ := s_delete hr.sr g2 ht
        refine ⟨[id], by rw [hb, g1]; exact hk, fun sp ids hids => ?_⟩
        simp only [hvIds, hb, hargs, Option.some.injEq] at hids
        subst hids; intro i hi; exact hi
      case h_2 =>
      have := s_builtin hr.sr g2 ht
      refine ⟨_, by rw [hb, g1]; exact this, fun sp ids hids => ?_⟩
      simp only [hvIds, hb, hargs] at hids
      cases b <;> simp only at hids ⊢ <;> try (first | (intro i hi; cases hi; done) | (cases hids; done))
      case append =>
        cases args with
        | nil => simp [headIds]
        | cons p ps => cases p <;> simp only [Option.some.injEq] at hids <;> subst hids <;> (intro i hi; exact hi)
end
end Go.Pe
end
section
namespace Go.Pe
open Go.Det
section
variable {B : Nat} {h0 : H0} {F : Fz} {ρ : Rho} {N : Nat} {X : PCtx} {st st' : PSt} {fr : Fr} {h h' : H} {Q : PV → Ob → Prop} {n : Nat}
@[simp] theorem get_set (st : PSt) (t : Nat) (p : PV) (s : Nat) : (st.set t p).get s = if s = t then p else st.get s := by
  unfold PSt.get PSt.set
  simp only [PM.get_set]
  split <;> rfl
theorem Rel.set (hr : Rel B h0 F ρ st fr h) {t : Nat} {p : PV} {x : V} (hp : PR F ρ st.nx p x) : Rel B h0 F ρ (st.set t p) ⟨fr.n, fr.m.set t (some x)⟩ h := by
  refine ⟨⟨hr.fp.n, fun s => ?_⟩, hr.sr⟩
  rw [get_set]
  unfold Fr.get
  simp only [PM.get_set]
  split
  · exact hp
  · exact hr.fp.slot s
/-- what is known of a slot is noted -/
theorem Rel.note (hr : Rel B h0 F ρ st fr h) {t : Nat} {p : PV} (hp : PR F ρ st.nx p (fr.get t)) : Rel B h0 F ρ (st.set t p) fr h := by
  refine ⟨⟨hr.fp.n, fun s => ?_⟩, hr.sr⟩
  rw [get_set]
  split
  · rename_i e; subst e; exact hp
  · exact hr.fp.slot s
theorem Rel.put (hr : Rel B h0 F ρ st fr h) {d : Option Nat} {p : PV} {x : V} (hp : PR F ρ st.nx p x) (hd : st.put d p = some st') : ∃ fr', fr.put d x = some fr' ∧ Rel B h0 F ρ st' fr' h ∧ st'.nx = st.nx ∧ st'.ob = st.ob := by
  unfold PSt.put at hd
  unfold Fr.put
  cases d with
  | none => cases hd; exact ⟨fr, rfl, hr, rfl, rfl⟩
  | some t =>
    simp only at hd ⊢
    have hn : st.n = fr.n := hr.fp.n
    rw [hn] at hd
    cases hb : Nat.blt t fr.n with
    | false => rw [hb] at hd; cases hd
    | true =>
      rw [hb] at hd
      simp only [cond_true, Option.some.injEq] at hd
      subst hd
      exact ⟨_, rfl, hr.set hp, rfl, rfl⟩
/-- from one state to a later one -/
structure Went (B : Nat) (h0 : H0) (F : Fz) (ρ : Rho) (N : Nat) (h : H) (st' : PSt) (fr' : Fr) (h' : H) (F' : Fz) (ρ' : Rho) : Prop where
  rel : Rel B h0 F' ρ' st' fr' h'
  le : Le F ρ N F' ρ' st'.nx
  nx : h.nx ≤ h'.nx
theorem Went.refl (hr : Rel B h0 F ρ st fr h) : Went B h0 F ρ st.nx h st fr h F ρ := ⟨hr, Le.refl, Nat.le_refl _⟩
theorem Went.trans {F' F'' : Fz} {ρ' ρ'' : Rho} {st'' : PSt} {fr' fr'' : Fr} {h'' : H} (a : Went B h0 F ρ N h st' fr' h' F' ρ') (b : Went B h0 F' ρ' st'.nx h' st'' fr'' h'' F'' ρ'') : Went B h0 F ρ N h st'' fr'' h'' F'' ρ'' :=
  ⟨b.rel, a.le.trans b.le, Nat.le_trans a.nx b.nx⟩
/-- a call, in Det's words -/
def CalD (X : PCtx) (ρ : Rho) (h : H) (args' : List V) : Cal → Cl → Prop
  | .fn g, c => c = .fn g args' ∧ X.C.prim g = none ∧ ∃ i, X.C.fn g = some i
  | .rnd id, c => ∃ b n ls, ρ id = some (b, n) ∧ h.get b = some (.loop ls) ∧ args'.length = ls.ps.size ∧ c = .rnd b ls (setPs ls.ps.toList args' ls.fr)
/-- how calls are carried out; nd: may there be more than one outcome -/
def CallOk (B : Nat) (h0 : H0) (X : PCtx) (nd : Bool) (call : PCall) : Prop :=
  ∀ {Q : PV → Ob → Prop} {n : Nat} {g : Cal} {args : List PV} {st : PSt} {k : PV → PSt → Tr}, Ev X Q n (call g args st k) → ∀ {F : Fz} {ρ : Rho} {fr : Fr} {h : H} {args' : List V}, Rel B h0 F ρ st fr h → PRs F ρ st.nx args args' →
    ∃ c, CalD X ρ h args' g c ∧ ∃ l M, (∀ m, M ≤ m → ecall X.C m c h = some l) ∧ (nd = false → ∃ x, l = [x]) ∧
      ∀ x ∈ l, ∃ n', n' ≤ n ∧ ∃ r st', Ev X Q n' (k r st') ∧ ∃ F' ρ', PR F' ρ' st'.nx r x.1 ∧ Went B h0 F ρ st.nx h st' fr x.2 F' ρ' ∧ (∀ gg, g = .fn gg → ∀ sp, X.sp gg = some sp → ∀ b, b < h.nx → x.2.get b = h.get b)
theorem Ev.ite_iff {c : Bool} {a b : Tr} (he : Ev X Q n (.ite c a b)) : (c = true ∧ Ev X Q n a) ∨ (c = false ∧ Ev X Q n b) := by
  cases he with
  | ite h1 h2 =>
    cases c with
    | true => exact .inl ⟨rfl, h1 rfl⟩
    | false => exact .inr ⟨rfl, h2 rfl⟩
theorem Ev.both_iff {a b : Tr} (he : Ev X Q n (.both a b)) : Ev X Q n a ∧ Ev X Q n b := by
  cases he with
  | both h1 h2 => exact ⟨h1, h2⟩
theorem Ev.not_fail : ¬ Ev X Q n .fail := fun h => by cases h
theorem Ev.of_leaf {v : PV} {ob : Ob} (he : Ev X Q n (.leaf v ob)) : Q v ob := by
  cases he with
  | leaf h => exact h
/-- a guard -/
theorem sim_guarded (hr : Rel B h0 F ρ st fr h) {ops : Array Oper} {o : Oper} {yes no : PSt → Tr} (he : Ev X Q n (guarded ops o st yes no)) :
    ∃ st1, Rel B h0 F ρ st1 fr h ∧ st1.nx = st.nx ∧ st1.ob = st.ob ∧ ((wantedD fr ops o = true ∧ Ev X Q n (yes st1)) ∨ (wantedD fr ops o = false ∧ Ev X Q n (no st1))) := by
  unfold guarded at he
  unfold wantedD
  cases hg : o.guard with
  | none => rw [hg] at he; exact ⟨st, hr, rfl, rfl, .inl ⟨rfl, he⟩⟩
  | some jw =>
    obtain ⟨j, want⟩ := jw
    rw [hg] at he
    simp only at he ⊢
    cases hb : (ops[j]?).bind (·.dst) with
    | none => rw [hb] at he; exact absurd he Ev.not_fail
    | some t =>
      rw [hb] at he
      simp only at he ⊢
      rw [show st.n = fr.n from hr.fp.n] at he
      cases hlt : Nat.blt t fr.n with
      | false => rw [hlt] at he; exact absurd he Ev.not_fail
      | true =>
        rw [hlt] at he
        simp only [cond_true] at he ⊢
        have hs := hr.fp.slot t
        split at he
        case h_1 =>
          rename_i b hb2
          rw [hb2] at hs
          rw [pr_bl hs]
          refine ⟨st, hr, rfl, rfl, ?_⟩
          cases hbw : (b == want) with
          | true => rw [hbw] at he; exact .inl ⟨hbw, he⟩
          | false => rw [hbw] at he; exact .inr ⟨hbw, he⟩
        case h_2 =>
          rename_i b hb2
          rw [hb2] at hs
          have hv := pr_bool hs
          have note : ∀ c : Bool, b = c → Rel B h0 F ρ (st.set t (.bl c)) fr h := by
            rintro c rfl
            exact hr.note (by rw [hv]; exact mk_bl _)
          rw [hv]
          cases want with
          | true =>
            simp only [cond_true] at he
            rcases he.ite_iff with ⟨hb3, he⟩ | ⟨hb3, he⟩
            · exact ⟨_, note true hb3, rfl, rfl, .inl ⟨by rw [show b = true from hb3]; rfl, he⟩⟩
            · exact ⟨_, note false hb3, rfl, rfl, .inr ⟨by rw [show b = false from hb3]; rfl, he⟩⟩
          | false =>
            simp only [cond_false] at he
            rcases he.ite_iff with ⟨hb3, he⟩ | ⟨hb3, he⟩
            · exact ⟨_, note true hb3, rfl, rfl, .inr ⟨by rw [show b = true from hb3]; rfl, he⟩⟩
            · exact ⟨_, note false hb3, rfl, rfl, .inl ⟨by rw [show b = false from hb3]; rfl, he⟩⟩
        case h_5 => exact absurd he Ev.not_fail
        case h_4 =>
          rename_i hb2
          rw [hb2] at hs
          simp only [PR] at hs
          obtain ⟨b, hv⟩ := hs
          have note : ∀ c : Bool, b = c → Rel B h0 F ρ (st.set t (.bl c)) fr h := by
            rintro c rfl
            exact hr.note (by rw [hv]; exact mk_bl _)
          obtain ⟨he1, he2⟩ := he.both_iff
          rw [hv]
          cases b with
          | true =>
            cases want with
            | true => exact ⟨_, note true rfl, rfl, rfl, .inl ⟨rfl, he1⟩⟩
            | false => exact ⟨_, note true rfl, rfl, rfl, .inr ⟨rfl, he1⟩⟩
          | false =>
            cases want with
            | true => exact ⟨_, note false rfl, rfl, rfl, .inr ⟨rfl, he2⟩⟩
            | false => exact ⟨_, note false rfl, rfl, rfl, .inl ⟨rfl, he2⟩⟩
        case h_3 =>
          rename_i l hb2
          rw [hb2] at hs
          simp only [PR] at hs
          obtain ⟨cs, hv, _⟩ := hs
          rw [hv]
          exact ⟨st, hr, rfl, rfl, .inr ⟨rfl, he⟩⟩
/-- an operation carried out -/
theorem sim_runPO {d : Option Nat} {k : PSt → Tr} : ∀ {po : PO}, Ev X Q n (runPO d k po) → ∃ u s st1, po.To u s ∧ s.put d u = some st1 ∧ Ev X Q n (k st1)
  | .bad, he => absurd he Ev.not_fail
  | .val u s, he => by
    simp only [runPO] at he
    split at he
    · rename_i s1 hs; exact ⟨u, s, s1, .val, hs, he⟩
    · exact absurd he Ev.not_fail
  | .ite c a b, he => by
    simp only [runPO] at he
    rcases he.ite_iff with ⟨rfl, he2⟩ | ⟨rfl, he2⟩
    · obtain ⟨u, s, s1, h1, h2⟩ := sim_runPO he2
      exact ⟨u, s, s1, .tt h1, h2⟩
    · obtain ⟨u, s, s1, h1, h2⟩ := sim_runPO he2
      exact ⟨u, s, s1, .ff h1, h2⟩
/-- what an operation comes to, for all great enough numbers m: in Det's words -/
inductive Did (X : PCtx) (fr : Fr) (h : H) (o : Oper) : List (V × H) → Prop where
  | val {x : V} {h' : H} : dop X.C fr h o = some (.val x h') → Did X fr h o [(x, h')]
  | skip {h' : H} : dop X.C fr h o = some (.skip h') → Did X fr h o [(.tup [], h')]
  | alts {l : List (V × H)} : dop X.C fr h o = some (.alts l) → Did X fr h o l
  | call {g : FuncId} {args : List V} {l : List (V × H)} {M : Nat} : dop X.C fr h o = some (.enter g args) → (∀ m, M ≤ m → ecall X.C m (.fn g args) h = some l) → Did X fr h o l
  | round {b : Nat} {ls : LS} {f : Fr} {l : List (V × H)} {M : Nat} : dop X.C fr h o = some (.round b ls f) → (∀ m, M ≤ m → ecall X.C m (.rnd b ls f) h = some l) → Did X fr h o l
/-- **an operation** -/
theorem sim_stepOp {nd : Bool} {call : PCall} (hcall : CallOk B h0 X nd call) (hr : Rel B h0 F ρ st fr h) {o : Oper} {k : PSt → Tr} (he : Ev X Q n (stepOp X.C.T call o st k)) :
    ∃ l, Did X fr h o l ∧ ((nd = false → (∃ x, l = [x]) ∧ ∀ l', dop X.C fr h o ≠ some (.alts l')) ∧ ((∀ id a, callOf st o.op ≠ .yes (.rnd id) a) → ∀ b ls f, dop X.C fr h o ≠ some (.round b ls f))) ∧ ∀ x ∈ l, ∃ n', n' ≤ n ∧ ∃ st1, Ev X Q n' (k st1) ∧ ∃ F' ρ' fr', fr.put o.dst x.1 = some fr' ∧ Went B h0 F ρ st.nx h st1 fr' x.2 F' ρ' ∧
      ∀ ids, hvIds X.sp st o.op = some ids → ∀ b, b < h.nx → x.2.get b = h.get b ∨ ∃ id ∈ ids, ∃ m, ρ id = some (b, m) := by
  unfold stepOp at he
  split at he
  case h_2 => exact absurd he Ev.not_fail
  case h_1 =>
    rename_i g args hc
    unfold callOf at hc
    split at hc
    case h_2 => cases hc
    rename_i c hop
    split at hc
    case h_2 => cases hc
    rename_i f hcal
    split at hc
    case h_3 => cases hc
    case h_2 =>
      rename_i id ps hf hps
      cases hc
      obtain ⟨fv, f1, f2⟩ := pev_rel (C := X.C) hr.fp hf
      obtain ⟨av, a1, a2⟩ := pevs_rel (C := X.C) hr.fp hps
      simp only [PR] at f2
      obtain ⟨cl, ⟨b, m, ls, c1, c2, c3, rfl⟩, l, M, hM, hnd, hall⟩ := hcall he hr a2
      obtain rfl := f2.2 b m c1
      have hdop : dop X.C fr h o = some (.round b ls (setPs ls.ps.toList av ls.fr)) := by
        rw [dop_eq]; unfold dop0
        have hb : Nat.beq av.length ls.ps.size = true := by rw [c3]; exact Nat.beq_refl _
        simp only [hop, hcal, a1, f1, dcall, c2, hb, cond_true]
      refine ⟨l, .round hdop hM, ⟨fun e => ⟨hnd e, fun l' => by rw [hdop]; intro h; cases h⟩, fun hno => ?_⟩, fun x hx => ?_⟩
      · exact absurd (by unfold callOf; simp only [hop, hcal, hf, hps]) (hno id args)
      obtain ⟨n', hn, r, st', he', F', ρ', hp, hw, hsp⟩ := hall x hx
      split at he'
      case h_2 => exact absurd he' Ev.not_fail
      rename_i st1 hput
      obtain ⟨fr', g1, g2, g3, g4⟩ := hw.rel.put hp hput
      refine ⟨n', hn, st1, he', F', ρ', fr', g1, ⟨g2, by rw [g3]; exact hw.le, hw.nx⟩, fun ids hids b hb => ?_⟩
      simp only [hop, hvIds, hcal, hf] at hids
      cases hids
    rename_i g' first cap ps hf hps
    cases hc
    obtain ⟨fv, f1, f2⟩ := pev_rel (C := X.C) hr.fp hf
    obtain ⟨av, a1, a2⟩ := pevs_rel (C := X.C) hr.fp hps
    simp only [PR] at f2
    obtain ⟨fa, fb, rfl, f3, f4⟩ := f2
    have hargs : PRs F ρ st.nx (first ++ ps ++ cap) (fa ++ av ++ fb) := (f3.append a2).append f4
    obtain ⟨cl, ⟨rfl, hprim, i, hfn⟩, l, M, hM, hnd, hall⟩ := hcall he hr hargs
    have hdop : dop X.C fr h o = some (.enter g' (fa ++ av ++ fb)) := by
      rw [dop_eq]; unfold dop0
      simp only [hop, hcal, a1, f1, dcall, hprim, hfn]
    refine ⟨l, .call hdop hM, ⟨fun e => ⟨hnd e, fun l' => by rw [hdop]; intro h; cases h⟩, fun _ b ls f => by rw [hdop]; intro h; cases h⟩, fun x hx => ?_⟩
    obtain ⟨n', hn, r, st', he', F', ρ', hp, hw, hsp⟩ := hall x hx
    split at he'
    case h_2 => exact absurd he' Ev.not_fail
    rename_i st1 hput
    obtain ⟨fr', g1, g2, g3, g4⟩ := hw.rel.put hp hput
    refine ⟨n', hn, st1, he', F', ρ', fr', g1, ⟨g2, by rw [g3]; exact hw.le, hw.nx⟩, fun ids hids b hb => ?_⟩
    simp only [hop, hvIds, hcal, hf] at hids
    cases hs : X.sp g' with
    | none => rw [hs] at hids; cases hids
    | some sp => exact .inl (hsp g' rfl sp hs b hb)
  case h_3 =>
    obtain ⟨u, s, st1, h1, h2, h3⟩ := sim_runPO he
    obtain ⟨tch, ⟨v', h', F', ρ', g1, g2, g3, g4, g5, g6, g7, g8⟩, htch⟩ := sim_pop (C := X.C) hr h1
    have hrs : Rel B h0 F' ρ' s fr h' := ⟨⟨by rw [g6]; exact hr.fp.n, fun t => by
      have : s.get t = st.get t := by unfold PSt.get; rw [g5]
      rw [this]; exact (hr.fp.slot t).mono g4⟩, g3⟩
    obtain ⟨fr', k1, k2, k3, k4⟩ := hrs.put g2 h2
    refine ⟨[(v', h')], ?_, ⟨fun _ => ⟨⟨_, rfl⟩, fun l' => by rcases g1 with g1 | ⟨g1, _⟩ <;> rw [g1] <;> intro h <;> cases h⟩, fun _ b ls f => by rcases g1 with g1 | ⟨g1, _⟩ <;> rw [g1] <;> intro h <;> cases h⟩, fun x hx => ?_⟩
    · rcases g1 with g1 | ⟨g1, rfl⟩
      · exact .val g1
      · exact .skip g1
    · cases List.mem_singleton.1 hx
      refine ⟨n, Nat.le_refl _, st1, h3, F', ρ', fr', k1, ⟨k2, by rw [k3]; exact g4, g7⟩, fun ids hids b hb => ?_⟩
      rcases g8 b hb with e | ⟨id, hi, m, e⟩
      · exact .inl e
      · exact .inr ⟨id, htch _ _ hids id hi, m, e⟩
theorem bl_one {α β : Type} {f : α → Option (List β)} {x : α} : bl [x] f = f x := by
  unfold bl
  cases f x <;> rfl
/-- from outcomes to outcomes, with two numbers -/
theorem bl_all2 {α β : Type} {f : Nat → Nat → α → Option (List β)} {P : β → Prop} {nd : Bool} {l : List α} (hone : nd = false → ∃ x, l = [x]) (h : ∀ a ∈ l, ∃ r M, (∀ m, M ≤ m → ∀ q, M ≤ q → f m q a = some r) ∧ (nd = false → ∃ x, r = [x]) ∧ ∀ y ∈ r, P y) :
    ∃ r M, (∀ m, M ≤ m → ∀ q, M ≤ q → bl l (f m q) = some r) ∧ (nd = false → ∃ x, r = [x]) ∧ ∀ y ∈ r, P y := by
  cases nd with
  | false =>
    obtain ⟨x, rfl⟩ := hone rfl
    obtain ⟨r, M, h1, h2, h3⟩ := h x (List.mem_singleton.2 rfl)
    exact ⟨r, M, fun m hm q hq => by rw [bl_one]; exact h1 m hm q hq, h2, h3⟩
  | true =>
    clear hone
    suffices hs : ∃ r M, (∀ m, M ≤ m → ∀ q, M ≤ q → bl l (f m q) = some r) ∧ ∀ y ∈ r, P y by
      obtain ⟨r, M, h1, h2⟩ := hs
      exact ⟨r, M, h1, fun e => (by cases e), h2⟩
    induction l with
    | nil => exact ⟨[], 0, fun _ _ _ _ => rfl, fun y hy => by cases hy⟩
    | cons a l ih =>
      obtain ⟨r, M, h1, _, h2⟩ := h a List.mem_cons_self
      obtain ⟨r2, M2, h3, h4⟩ := ih (fun x hx => h x (List.mem_cons_of_mem _ hx))
      cases l with
      | nil => exact ⟨r, M, fun m hm q hq => (by simp only [bl, h1 m hm q hq]), h2⟩
      | cons b l =>
        refine ⟨r ++ r2, max M M2, fun m hm q hq => ?_, fun y hy => ?_⟩
        · unfold bl
          rw [h1 m (by omega) q (by omega)]
          simp only
          rw [h3 m (by omega) q (by omega)]
        · rcases List.mem_append.1 hy with hy | hy
          · exact h2 y hy
          · exact h4 y hy
theorem putAll_all {d : Option Nat} {P : Fr × H → Prop} : ∀ {l : List (V × H)}, (∀ x ∈ l, ∃ fr', fr.put d x.1 = some fr' ∧ P (fr', x.2)) → ∃ r, putAll fr d l = some r ∧ (∀ y ∈ r, P y) ∧ ((∃ x, l = [x]) → ∃ y, r = [y])
  | [], _ => ⟨[], rfl, fun y hy => (by cases hy), fun ⟨x, h⟩ => by cases h⟩
  | x :: l, h => by
    obtain ⟨fr', h1, h2⟩ := h x List.mem_cons_self
    obtain ⟨r, h3, h4, _⟩ := putAll_all (l := l) (fun y hy => h y (List.mem_cons_of_mem _ hy))
    refine ⟨(fr', x.2) :: r, ?_, fun y hy => ?_, fun ⟨z, hz⟩ => ?_⟩
    · obtain ⟨v, hv⟩ := x
      unfold putAll
      rw [h1]
      simp only
      rw [h3]
    · rcases List.mem_cons.1 hy with rfl | hy
      · exact h2
      · exact h4 y hy
    · cases hz
      cases h3
      exact ⟨_, rfl⟩
theorem Did.does {l : List (V × H)} {o : Oper} {ops : Array Oper} (hd : Did X fr h o l) (hw : wantedD fr ops o = true) {P : Fr × H → Prop} (hp : ∀ x ∈ l, ∃ fr', fr.put o.dst x.1 = some fr' ∧ P (fr', x.2)) :
    ∃ r M, (∀ m, M ≤ m → step1 X.C (ecall X.C m) ops o fr h = some r) ∧ ((∃ x, l = [x]) → ∃ y, r = [y]) ∧ ∀ y ∈ r, P y := by
  obtain ⟨r, h3, h4, h5⟩ := putAll_all hp
  cases hd with
  | @val x h' hd =>
    obtain ⟨fr', k1, k2⟩ := hp _ (List.mem_singleton.2 rfl)
    exact ⟨[(fr', h')], 0, fun m _ => (by simp only [step1, hw, cond_true, dopx, hd, k1]), fun _ => ⟨_, rfl⟩, fun y hy => by cases List.mem_singleton.1 hy; exact k2⟩
  | @skip h' hd =>
    obtain ⟨fr', k1, k2⟩ := hp _ (List.mem_singleton.2 rfl)
    exact ⟨[(fr', h')], 0, fun m _ => (by simp only [step1, hw, cond_true, dopx, hd, k1]), fun _ => ⟨_, rfl⟩, fun y hy => by cases List.mem_singleton.1 hy; exact k2⟩
  | alts hd => exact ⟨r, 0, fun m _ => by simp only [step1, hw, cond_true, dopx, hd, h3], h5, h4⟩
  | @call g args l M hd hM => exact ⟨r, M, fun m hm => by simp only [step1, hw, cond_true, dopx, hd, hM m hm, h3], h5, h4⟩
  | @round b ls f l M hd hM => exact ⟨r, M, fun m hm => by simp only [step1, hw, cond_true, dopx, hd, hM m hm, h3], h5, h4⟩
/-- **a region whose order is fixed** -/
theorem sim_prun {nd : Bool} {call : PCall} (hcall : CallOk B h0 X nd call) {ops : Array Oper} : ∀ {l : List Oper} {n : Nat} {st : PSt} {F : Fz} {ρ : Rho} {fr : Fr} {h : H} {k : PSt → Tr}, Rel B h0 F ρ st fr h → Ev X Q n (prun X.C.T call ops l st k) →
    ∃ r M, (∀ m, M ≤ m → dops X.C (ecall X.C m) ops l fr h = some r) ∧ (nd = false → ∃ x, r = [x]) ∧ ∀ x ∈ r, ∃ n', n' ≤ n ∧ ∃ st1, Ev X Q n' (k st1) ∧ ∃ F' ρ', Went B h0 F ρ st.nx h st1 x.1 x.2 F' ρ'
  | [], n, st, F, ρ, fr, h, k, hr, he => ⟨[(fr, h)], 0, fun _ _ => rfl, fun _ => ⟨_, rfl⟩, fun x hx => by cases List.mem_singleton.1 hx; exact ⟨n, Nat.le_refl _, st, he, F, ρ, Went.refl hr⟩⟩
  | o :: rest, n, st, F, ρ, fr, h, k, hr, he => by
    unfold prun at he
    obtain ⟨st1, hr1, e1, e2, hcase⟩ := sim_guarded hr he
    -- one step, then the rest
    have fin : ∀ {l : List (Fr × H)}, (∃ M, ∀ m, M ≤ m → step1 X.C (ecall X.C m) ops o fr h = some l) → (nd = false → ∃ x, l = [x]) →
        (∀ y ∈ l, ∃ n', n' ≤ n ∧ ∃ st2, Ev X Q n' (prun X.C.T call ops rest st2 k) ∧ ∃ F' ρ', Went B h0 F ρ st.nx h st2 y.1 y.2 F' ρ') →
        ∃ r M, (∀ m, M ≤ m → dops X.C (ecall X.C m) ops (o :: rest) fr h = some r) ∧ (nd = false → ∃ x, r = [x]) ∧ ∀ x ∈ r, ∃ n', n' ≤ n ∧ ∃ st1, Ev X Q n' (k st1) ∧ ∃ F' ρ', Went B h0 F ρ st.nx h st1 x.1 x.2 F' ρ' := by
      rintro l ⟨M1, hM1⟩ hone hl
      obtain ⟨r, M, h1, h2, h3⟩ := bl_all2 (f := fun m _ (x : Fr × H) => dops X.C (ecall X.C m) ops rest x.1 x.2) (P := fun x => ∃ n', n' ≤ n ∧ ∃ st1, Ev X Q n' (k st1) ∧ ∃ F' ρ', Went B h0 F ρ st.nx h st1 x.1 x.2 F' ρ') hone fun y hy => by
        obtain ⟨n1, hn1, st2, he2, F1, ρ1, hwent⟩ := hl y hy
        obtain ⟨r, M, h1, h3, h2⟩ := sim_prun hcall hwent.rel he2
        refine ⟨r, M, fun m hm _ _ => h1 m hm, h3, fun z hz => ?_⟩
        obtain ⟨n2, hn2, st3, he3, F2, ρ2, hwent2⟩ := h2 z hz
        exact ⟨n2, Nat.le_trans hn2 hn1, st3, he3, F2, ρ2, hwent.trans hwent2⟩
      refine ⟨r, max M M1, fun m hm => ?_, h2, h3⟩
      simp only [dops, hM1 m (by omega)]
      exact h1 m (by omega) m (by omega)
    rcases hcase with ⟨hw, he⟩ | ⟨hw, he⟩
    · obtain ⟨l, hdid, hnd, hall⟩ := sim_stepOp hcall hr1 he
      obtain ⟨r, M, h1, h3, h2⟩ := hdid.does (ops := ops) (P := fun y => ∃ n', n' ≤ n ∧ ∃ st2, Ev X Q n' (prun X.C.T call ops rest st2 k) ∧ ∃ F' ρ', Went B h0 F ρ st.nx h st2 y.1 y.2 F' ρ') hw fun x hx => by
        obtain ⟨n1, hn1, st2, he2, F1, ρ1, fr1, hput, hwent, _⟩ := hall x hx
        rw [e1] at hwent
        exact ⟨fr1, hput, n1, hn1, st2, he2, F1, ρ1, hwent⟩
      exact fin ⟨M, h1⟩ (fun e => h3 (hnd.1 e).1) h2
    · unfold skipOp at he
      split at he
      case h_2 => exact absurd he Ev.not_fail
      rename_i st2 hput
      obtain ⟨fr1, g1, g2, g3, g4⟩ := hr1.put (x := .tup []) (by simp [PR]) hput
      refine fin (l := [(fr1, h)]) ⟨0, fun m _ => by simp only [step1, hw, cond_false, g1]⟩ (fun _ => ⟨_, rfl⟩) fun y hy => ?_
      cases List.mem_singleton.1 hy
      exact ⟨n, Nat.le_refl _, st2, he, F, ρ, g2, by rw [g3, e1]; exact Le.refl, Nat.le_refl _⟩
end
end Go.Pe
end
