import Derived.Test.YtnbinppdjnlhpaaGreatDoorX03
import Derived.Laws.IdiomStrings
import Derived.RangeFuncRecord
/- A part of the proofs of the laws of one chapter (no law is stated here). Made by program out of texts by AI agents. -/
section
namespace Go.Det
noncomputable section
section
variable {T : Tab} {P : Program} {p : Pl} {h : H} {w : World}
def dmrange (T : Tab) (h : H) (t : TypeId) (x : V) : Option (V × H) :=
  match T.und t, x with
  | some (.map _ _), .nilm => some (.ptr h.nx 0, h.push (.miter none 0 [] 0))
  | some (.map _ _), .map b => match h.get b with
    | some (.map _ cl) => some (.ptr h.nx 0, h.push (.miter (some b) cl [] cl))
    | _ => none
  | _, _ => drange T h t x
theorem sim_mrange (hT : T.Ok P) (hr : R p h w) {t : TypeId} {x : V} {x' : Value} (hx : VRel p x x') {v : V} {h' : H} (hd : dmrange T h t x = some (v, h')) :
    ∃ v' p' w', (Instr.range t x').run P w = .ok v' w' ∧ VRel p' v v' ∧ Ext p h w p' h' w' := by
  unfold dmrange at hd
  split at hd
  case h_1 =>
    rename_i hu
    cases hd
    simp only [VRel] at hx; subst hx
    have he := Ext.push (n := 0) hr (o := .miter none 0 [] 0) (x := .mapIter none 0 #[] 0) rfl
    refine ⟨.pointer (some ⟨w.heap.size, 0, none⟩), _, _, ?_, ?_, he⟩
    · unfold Instr.range
      simp only [Sem.run_bind, run_und hT hu, Result.andThen_ok, Sem.run_pure, run_newObj]
    · simp only [VRel]; exact ⟨w.heap.size, 0, by rw [← hr.len]; simp, rfl⟩
  case h_2 =>
    rename_i b hu
    split at hd
    case h_2 => cases hd
    rename_i es cl hb
    cases hd
    simp only [VRel] at hx
    obtain ⟨r, n, hp, rfl⟩ := hx
    obtain ⟨r', n', o, h1, h2, l, h3, h4⟩ := hr.obj _ _ hb
    rw [hp] at h1; cases h1; subst h3
    have hp' : (p ++ [(w.heap.size, 0)])[b]? = some (r, n) := by rw [List.getElem?_append_left (List.getElem?_eq_some_iff.1 hp).1]; exact hp
    have he := Ext.push (n := 0) hr (o := .miter (some b) cl [] cl) (x := .mapIter (some r) cl #[] cl) ⟨r, n, hp, rfl⟩
    refine ⟨.pointer (some ⟨w.heap.size, 0, none⟩), _, _, ?_, ?_, he⟩
    · unfold Instr.range
      simp only [Sem.run_bind, run_und hT hu, Result.andThen_ok, Sem.run_pure, getObj, Sem.run, h2, run_newObj]
    · simp only [VRel]; exact ⟨w.heap.size, 0, by rw [← hr.len]; simp, rfl⟩
  case h_3 => exact sim_range hT hr hx hd
def dmnext (h : H) (it : V) (isStr : Bool) : Option (List (V × H)) :=
  match it, isStr with
  | .ptr b 0, false =>
    match h.get b with
    | some (.miter none _ _ _) => some [(.tup [.bool false], h)]
    | some (.miter (some m) since seen last) =>
      match h.get m with
      | some (.map es cl) =>
        bif es.all (fun e => Nat.blt e.2.2 since) && Nat.ble since last then
          match es.filter (fun e => !seen.contains e.2.2) with
          | [] => some [(.tup [.bool false], h)]
          | left => some (left.map fun e => (.tup [.bool true, e.1, e.2.1], h.put b (.miter (some m) since (seen ++ [e.2.2]) cl)))
        else none
      | _ => none
    | _ => none
  | _, _ => none
theorem ERel.get {es : List (V × V × Nat)} {l : List MapEntry} (he : ERel p es l) : ∀ {i : Nat} {e : MapEntry}, l[i]? = some e → ∃ k v, es[i]? = some (k, v, e.born) ∧ VRel p k e.key ∧ VRel p v e.val := by
  induction he with
  | nil => intro i e h; simp at h
  | @cons k v b es e0 l h1 h2 h3 _ ih =>
    intro i e h
    cases i with
    | zero => simp at h; subst h; exact ⟨k, v, by simp [h3], h1, h2⟩
    | succ i => simp at h; simpa using ih h
theorem ERel.filter {es : List (V × V × Nat)} {l : List MapEntry} (he : ERel p es l) (q : Nat → Bool) : ERel p (es.filter fun e => q e.2.2) (l.filter fun e => q e.born) := by
  induction he with
  | nil => exact .nil
  | @cons k v b es e0 l h1 h2 h3 _ ih =>
    simp only [List.filter_cons, h3]
    cases q b with
    | false => exact ih
    | true => exact .cons h1 h2 h3 ih
theorem ERel.all {es : List (V × V × Nat)} {l : List MapEntry} (he : ERel p es l) (q : Nat → Bool) : (es.all fun e => q e.2.2) = l.all fun e => q e.born := by
  induction he with
  | nil => rfl
  | @cons k v b es e0 l h1 h2 h3 _ ih => simp only [List.all_cons, h3, ih]
theorem ERel.find {es : List (V × V × Nat)} {l : List MapEntry} (he : ERel p es l) (q : Nat → Bool) {e : V × V × Nat} (hf : es.find? (fun e => q e.2.2) = some e) : ∃ e', l.find? (fun e => q e.born) = some e' ∧ VRel p e.1 e'.key ∧ VRel p e.2.1 e'.val := by
  induction he with
  | nil => simp at hf
  | @cons k v b es e0 l h1 h2 h3 _ ih =>
    simp only [List.find?_cons, h3] at hf ⊢
    cases hq : q b with
    | false => simp only [hq] at hf ⊢; exact ih hf
    | true => simp only [hq] at hf ⊢; cases hf; exact ⟨e0, rfl, h1, h2⟩
theorem run_pick (n : Nat) (hn : 0 < n) : ∃ i d, (choose (.mapNext n)).run P w = .ok i { w with drawn := d } ∧ i < n := by
  rw [run_choose]
  by_cases h1 : n ≤ 1
  · refine ⟨0, w.drawn, ?_, hn⟩
    simp [Question.forced, h1]
  · refine ⟨w.tape w.drawn (.mapNext n) % n, w.drawn + 1, ?_, Nat.mod_lt _ hn⟩
    simp [Question.forced, h1, Question.cut]
theorem sim_mnext (hr : R p h w) {it : V} {it' : Value} {isStr : Bool} {t : TypeId} (hx : VRel p it it') {l : List (V × H)} (hd : dmnext h it isStr = some l) :
    ∃ v h' v' p' w', (v, h') ∈ l ∧ (Instr.next it' isStr t).run P w = .ok v' w' ∧ VRel p' v v' ∧ Ext p h w p' h' w' := by
  unfold dmnext at hd
  split at hd
  case h_2 => cases hd
  rename_i b
  simp only [VRel] at hx
  obtain ⟨r, n, hp, rfl⟩ := hx
  split at hd
  case h_3 => cases hd
  case h_1 =>
    rename_i since seen last hb
    cases hd
    obtain ⟨r', n', x, h1, h2, h3⟩ := hr.obj _ _ hb
    rw [hp] at h1; cases h1
    simp only [ORel] at h3; subst h3
    refine ⟨_, _, .tuple #[.bool false], p, w, List.mem_singleton.2 rfl, ?_, by simp [VRel], Ext.refl hr⟩
    unfold Instr.next
    simp only [Sem.run_bind, getObj, Sem.run, h2, Result.andThen_ok]
    rfl
  case h_2 =>
    rename_i m since seen last hb
    split at hd
    case h_2 => cases hd
    rename_i es cl hm
    cases hc : (es.all (fun e => Nat.blt e.2.2 since) && Nat.ble since last) with
    | false => simp [hc] at hd
    | true =>
      simp only [hc, cond_true] at hd
      simp only [Bool.and_eq_true, Nat.ble_eq] at hc
      obtain ⟨c1, c2⟩ := hc
      obtain ⟨r', n', x, h1, h2, h3⟩ := hr.obj _ _ hb
      rw [hp] at h1; cases h1
      simp only [ORel] at h3
      obtain ⟨rm, nm, hpm, rfl⟩ := h3
      obtain ⟨r2, n2, x2, k1, k2, l2, k3, k4⟩ := hr.obj _ _ hm
      rw [hpm] at k1; cases k1; subst k3
      rw [k4.all fun b => Nat.blt b since] at c1
      have hold : ∀ e ∈ l2.toList, e.born < since := by
        intro e he
        have := List.all_eq_true.1 c1 e he
        simpa using this
      have hno : (!seen.toArray.isEmpty && !l2.isEmpty && l2.all (·.born ≥ last)) = false := by
        cases hl : l2.toList with
        | nil =>
          have : l2 = #[] := Array.toList_inj.1 hl
          simp [this]
        | cons e0 rest =>
          have hm0 : e0 ∈ l2.toList := by rw [hl]; simp
          have h0 := hold e0 hm0
          have : l2.all (·.born ≥ last) = false := by
            rw [← Array.all_toList, hl, List.all_cons]
            have : (decide (e0.born ≥ last)) = false := by simp; omega
            rw [this]; rfl
          rw [this]; simp
      have hfil : (l2.filter fun e => !seen.toArray.contains e.born).toList = l2.toList.filter fun e => !seen.contains e.born := by
        simp
      have hleft := k4.filter fun b => !seen.contains b
      have e1 : ((l2.filter fun e => !seen.toArray.contains e.born).filter (·.born < since)) = l2.filter fun e => !seen.toArray.contains e.born := by
        apply Array.toList_inj.1
        rw [Array.toList_filter, List.filter_eq_self]
        intro e he
        rw [hfil] at he
        simpa using hold e ((List.mem_filter.1 he).1)
      have e2 : ((l2.filter fun e => !seen.toArray.contains e.born).filter (·.born ≥ since)) = #[] := by
        apply Array.toList_inj.1
        rw [Array.toList_filter]
        simp only [List.filter_eq_nil_iff]
        intro e he
        rw [hfil] at he
        have := hold e ((List.mem_filter.1 he).1)
        simp; omega
      unfold Instr.next
      simp only [Sem.run_bind, getObj, Sem.run, h2, Result.andThen_ok, k2]
      rw [if_neg (by rw [hno]; simp)]
      simp only [e1, e2, Array.append_empty]
      generalize hL : (l2.filter fun e => !seen.toArray.contains e.born) = L at *
      rw [← hfil] at hleft
      have hlen := hleft.length
      split at hd
      case h_1 =>
        rename_i hnil
        cases hd
        have hL0 : L = #[] := by
          apply Array.toList_inj.1
          apply List.length_eq_zero_iff.1
          rw [← hlen, hnil]; rfl
        subst hL0
        refine ⟨_, _, .tuple #[.bool false], p, w, List.mem_singleton.2 rfl, ?_, by simp [VRel], Ext.refl hr⟩
        simp [Sem.run_bind, Question.forced]
      case h_2 =>
        rename_i left hne
        cases hd
        have hpos : 0 < L.size := by
          have : L.toList.length = L.size := by simp
          rw [← this, ← hlen]
          cases hq : es.filter (fun e => !seen.contains e.2.2) with
          | nil => exact absurd hq hne
          | cons _ _ => simp
        have hemp : L.isEmpty = false := by simp [Array.isEmpty]; intro h0; rw [h0] at hpos; simp at hpos
        simp only [hemp, Bool.false_eq_true, if_false, Array.empty_append, Array.size_map]
        obtain ⟨i, d, g1, g2⟩ := run_pick (P := P) (w := w) L.size hpos
        simp only [Sem.run_bind, g1, Result.andThen_ok]
        have hi : L[i]? = some L[i] := by simp [g2]
        obtain ⟨k, v, q1, q2, q3⟩ := hleft.get (i := i) (e := L[i]) (by simp [g2])
        simp only [Array.getElem?_map, hi, Option.map_some, Sem.run_bind]
        have hdr := Ext.drew hr d
        have hput := Ext.put hdr.rel hb hp (o' := .miter (some m) since (seen ++ [L[i].born]) cl) (x' := .mapIter (some rm) since (seen.toArray.push L[i].born) cl) ⟨rm, nm, hpm, by simp⟩
          (w' := { { w with drawn := d } with heap := w.heap.setIfInBounds r (.mapIter (some rm) since (seen.toArray.push L[i].born) cl) }) rfl rfl rfl rfl
        refine ⟨.tup [.bool true, k, v], _, .tuple #[.bool true, L[i].key, L[i].val], p, _, List.mem_map.2 ⟨(k, v, L[i].born), List.mem_of_getElem? q1, rfl⟩, ?_, ?_, hdr.trans hput⟩
        · simp [setObj, Sem.run, h2]
        · simp only [VRel]; exact ⟨_, rfl, by simp [VRel, q2, q3]⟩
def dentry (h : H) (it : V) : Option V :=
  match it with
  | .ptr b 0 =>
    match h.get b with
    | some (.miter (some m) _ seen last) =>
      match h.get m with
      | some (.map es cl) =>
        bif Nat.beq cl last then
          match seen.getLast? with
          | some s => match es.find? (fun e => Nat.beq e.2.2 s) with
            | some e => some (.tup [e.1, e.2.1])
            | none => none
          | none => none
        else none
      | _ => none
    | _ => none
  | _ => none
theorem sim_entry (hr : R p h w) {it : V} {it' : Value} (hx : VRel p it it') {v : V} (hd : dentry h it = some v) : ∃ v', (Instr.entry it').run P w = .ok v' w ∧ VRel p v v' := by
  unfold dentry at hd
  split at hd
  case h_2 => cases hd
  rename_i b
  simp only [VRel] at hx
  obtain ⟨r, n, hp, rfl⟩ := hx
  split at hd
  case h_2 => cases hd
  rename_i m since seen last hb
  split at hd
  case h_2 => cases hd
  rename_i es cl hm
  rw [beq_t] at hd
  by_cases hcl : cl = last
  · simp only [hcl, decide_true, cond_true] at hd
    split at hd
    case h_2 => cases hd
    rename_i s hs
    split at hd
    case h_2 => cases hd
    rename_i e hf
    cases hd
    obtain ⟨r', n', x, h1, h2, h3⟩ := hr.obj _ _ hb
    rw [hp] at h1; cases h1
    simp only [ORel] at h3
    obtain ⟨rm, nm, hpm, rfl⟩ := h3
    obtain ⟨r2, n2, x2, k1, k2, l2, k3, k4⟩ := hr.obj _ _ hm
    rw [hpm] at k1; cases k1; subst k3
    obtain ⟨e', q1, q2, q3⟩ := k4.find (fun b => Nat.beq b s) hf
    refine ⟨.tuple #[e'.key, e'.val], ?_, by simp only [VRel]; exact ⟨_, rfl, by simp [q2, q3]⟩⟩
    unfold Instr.entry
    have hback : seen.toArray.back? = some s := by rw [Array.back?_eq_getElem?]; simp [List.getLast?_eq_getElem?] at hs ⊢; exact hs
    have hfind : l2.find? (fun e => e.born == s) = some e' := by
      rw [← Array.find?_toList, ← q1]
      congr 1
      funext e
      rw [beq_t]
      rw [Bool.eq_iff_iff]; simp
    simp only [Sem.run_bind, getObj, Sem.run, h2, Result.andThen_ok, k2, hback, hcl, bne_self_eq_false, Bool.false_eq_true, if_false, hfind, Sem.run_pure]
  · simp [hcl] at hd
theorem ERel.erase {es : List (V × V × Nat)} {l : List MapEntry} (he : ERel p es l) (i : Nat) : ERel p (es.eraseIdx i) (l.eraseIdx i) := by
  induction he generalizing i with
  | nil => simp; exact .nil
  | @cons k v b es e0 l h1 h2 h3 h4 ih =>
    cases i with
    | zero => simpa using h4
    | succ i => simp; exact .cons h1 h2 h3 (ih i)
def ddelete (T : Tab) (h : H) (ts : Array TypeId) (args : List V) : Option (V × H) :=
  match ts[0]?, args with
  | some mt, [.map b, k] =>
    match T.und mt with
    | some (.map kt _) =>
      match T.und kt, h.get b with
      | some d, some (.map es cl) =>
        bif keyOk T kt d k then
          match dfindK T kt k es with
          | some (some (i, _)) => some (.tup [], h.put b (.map (es.eraseIdx i) cl))
          | some none => some (.tup [], h.put b (.map es cl))
          | none => none
        else none
      | _, _ => none
    | _ => none
  | _, _ => none
theorem sim_delete (hT : T.Ok P) (hr : R p h w) {ts : Array TypeId} {t : TypeId} {args : List V} {args' : Array Value} (ha : VRels p args args'.toList) {v : V} {h' : H} (hd : ddelete T h ts args = some (v, h')) :
    ∃ v' p' w', (Builtin.delete_ ts t args').run P w = .ok v' w' ∧ VRel p' v v' ∧ Ext p h w p' h' w' := by
  unfold ddelete at hd
  split at hd
  case h_2 => cases hd
  rename_i mt b k ht
  obtain ⟨m', k', hargs, hm, hk⟩ := ha.two
  have ha0 : args'[0]? = some m' := by rw [← Array.getElem?_toList, hargs]; rfl
  have ha1 : args'[1]? = some k' := by rw [← Array.getElem?_toList, hargs]; rfl
  split at hd
  case h_2 => cases hd
  rename_i kt e hu
  split at hd
  case h_2 => cases hd
  rename_i d es cl hkd hb
  cases hc : keyOk T kt d k with
  | false => simp [hc] at hd
  | true =>
    simp only [hc, cond_true] at hd
    rcases ent_cases (es := es) hr hm (by simp only [entries, hb]) with ⟨rfl, _⟩ | ⟨r, l, cl', b', n, e1, rfl, hp, hb', hw, he⟩
    · simp [VRel] at hm
    · cases e1
      rw [hb] at hb'; cases hb'
      unfold Builtin.delete_
      simp only [ht, ha0, ha1, Sem.run_bind, run_und hT hu, Result.andThen_ok, getObj, Sem.run, hw, run_keyOk hT hkd hk hc]
      split at hd
      case h_3 => cases hd
      case h_1 =>
        rename_i j v0 hf
        cases hd
        obtain ⟨r', k1, v1, rfl, k3, en, k4, k5⟩ := run_findKey (P := P) (w := w) hT hk hkd he hf
        refine ⟨.tuple #[], p, { w with heap := w.heap.setIfInBounds r (.map (l.eraseIdxIfInBounds j) cl) }, ?_, by simp [VRel], Ext.put hr hb hp (o' := .map (es.eraseIdx j) cl) ⟨_, rfl, ?_⟩ rfl rfl rfl rfl⟩
        · simp only [k1, Result.andThen_ok]
          simp [setObj, Sem.run, hw]
        · have := he.erase j
          simpa using this
      case h_2 =>
        rename_i hf
        cases hd
        obtain ⟨r', k1, k2⟩ := run_findKey (P := P) (w := w) hT hk hkd he hf
        simp only at k2; subst k2
        refine ⟨.tuple #[], p, { w with heap := w.heap.setIfInBounds r (.map l cl) }, ?_, by simp [VRel], Ext.put hr hb hp (o' := .map es cl) ⟨_, rfl, he⟩ rfl rfl rfl rfl⟩
        simp only [k1, Result.andThen_ok]
        simp [setObj, Sem.run, hw]
def dclear (T : Tab) (h : H) (ts : Array TypeId) (args : List V) : Option (V × H) :=
  match ts[0]?, args with
  | some t, [x] =>
    match T.und t, x with
    | some (.map _ _), .nilm => some (.tup [], h)
    | some (.map _ _), .map b => match h.get b with
      | some (.map _ cl) => some (.tup [], h.put b (.map [] cl))
      | _ => none
    | some (.slice _), .nils => some (.tup [], h)
    | some (.slice _), .esl => some (.tup [], h)
    | some (.slice _), .es0 => some (.tup [], h)
    | some (.slice e), .sl b off len _ _ =>
      bif Nat.beq len 0 then some (.tup [], h)
      else match T.inf e with
        | some i => bif Nat.blt 0 i.zero.length then
            (wr h b off (zeros i.zero (len * i.zero.length))).map fun h' => (.tup [], h')
          else none
        | none => none
    | _, _ => none
  | _, _ => none
theorem sim_clear (hT : T.Ok P) (hr : R p h w) {ts : Array TypeId} {t : TypeId} {args : List V} {args' : Array Value} (ha : VRels p args args'.toList) {v : V} {h' : H} (hd : dclear T h ts args = some (v, h')) :
    ∃ v' p' w', (Builtin.clear_ ts t args').run P w = .ok v' w' ∧ VRel p' v v' ∧ Ext p h w p' h' w' := by
  unfold dclear at hd
  split at hd
  case h_2 => cases hd
  rename_i t0 x ht
  obtain ⟨x', hargs, hx⟩ := ha.one
  have ha0 : args'[0]? = some x' := by rw [← Array.getElem?_toList, hargs]; rfl
  unfold Builtin.clear_
  simp only [ht, ha0]
  split at hd
  case h_7 => cases hd
  case h_1 =>
    rename_i hu
    cases hd
    simp only [VRel] at hx; subst hx
    exact ⟨.tuple #[], p, w, by simp [run_und hT hu], by simp [VRel], Ext.refl hr⟩
  case h_2 =>
    rename_i b hu
    split at hd
    case h_2 => cases hd
    rename_i es cl hb
    cases hd
    simp only [VRel] at hx
    obtain ⟨r, n, hp, rfl⟩ := hx
    obtain ⟨r', n', o, h1, h2, l, h3, h4⟩ := hr.obj _ _ hb
    rw [hp] at h1; cases h1; subst h3
    refine ⟨.tuple #[], p, { w with heap := w.heap.setIfInBounds r (.map #[] cl) }, ?_, by simp [VRel], Ext.put hr hb hp (o' := .map [] cl) ⟨_, rfl, .nil⟩ rfl rfl rfl rfl⟩
    simp [Sem.run_bind, run_und hT hu, getObj, setObj, Sem.run, h2]
  case h_3 =>
    rename_i e hu
    cases hd
    simp only [VRel] at hx; subst hx
    exact ⟨.tuple #[], p, w, by simp [run_und hT hu], by simp [VRel], Ext.refl hr⟩
  case h_4 =>
    rename_i e hu
    cases hd
    simp only [VRel] at hx; obtain ⟨_, _, rfl⟩ := hx
    exact ⟨.tuple #[], p, w, by simp [run_und hT hu], by simp [VRel], Ext.refl hr⟩
  case h_5 =>
    rename_i e hu
    cases hd
    simp only [VRel] at hx; obtain ⟨_, rfl⟩ := hx
    exact ⟨.tuple #[], p, w, by simp [run_und hT hu], by simp [VRel], Ext.refl hr⟩
  case h_6 =>
    rename_i e b off len cap o hu
    simp only [VRel] at hx
    obtain ⟨r, n, c, hp, rfl, _⟩ := hx
    rw [beq_t] at hd
    by_cases h0 : len = 0
    · simp only [h0, decide_true, cond_true, Option.some.injEq, Prod.mk.injEq] at hd
      obtain ⟨rfl, rfl⟩ := hd
      subst h0
      exact ⟨.tuple #[], p, w, by simp [run_und hT hu], by simp [VRel], Ext.refl hr⟩
    · simp only [h0, decide_false, cond_false] at hd
      split at hd
      case h_2 => cases hd
      rename_i i hi
      cases hz : Nat.blt 0 i.zero.length with
      | false => simp [hz] at hd
      | true =>
        simp only [hz, cond_true, Option.map_eq_some_iff] at hd
        obtain ⟨h1, hw, he⟩ := hd
        cases he
        obtain ⟨z, hzz, hzr⟩ := run_zero hT hi
        have hzl := (hzr p).length
        have hrel := zeros_rel (hzr p) (by simpa using hz) (len * i.zero.length)
        obtain ⟨r', m, w', g1, g2, g3⟩ := sim_wr (P := P) hr hrel hw
        rw [hp] at g1; cases g1
        refine ⟨.tuple #[], p, w', ?_, by simp [VRel], g3⟩
        have : Builtin.zeroCells z.cells len = (Array.range (len * i.zero.length)).map (fun i => z.cells[i % z.cells.size]!) := by
          unfold Builtin.zeroCells; rw [hzl]; simp
        obtain ⟨len', rfl⟩ : ∃ k, len = k + 1 := ⟨len - 1, by omega⟩
        simp only [Sem.run_bind, run_und hT hu, Result.andThen_ok, hzz, this, g2, Sem.run_pure]
def dcap (T : Tab) (ts : Array TypeId) (args : List V) : Option V :=
  match ts[0]?, args with
  | some t, [x] =>
    match T.und t, x with
    | some (.slice _), .sl _ _ _ cap 0 => some (i64 cap)
    | some (.slice _), .nils => some (i64 0)
    | _, _ => none
  | _, _ => none
theorem sim_cap (hT : T.Ok P) {ts : Array TypeId} {t : TypeId} {args : List V} {args' : Array Value} (ha : VRels p args args'.toList) {v : V} (hd : dcap T ts args = some v) :
    ∃ v', (Builtin.cap_ ts t args').run P w = .ok v' w ∧ VRel p v v' := by
  unfold dcap at hd
  split at hd
  case h_2 => cases hd
  rename_i t0 x ht
  obtain ⟨x', hargs, hx⟩ := ha.one
  have ha0 : args'[0]? = some x' := by rw [← Array.getElem?_toList, hargs]; rfl
  unfold Builtin.cap_
  simp only [ht, ha0]
  split at hd
  case h_3 => cases hd
  case h_1 =>
    rename_i e b off len cap hu
    cases hd
    simp only [VRel] at hx
    obtain ⟨r, n, c, hp, rfl, h1, h2, h3, h4⟩ := hx
    have := h3 trivial
    subst this
    exact ⟨_, by simp [Sem.run_bind, run_und hT hu]; rfl, by simp [VRel, i64, goInt]⟩
  case h_2 =>
    rename_i e hu
    cases hd
    simp only [VRel] at hx; subst hx
    exact ⟨_, by simp [Sem.run_bind, run_und hT hu]; rfl, by simp [VRel, i64, goInt]⟩
end
end
end Go.Det
end
section
namespace Go.Det
noncomputable section
section
variable {T : Tab} {P : Program} {p : Pl} {h : H} {w : World}
def dbytes (T : Tab) (h : H) (src dst : TypeId) (x : V) : Option (V × H) :=
  match T.und src, T.und dst, x with
  | some .string, some (.slice e), .str s =>
    match T.und e with
    | some (.int .u8) => some (.sl h.nx 0 s.length s.length 1, h.push (.cells (s.map fun b => .int .u8 (.ofNat b.toNat)) e (0, 0)))
    | _ => none
  | _, _, _ => none
theorem sim_bytes (hT : T.Ok P) (hr : R p h w) {src dst : TypeId} {x : V} {x' : Value} (hx : VRel p x x') {v : V} {h' : H} (hd : dbytes T h src dst x = some (v, h')) :
    ∃ v' p' w', (convert src dst x').run P w = .ok v' w' ∧ VRel p' v v' ∧ Ext p h w p' h' w' := by
  unfold dbytes at hd
  split at hd
  case h_2 => cases hd
  rename_i e s h1 h2
  split at hd
  case h_2 => cases hd
  rename_i h3
  cases hd
  simp only [VRel] at hx; subst hx
  have hrun := run_bytes_of_string (P := P) w src dst e (bytesOf s) (hT.und _ _ h1) (hT.und _ _ h2) (hT.und _ _ h3)
  generalize hc : grownCap w (bytesOf s).size 0 e = c at hrun
  have hle : s.length ≤ c := by
    rw [← hc, bytesOf_size]
    unfold grownCap
    simp [Question.cut]
  have hsz : (bytesRow (bytesOf s) c).size = c := by
    have : (bytesRow (bytesOf s) c).size = (bytesOf s).size + (c - (bytesOf s).size) := by
      unfold bytesRow
      rw [Array.size_append, Array.size_map, Array.size_replicate]
      rfl
    rw [this, bytesOf_size]
    omega
  have hd1 := Ext.drew hr (w.drawn + 1)
  have he := Ext.push (n := c) hd1.rel (o := .cells (s.map fun b => .int .u8 (.ofNat b.toNat)) e (0, 0)) (x := .cells (bytesRow (bytesOf s) c) e ((bytesRow (bytesOf s) c).size, (bytesRow (bytesOf s) c).size + 1)) (by
    refine ⟨_, _, rfl, hsz, by simpa using hle, ?_, fun i hi h4 h5 => by simp only [hsz] at h4; omega⟩
    refine VRels.toC (VRels.mk ?_ ?_)
    · have := hsz
      simp at this ⊢
      omega
    · intro i d v hd hv
      simp only [List.length_map] at hv
      simp only [List.getElem?_map, Option.map_eq_some_iff] at hd
      obtain ⟨b, hb, rfl⟩ := hd
      have hi := (List.getElem?_eq_some_iff.1 hb).1
      rw [List.getElem?_take_of_lt hi] at hv
      simp only [bytesRow, Array.toList_append, Array.toList_map, bytesOf] at hv
      rw [List.getElem?_append_left (by simpa using hi)] at hv
      simp only [List.getElem?_map, hb, Option.map_some, Option.some.injEq] at hv
      subst hv
      simp [VRel])
  refine ⟨_, _, _, hrun, ?_, hd1.trans he⟩
  simp only [VRel]
  refine ⟨w.heap.size, c, c, by rw [← hr.len]; simp, by rw [bytesOf_size], Nat.le_refl _, hle, fun h => (by cases h), fun _ => (by omega)⟩
end
end
end Go.Det
end
section
namespace Go.Det
noncomputable section
mutual
def cv : Value → Option V
  | .bool b => some (.bool b)
  | .int k n => some (.int k n)
  | .string s => some (.str s.data.toList)
  | .pointer none => some .nilp
  | .slice none 0 0 => some .nils
  | .map none => some .nilm
  | .nilFunc => some .nilf
  | .nilIface => some .nili
  | .func f ⟨[]⟩ ⟨[]⟩ => some (.fn f [] [])
  | .agg ⟨cs⟩ => (cvs cs).map .agg
  | .tuple ⟨cs⟩ => (cvs cs).map .tup
  | _ => none
def cvs : List Value → Option (List V)
  | [] => some []
  | v :: vs => match cv v, cvs vs with
    | some x, some xs => some (x :: xs)
    | _, _ => none
end
mutual
theorem cv_rel (p : Pl) : ∀ {v : Value} {x : V}, cv v = some x → VRel p x v
  | .bool b, x, h => by simp [cv] at h; subst h; simp [VRel]
  | .int k n, x, h => by simp [cv] at h; subst h; simp [VRel]
  | .string s, x, h => by simp [cv] at h; subst h; simp [VRel, bytesOf]
  | .pointer none, x, h => by simp [cv] at h; subst h; simp [VRel]
  | .pointer (some a), x, h => by simp [cv] at h
  | .slice none 0 0, x, h => by simp [cv] at h; subst h; simp [VRel]
  | .slice none 0 (_ + 1), x, h => by simp [cv] at h
  | .slice none (_ + 1) _, x, h => by simp [cv] at h
  | .slice (some a) _ _, x, h => by simp [cv] at h
  | .map none, x, h => by simp [cv] at h; subst h; simp [VRel]
  | .map (some a), x, h => by simp [cv] at h
  | .nilFunc, x, h => by simp [cv] at h; subst h; simp [VRel]
  | .nilIface, x, h => by simp [cv] at h; subst h; simp [VRel]
  | .func f ⟨[]⟩ ⟨[]⟩, x, h => by simp [cv] at h; subst h; simp [VRel]
  | .func f ⟨_ :: _⟩ _, x, h => by simp [cv] at h
  | .func f ⟨[]⟩ ⟨_ :: _⟩, x, h => by simp [cv] at h
  | .agg ⟨cs⟩, x, h => by
    simp only [cv, Option.map_eq_some_iff] at h
    obtain ⟨xs, h1, rfl⟩ := h
    simp only [VRel]; exact ⟨_, rfl, cvs_rel p h1⟩
  | .tuple ⟨cs⟩, x, h => by
    simp only [cv, Option.map_eq_some_iff] at h
    obtain ⟨xs, h1, rfl⟩ := h
    simp only [VRel]; exact ⟨_, rfl, cvs_rel p h1⟩
  | .float _ _, x, h => by simp [cv] at h
  | .complex _ _ _, x, h => by simp [cv] at h
  | .chan _, x, h => by simp [cv] at h
  | .iface _ _, x, h => by simp [cv] at h
theorem cvs_rel (p : Pl) : ∀ {vs : List Value} {xs : List V}, cvs vs = some xs → VRels p xs vs
  | [], xs, h => by simp [cvs] at h; subst h; simp
  | v :: vs, xs, h => by
    unfold cvs at h
    split at h
    case h_2 => cases h
    rename_i x xs' h1 h2
    cases h
    exact (VRels_cons ..).2 ⟨cv_rel p h1, cvs_rel p h2⟩
end
structure Fn where
  ntmps : Nat
  results : Array ResultVar
  body : Code
  /-- are the plans of its drawing regions checked -/
  cert : Bool
structure Ctx where
  T : Tab
  /-- the package-level variables: the first blocks -/
  ng : Nat
  fn : FuncId → Option Fn
  /-- functions without a body -/
  prim : FuncId → Option (List V → H → Option (V × H))
  /-- functions taken by their contract -/
  spec : FuncId → Option (List V → H → Option (V × H))
  /-- are outcomes made one that differ in what nobody sees -/
  mg : Bool
def Gl (C : Ctx) (p : Pl) : Prop := ∀ g, g < C.ng → ∃ n, p[g]? = some (g, n)
theorem Gl.ext {C : Ctx} {p p' : Pl} {h h' : H} {w w' : World} (hg : Gl C p) (e : Ext p h w p' h' w') : Gl C p' := by
  obtain ⟨q, rfl⟩ := e.pre
  intro g hlt
  obtain ⟨n, hn⟩ := hg g hlt
  exact ⟨n, by rw [List.getElem?_append_left (List.getElem?_eq_some_iff.1 hn).1]; exact hn⟩
def ev (C : Ctx) (fr : Fr) : Operand → Option V
  | .tmp t => some (fr.get t)
  | .const v => cv v
  | .global g => bif Nat.blt g C.ng then some (.ptr g 0) else none
  | .func f => some (.fn (.func f) [] [])
theorem sim_ev {C : Ctx} {p : Pl} {fr : Fr} {a : Act} (hg : Gl C p) (hf : FRel p fr a) {x : Operand} {v : V} (hd : ev C fr x = some v) : VRel p v (a.eval x) := by
  cases x with
  | tmp t => simp only [ev, Option.some.injEq] at hd; subst hd; exact hf.2 t
  | const v => exact cv_rel p hd
  | global g =>
    simp only [ev, blt_t] at hd
    by_cases hlt : g < C.ng
    · simp only [hlt, decide_true, cond_true, Option.some.injEq] at hd
      subst hd
      obtain ⟨n, hn⟩ := hg g hlt
      simp only [VRel, Act.eval]; exact ⟨g, n, hn, rfl⟩
    · simp [hlt] at hd
  | func f => simp only [ev, Option.some.injEq] at hd; subst hd; simp [VRel, Act.eval]
def evs (C : Ctx) (fr : Fr) : List Operand → Option (List V)
  | [] => some []
  | x :: xs => match ev C fr x, evs C fr xs with
    | some v, some vs => some (v :: vs)
    | _, _ => none
theorem sim_evs {C : Ctx} {p : Pl} {fr : Fr} {a : Act} (hg : Gl C p) (hf : FRel p fr a) : ∀ {xs : List Operand} {vs : List V}, evs C fr xs = some vs → VRels p vs (xs.map a.eval)
  | [], vs, h => by simp [evs] at h; subst h; simp
  | x :: xs, vs, h => by
    unfold evs at h
    split at h
    case h_2 => cases h
    rename_i v vs' h1 h2
    cases h
    exact (VRels_cons ..).2 ⟨sim_ev hg hf h1, sim_evs hg hf h2⟩
def evo (C : Ctx) (fr : Fr) : Option Operand → Option (Option V)
  | none => some none
  | some x => (ev C fr x).map some
theorem sim_evo {C : Ctx} {p : Pl} {fr : Fr} {a : Act} (hg : Gl C p) (hf : FRel p fr a) {x : Option Operand} {v : Option V} (hd : evo C fr x = some v) : ORelV p v (x.map a.eval) := by
  cases x with
  | none => simp [evo] at hd; subst hd; rfl
  | some x =>
    simp only [evo, Option.map_eq_some_iff] at hd
    obtain ⟨u, h1, rfl⟩ := hd
    exact ⟨_, rfl, sim_ev hg hf h1⟩
def evp (C : Ctx) (fr : Fr) : List (Nat × Operand) → Option (List (Nat × V))
  | [] => some []
  | (i, x) :: xs => match ev C fr x, evp C fr xs with
    | some v, some vs => some ((i, v) :: vs)
    | _, _ => none
theorem sim_evp {C : Ctx} {p : Pl} {fr : Fr} {a : Act} (hg : Gl C p) (hf : FRel p fr a) : ∀ {xs : List (Nat × Operand)} {vs : List (Nat × V)}, evp C fr xs = some vs → PRel p vs (xs.map fun (i, x) => (i, a.eval x))
  | [], vs, h => by simp [evp] at h; subst h; exact .nil
  | (i, x) :: xs, vs, h => by
    unfold evp at h
    split at h
    case h_2 => cases h
    rename_i v vs' h1 h2
    cases h
    exact .cons (sim_ev hg hf h1) (sim_evp hg hf h2)
/-- what an operation comes to -/
inductive OR where
  | val (v : V) (h : H)
  | skip (h : H)
  | enter (f : FuncId) (args : List V)
  /-- a round of the range over a function whose record is block b -/
  | round (b : Nat) (l : LS) (fr : Fr)
  /-- one of these: the model draws which -/
  | alts (l : List (V × H))
/-- a parameter is set -/
def Fr.setT (f : Fr) (t : Nat) (v : V) : Fr := bif Nat.blt t f.n then ⟨f.n, f.m.set t (some v)⟩ else f
def setPs : List Tmp → List V → Fr → Fr
  | t :: ts, v :: vs, f => setPs ts vs (f.setT t v)
  | _, _, f => f
theorem FRelT.setT {p : Pl} {f : Fr} {tmps : Array Value} (hf : FRelT p f tmps) {v : V} {v' : Value} (hv : VRel p v v') (t : Nat) : FRelT p (f.setT t v) (tmps.setIfInBounds t v') := by
  unfold Fr.setT
  simp only [blt_t]
  by_cases hlt : t < f.n
  · simp only [hlt, decide_true, cond_true]
    refine ⟨by simp [hf.1], fun s => ?_⟩
    have hlt' : t < tmps.size := hf.1 ▸ hlt
    by_cases e : s = t
    · subst e
      simp [Fr.get, hlt', hv]
    · have := hf.2 s
      simp only [Fr.get, PM.get_set, if_neg e] at this ⊢
      rw [Array.getD_eq_getD_getElem?, Array.getElem?_setIfInBounds_ne (fun x => e x.symm), ← Array.getD_eq_getD_getElem?]
      exact this
  · simp only [hlt, decide_false, cond_false]
    have : tmps.setIfInBounds t v' = tmps := by
      have : tmps.size ≤ t := by have := hf.1; omega
      simp [Array.setIfInBounds, Nat.not_lt.2 this]
    rw [this]; exact hf
theorem FRelT.setPs {p : Pl} : ∀ {ts : List Tmp} {vs : List V} {vs' : List Value}, VRels p vs vs' → ∀ {f : Fr} {tmps : Array Value}, FRelT p f tmps → FRelT p (setPs ts vs f) ((ts.zip vs').foldl (fun tmps (t, a) => tmps.setIfInBounds t a) tmps)
  | [], vs, vs', _, f, tmps, hf => by simpa [Det.setPs] using hf
  | t :: ts, [], vs', hv, f, tmps, hf => by simp at hv; subst hv; simpa [Det.setPs] using hf
  | t :: ts, v :: vs, vs', hv, f, tmps, hf => by
    simp only [VRels] at hv
    obtain ⟨u, us, rfl, h1, h2⟩ := hv
    simp only [Det.setPs, List.zip_cons_cons, List.foldl_cons]
    exact FRelT.setPs h2 (hf.setT h1 t)
def okv (h : H) : Option V → Option OR
  | some v => some (.val v h)
  | none => none
def okp : Option (V × H) → Option OR
  | some (v, h) => some (.val v h)
  | none => none
def oks : Option H → Option OR
  | some h => some (.skip h)
  | none => none
def dbuiltin (C : Ctx) (h : H) (b : Builtin) (ts : Array TypeId) (args : List V) : Option OR :=
  match b with
  | .len => okv h (dlen C.T h ts args)
  | .append => okp (dappend C.T h ts args)
  | .copy => okp (dcopy C.T h ts args)
  | .max => okv h (dminmax dmax args)
  | .min => okv h (dminmax dmin args)
  | .cap => okv h (dcap C.T ts args)
  | .delete => okp (ddelete C.T h ts args)
  | .clear => okp (dclear C.T h ts args)
  | _ => none
def dcall (C : Ctx) (h : H) (f : V) (args : List V) : Option OR :=
  match f with
  | .fn (.func g) first captured =>
    match C.prim g with
    | some q => okp (q (first ++ args ++ captured) h)
    | none => match C.fn g with
      | some _ => some (.enter g (first ++ args ++ captured))
      | none => none
  | .yld b => match h.get b with
    | some (.loop l) => bif Nat.beq args.length l.ps.size then some (.round b l (setPs l.ps.toList args l.fr)) else none
    | _ => none
  | _ => none
def isC : Operand → Bool
  | .const _ => true
  | _ => false
/-- two nil values of an interface type, one of them the literal nil -/
def dnil (T : Tab) (op : BinOp) (t : TypeId) (x y : Operand) (v u : V) : Option V :=
  match op, v, u, T.und t with
  | .eql, .nili, .nili, some (.interface _) => bif isC x || isC y then some (.bool true) else none
  | .neq, .nili, .nili, some (.interface _) => bif isC x || isC y then some (.bool false) else none
  | _, _, _, _ => none
def dbinx (T : Tab) (op : BinOp) (t : TypeId) (x y : Operand) (v u : V) : Option V :=
  match dnil T op t x y v u with
  | some r => some r
  | none => dbin T op t v u
def dop0 (C : Ctx) (fr : Fr) (h : H) (o : Oper) : Option OR :=
  let ρ := ev C fr
  match o.op with
  | .move x | .assign x => okv h (ρ x)
  | .pick c a b => match ρ c with
    | some (.bool t) => okv h (if t then ρ a else ρ b)
    | _ => none
  | .alloc t => okp (dalloc C.T h t)
  | .box t x => okp ((ρ x).map fun v => dbox h t v)
  | .build t parts => match evp C fr parts.toList with
    | some ps => okv h (dbuild C.T t ps)
    | none => none
  | .buildSlice t n parts => match evp C fr parts.toList with
    | some ps => okp (dbslice C.T h t n ps)
    | none => none
  | .load t x => match ρ x with
    | some v => okv h (dload C.T h t v)
    | none => none
  | .store t x y => match ρ x, ρ y with
    | some v, some u => oks (dstore C.T h t v u)
    | _, _ => none
  | .nilCheck x => match ρ x with
    | some (.ptr b i) => okv h (some (.ptr b i))
    | some (.iface t v) => okv h (some (.iface t v))
    | _ => none
  | .binOp op t x y _ => match ρ x, ρ y with
    | some v, some u => okv h (dbinx C.T op t x y v u)
    | _, _ => none
  | .unOp op _ x => match ρ x with
    | some v => okv h (dun op v)
    | none => none
  | .convert s d x => match ρ x with
    | some v => okv h (dconv C.T h s d v)
    | none => none
  | .makeInterface t x => match ρ x, C.T.und t with
    | some v, some d => match d with
      | .interface _ => none
      | _ => okv h (some (.iface t v))
    | _, _ => none
  | .makeFunc f first captured => match evs C fr first.toList, evs C fr captured.toList with
    | some a, some b => okv h (some (.fn f a b))
    | _, _ => none
  | .makeMap _ r => match evo C fr r with
    | some v => okp (dmakeMap h v)
    | none => none
  | .makeSlice t l c => match ρ l, ρ c with
    | some v, some u => okp (dmake C.T h t v u)
    | _, _ => none
  | .slice t x lo hi mx => match ρ x, evo C fr lo, evo C fr hi, evo C fr mx with
    | some v, some l, some r, some m => okv h (dslice C.T t v l r m)
    | _, _, _, _ => none
  | .fieldAddr t x f => match ρ x with
    | some v => okv h (dfaddr C.T t v f)
    | none => none
  | .field t x f => match ρ x with
    | some v => okv h (dfield C.T t v f)
    | none => none
  | .indexAddr t x i => match ρ x, ρ i with
    | some v, some u => okv h (diaddr C.T t v u)
    | _, _ => none
  | .index t x i => match ρ x, ρ i with
    | some v, some u => okv h (dindex C.T t v u)
    | _, _ => none
  | .lookup t x i ok => match ρ x, ρ i with
    | some v, some u => okv h (dlookup C.T h t v u ok)
    | _, _ => none
  | .mapUpdate t m k x | .insert t m k x => match ρ m, ρ k, ρ x with
    | some a, some b, some c => oks (dupdate C.T h t a b c)
    | _, _, _ => none
  | .range t x => match ρ x with
    | some v => okp (dmrange C.T h t v)
    | none => none
  | .next x isStr => match ρ x with
    | some v => bif isStr then okp (dnext h v isStr) else (dmnext h v isStr).map .alts
    | none => none
  | .entry x => match ρ x with
    | some v => okv h (dentry h v)
    | none => none
  | .extract x i => match ρ x with
    | some v => okv h (dextract v i)
    | none => none
  | .call c => match c.callee, evs C fr c.args.toList with
    | .builtin b, some args => dbuiltin C h b c.argTypes args
    | .value f, some args => match ρ f with
      | some g => dcall C h g args
      | none => none
    | _, _ => none
  | _ => none
abbrev OpF := Ctx → Fr → H → Option OR
def o_move (a0 : Operand) : OpF := fun C fr h => okv h (ev C fr a0)
def o_assign (a0 : Operand) : OpF := fun C fr h => okv h (ev C fr a0)
def o_pick (a0 : Operand) (a1 : Operand) (a2 : Operand) : OpF := fun C fr h => match ev C fr a0 with | some (.bool t) => okv h (if t then ev C fr a1 else ev C fr a2) | _ => none
def o_alloc (a0 : TypeId) : OpF := fun C _fr h => okp (dalloc C.T h a0)
def o_box (a0 : TypeId) (a1 : Operand) : OpF := fun C fr h => okp ((ev C fr a1).map fun v => dbox h a0 v)
def o_build (a0 : TypeId) (a1 : Array (Nat × Operand)) : OpF := fun C fr h => match evp C fr a1.toList with | some ps => okv h (dbuild C.T a0 ps) | none => none
def o_buildSlice (a0 : TypeId) (a1 : Nat) (a2 : Array (Nat × Operand)) : OpF := fun C fr h => match evp C fr a2.toList with | some ps => okp (dbslice C.T h a0 a1 ps) | none => none
def o_insert (a0 : TypeId) (a1 : Operand) (a2 : Operand) (a3 : Operand) : OpF := fun C fr h => match ev C fr a1, ev C fr a2, ev C fr a3 with | some a, some b, some c => oks (dupdate C.T h a0 a b c) | _, _, _ => none
def o_load (a0 : TypeId) (a1 : Operand) : OpF := fun C fr h => match ev C fr a1 with | some v => okv h (dload C.T h a0 v) | none => none
def o_store (a0 : TypeId) (a1 : Operand) (a2 : Operand) : OpF := fun C fr h => match ev C fr a1, ev C fr a2 with | some v, some u => oks (dstore C.T h a0 v u) | _, _ => none
def o_ready (_a0 : Nat) : OpF := fun _ _ _ => none
def o_waits (_a0 : Nat) : OpF := fun _ _ _ => none
def o_nilCheck (a0 : Operand) : OpF := fun C fr h => match ev C fr a0 with | some (.ptr b i) => okv h (some (.ptr b i)) | some (.iface t v) => okv h (some (.iface t v)) | _ => none
def o_binOp (a0 : BinOp) (a1 : TypeId) (a2 : Operand) (a3 : Operand) (_a4 : TypeId) : OpF := fun C fr h => match ev C fr a2, ev C fr a3 with | some v, some u => okv h (dbinx C.T a0 a1 a2 a3 v u) | _, _ => none
def o_unOp (a0 : UnOp) (_a1 : TypeId) (a2 : Operand) : OpF := fun C fr h => match ev C fr a2 with | some v => okv h (dun a0 v) | none => none
def o_convert (a0 : TypeId) (a1 : TypeId) (a2 : Operand) : OpF := fun C fr h => match ev C fr a2 with | some v => okv h (dconv C.T h a0 a1 v) | none => none
def o_sliceToArrayPointer (_a0 : TypeId) (_a1 : Operand) : OpF := fun _ _ _ => none
def o_makeInterface (a0 : TypeId) (a1 : Operand) : OpF := fun C fr h => match ev C fr a1, C.T.und a0 with | some v, some d => (match d with | .interface _ => none | _ => okv h (some (.iface a0 v))) | _, _ => none
def o_makeFunc (a0 : Go.Fn) (a1 : Array Operand) (a2 : Array Operand) : OpF := fun C fr h => match evs C fr a1.toList, evs C fr a2.toList with | some a, some b => okv h (some (.fn a0 a b)) | _, _ => none
def o_makeMap (_a0 : TypeId) (a1 : Option Operand) : OpF := fun C fr h => match evo C fr a1 with | some v => okp (dmakeMap h v) | none => none
def o_makeChan (_a0 : TypeId) (_a1 : Operand) : OpF := fun _ _ _ => none
def o_makeSlice (a0 : TypeId) (a1 : Operand) (a2 : Operand) : OpF := fun C fr h => match ev C fr a1, ev C fr a2 with | some v, some u => okp (dmake C.T h a0 v u) | _, _ => none
def o_slice (a0 : TypeId) (a1 : Operand) (a2 : Option Operand) (a3 : Option Operand) (a4 : Option Operand) : OpF := fun C fr h => match ev C fr a1, evo C fr a2, evo C fr a3, evo C fr a4 with | some v, some l, some r, some m => okv h (dslice C.T a0 v l r m) | _, _, _, _ => none
def o_fieldAddr (a0 : TypeId) (a1 : Operand) (a2 : Nat) : OpF := fun C fr h => match ev C fr a1 with | some v => okv h (dfaddr C.T a0 v a2) | none => none
def o_field (a0 : TypeId) (a1 : Operand) (a2 : Nat) : OpF := fun C fr h => match ev C fr a1 with | some v => okv h (dfield C.T a0 v a2) | none => none
def o_indexAddr (a0 : TypeId) (a1 : Operand) (a2 : Operand) : OpF := fun C fr h => match ev C fr a1, ev C fr a2 with | some v, some u => okv h (diaddr C.T a0 v u) | _, _ => none
def o_index (a0 : TypeId) (a1 : Operand) (a2 : Operand) : OpF := fun C fr h => match ev C fr a1, ev C fr a2 with | some v, some u => okv h (dindex C.T a0 v u) | _, _ => none
def o_lookup (a0 : TypeId) (a1 : Operand) (a2 : Operand) (a3 : Bool) : OpF := fun C fr h => match ev C fr a1, ev C fr a2 with | some v, some u => okv h (dlookup C.T h a0 v u a3) | _, _ => none
def o_mapUpdate (a0 : TypeId) (a1 : Operand) (a2 : Operand) (a3 : Operand) : OpF := fun C fr h => match ev C fr a1, ev C fr a2, ev C fr a3 with | some a, some b, some c => oks (dupdate C.T h a0 a b c) | _, _, _ => none
def o_mapEntry (_a0 : TypeId) (_a1 : Operand) (_a2 : Operand) : OpF := fun _ _ _ => none
def o_entryStore (_a0 : TypeId) (_a1 : Operand) (_a2 : Operand) (_a3 : Operand) : OpF := fun _ _ _ => none
def o_range (a0 : TypeId) (a1 : Operand) : OpF := fun C fr h => match ev C fr a1 with | some v => okp (dmrange C.T h a0 v) | none => none
def o_next (a0 : Operand) (a1 : Bool) : OpF := fun C fr h => match ev C fr a0 with | some v => bif a1 then okp (dnext h v a1) else (dmnext h v a1).map .alts | none => none
def o_entry (a0 : Operand) : OpF := fun C fr h => match ev C fr a0 with | some v => okv h (dentry h v) | none => none
def o_typeAssert (_a0 : Operand) (_a1 : TypeId) (_a2 : TypeId) (_a3 : Bool) : OpF := fun _ _ _ => none
def o_extract (a0 : Operand) (a1 : Nat) : OpF := fun C fr h => match ev C fr a0 with | some v => okv h (dextract v a1) | none => none
def o_call (a0 : Call) : OpF := fun C fr h => match a0.callee, evs C fr a0.args.toList with | .builtin b, some args => dbuiltin C h b a0.argTypes args | .value f, some args => (match ev C fr f with | some g => dcall C h g args | none => none) | _, _ => none
def o_go (_a0 : Call) : OpF := fun _ _ _ => none
def o_defer (_a0 : Call) : OpF := fun _ _ _ => none
def o_panic (_a0 : Operand) : OpF := fun _ _ _ => none
def o_send (_a0 : Operand) (_a1 : Operand) : OpF := fun _ _ _ => none
def o_recv (_a0 : TypeId) (_a1 : Operand) (_a2 : Bool) : OpF := fun _ _ _ => none
def o_select (_a0 : Array SelectCase) (_a1 : Bool) : OpF := fun _ _ _ => none
def opF (o : Op) : OpF := @Op.casesOn (fun _ => OpF) o o_move o_assign o_pick o_alloc o_box o_build o_buildSlice o_insert o_load o_store o_ready o_waits o_nilCheck o_binOp o_unOp o_convert o_sliceToArrayPointer o_makeInterface o_makeFunc o_makeMap o_makeChan o_makeSlice o_slice o_fieldAddr o_field o_indexAddr o_index o_lookup o_mapUpdate o_mapEntry o_entryStore o_range o_next o_entry o_typeAssert o_extract o_call o_go o_defer o_panic o_send o_recv o_select
def dop (C : Ctx) (fr : Fr) (h : H) (o : Oper) : Option OR := opF o.op C fr h
theorem dop_eq (C : Ctx) (fr : Fr) (h : H) (o : Oper) : dop C fr h o = dop0 C fr h o := by
  unfold dop dop0
  cases o.op <;> rfl
/-- operations that make memory where others of their kind make none -/
def dopx (C : Ctx) (fr : Fr) (h : H) (o : Oper) : Option OR :=
  match dop C fr h o with
  | some r => some r
  | none => match o.op with
    | .convert s d x => match ev C fr x with
      | some v => okp (dbytes C.T h s d v)
      | none => none
    | _ => none
structure Ctx.Ok (C : Ctx) (P : Program) : Prop where
  T : C.T.Ok P
  fn : ∀ f i, C.fn f = some i → ∃ fn, P.funcs[f]? = some fn ∧ fn.name ≠ "runtime.NumGoroutine" ∧ fn.body = some i.body ∧ fn.ntmps = i.ntmps ∧ fn.results = i.results
  prim : ∀ f q, C.prim f = some q → ∀ (p : Pl) (h : H) (w : World) (args : List V) (args' : Array Value) v h', R p h w → Gl C p → VRels p args args'.toList → q args h = some (v, h') →
    ∃ v' p' w', (callFunc f args').run P w = .ok (.value v') w' ∧ VRel p' v v' ∧ Ext p h w p' h' w'
  spec : ∀ f q, C.spec f = some q → ∀ (p : Pl) (h : H) (w : World) (args : List V) (args' : Array Value) v h', R p h w → Gl C p → VRels p args args'.toList → q args h = some (v, h') →
    Calls P f args' w fun e w' => ∃ v' p', e = .returned v' ∧ VRel p' v v' ∧ Ext p h w p' h' w'
def OSim (p : Pl) (h : H) (w : World) : OR → Result Next → Prop
  | .val v h', r => ∃ v' p' w', r = .ok (.value v') w' ∧ VRel p' v v' ∧ Ext p h w p' h' w'
  | .skip h', r => ∃ p' w', r = .ok .skip w' ∧ Ext p h w p' h' w'
  | .enter f args, r => ∃ args', r = .ok (.enter f args') w ∧ VRels p args args'.toList
  | .round b l fr, r => ∃ k n f tmps, p[b]? = some (k, n) ∧ h.get b = some (.loop l) ∧ r = .ok (.round k f tmps l.asg l.body) w ∧ FRelT p fr tmps
  | .alts l, r => ∃ v h' v' p' w', (v, h') ∈ l ∧ r = .ok (.value v') w' ∧ VRel p' v v' ∧ Ext p h w p' h' w'
section
variable {C : Ctx} {P : Program} {p : Pl} {h : H} {w : World} {fr : Fr} {a : Act}
theorem okv_sim {s : Sem Value} {v : Option V} {r : OR} (hr : R p h w) (hd : okv h v = some r) (hs : ∀ x, v = some x → ∃ v', s.run P w = .ok v' w ∧ VRel p x v') : OSim p h w r ((do pure (.value (← s)) : Sem Next).run P w) := by
  cases v with
  | none => simp [okv] at hd
  | some x =>
    simp only [okv, Option.some.injEq] at hd; subst hd
    obtain ⟨v', h1, h2⟩ := hs x rfl
    exact ⟨v', p, w, by simp [h1], h2, Ext.refl hr⟩
theorem okp_sim {s : Sem Value} {v : Option (V × H)} {r : OR} (hd : okp v = some r) (hs : ∀ x h', v = some (x, h') → ∃ v' p' w', s.run P w = .ok v' w' ∧ VRel p' x v' ∧ Ext p h w p' h' w') : OSim p h w r ((do pure (.value (← s)) : Sem Next).run P w) := by
  match v, hd, hs with
  | some (x, h'), hd, hs =>
    simp only [okp, Option.some.injEq] at hd; subst hd
    obtain ⟨v', p', w', h1, h2, h3⟩ := hs x h' rfl
    exact ⟨v', p', w', by simp [h1], h2, h3⟩
  | none, hd, _ => simp [okp] at hd
theorem oks_sim {s : Sem Unit} {v : Option H} {r : OR} (hd : oks v = some r) (hs : ∀ h', v = some h' → ∃ w', s.run P w = .ok () w' ∧ Ext p h w p h' w') : OSim p h w r ((do s; pure .skip : Sem Next).run P w) := by
  cases v with
  | none => simp [oks] at hd
  | some h' =>
    simp only [oks, Option.some.injEq] at hd; subst hd
    obtain ⟨w', h1, h2⟩ := hs h' rfl
    exact ⟨p, w', by simp [h1], h2⟩
theorem sim_dcall (hC : C.Ok P) (hr : R p h w) (hg : Gl C p) {f : V} {f' : Value} {args : List V} {args' : Array Value} (hf : VRel p f f') (ha : VRels p args args'.toList) {r : OR} (hd : dcall C h f args = some r) :
    OSim p h w r ((do let d ← Deferred.ofValue f' args'; invoke d.target d.args : Sem Next).run P w) := by
  unfold dcall at hd
  split at hd
  case h_3 => cases hd
  case h_2 =>
    rename_i b
    split at hd
    case h_2 => cases hd
    rename_i l hb
    rw [beq_t] at hd
    by_cases hn : args.length = l.ps.size
    · simp only [hn, decide_true, cond_true, Option.some.injEq] at hd
      subst hd
      simp only [VRel] at hf
      obtain ⟨k, n, hp, rfl⟩ := hf
      obtain ⟨k', n', o, h1, h2, f0, tmps, r, m, h3, h4, rfl⟩ := hr.obj _ _ hb
      rw [hp] at h1; cases h1
      have hl := ha.length
      simp only [Deferred.ofValue, Sem.run_bind, Sem.run_pure, Result.andThen_ok, invoke]
      simp at hl
      have e : ((l.ps.zip args').foldl (fun tmps (t, a) => tmps.setIfInBounds t a) tmps) = (l.ps.toList.zip args'.toList).foldl (fun tmps (t, a) => tmps.setIfInBounds t a) tmps := by
        rw [← Array.toList_zip, Array.foldl_toList]
      have h5 := FRelT.setPs (ts := l.ps.toList) ha h3
      rw [← e] at h5
      refine ⟨k, n, f0, _, hp, hb, ?_, h5⟩
      simp only [Array.empty_append]
      exact run_yield h2 (by rw [← hl, hn])
    · simp [hn] at hd
  rename_i g first captured
  simp only [VRel] at hf
  obtain ⟨x, y, rfl, hx, hy⟩ := hf
  have hall : VRels p (first ++ args ++ captured) (x ++ args' ++ y).toList := by
    simpa using (hx.append ha).append hy
  simp only [Deferred.ofValue, Sem.run_bind, Sem.run_pure, Result.andThen_ok, invoke]
  split at hd
  case h_1 =>
    rename_i q hq
    match hqr : q (first ++ args ++ captured) h, hd with
    | some (v, h'), hd =>
      simp only [okp, Option.some.injEq] at hd; subst hd
      obtain ⟨v', p', w', h1, h2, h3⟩ := hC.prim g q hq p h w _ _ v h' hr hg hall hqr
      exact ⟨v', p', w', h1, h2, h3⟩
    | none, hd => simp [okp] at hd
  case h_2 =>
    split at hd
    case h_2 => cases hd
    rename_i i hi
    cases hd
    obtain ⟨fn, h1, h2, h3, h4, h5⟩ := hC.fn g i hi
    refine ⟨_, ?_, hall⟩
    unfold callFunc
    simp [h1, h2, h3]
theorem sim_builtin (hC : C.Ok P) (hr : R p h w) {b : Builtin} {ts : Array TypeId} {t : TypeId} {cs : Array Bool} {args : List V} {args' : Array Value} (ha : VRels p args args'.toList) {r : OR} (hd : dbuiltin C h b ts args = some r) :
    OSim p h w r ((builtin b ts t cs args').run P w) := by
  unfold dbuiltin at hd
  split at hd
  case h_1 => exact okv_sim hr hd fun x hx => sim_len hC.T hr ha hx
  case h_2 => exact okp_sim hd fun x h' hx => sim_append hC.T hr ha hx
  case h_3 => exact okp_sim hd fun x h' hx => sim_copy hC.T hr ha hx
  case h_4 => exact okv_sim hr hd fun x hx => sim_max ha hx
  case h_5 => exact okv_sim hr hd fun x hx => sim_min ha hx
  case h_6 => exact okv_sim hr hd fun x hx => sim_cap hC.T ha hx
  case h_7 => exact okp_sim hd fun x h' hx => sim_delete hC.T hr ha hx
  case h_8 => exact okp_sim hd fun x h' hx => sim_clear hC.T hr ha hx
  case h_9 => cases hd
theorem sim_binx {T : Tab} (hT : T.Ok P) {op : BinOp} {t : TypeId} {x y : Operand} {v u : V} {v' u' : Value} (hv : VRel p v v') (hu : VRel p u u') {z : V} (hd : dbinx T op t x y v u = some z) :
    ∃ z', (do eqGuard op t x y v' u'; binOp op t v' u' : Sem Value).run P w = .ok z' w ∧ VRel p z z' := by
  unfold dbinx at hd
  split at hd
  case h_2 =>
    simp only [Sem.run_bind, sim_guard hT hv hu hd, Result.andThen_ok]
    exact sim_bin hT hv hu hd
  case h_1 =>
    rename_i r hr
    cases hd
    have hk : ∀ {b : Bool}, (bif isC x || isC y then some (V.bool b) else none) = some z → z = .bool b ∧ ((∃ c, x = .const c) ∨ ∃ c, y = .const c) := by
      intro b hb
      cases hc : (isC x || isC y) with
      | false => simp [hc] at hb
      | true =>
        simp only [hc, cond_true, Option.some.injEq] at hb
        refine ⟨hb.symm, ?_⟩
        simp only [Bool.or_eq_true] at hc
        rcases hc with hc | hc
        · left; cases x <;> first | exact ⟨_, rfl⟩ | cases hc
        · right; cases y <;> first | exact ⟨_, rfl⟩ | cases hc
    have hg : ∀ op, (op = .eql ∨ op = .neq) → ((∃ c, x = .const c) ∨ ∃ c, y = .const c) → (eqGuard op t x y .nilIface .nilIface).run P w = .ok () w := by
      intro op ho hc
      rcases ho with rfl | rfl <;> unfold eqGuard <;> rcases hc with ⟨c, rfl⟩ | ⟨c, rfl⟩ <;> simp
    have heq : ∀ {ms}, T.und t = some (.interface ms) → (Op.equal t .nilIface .nilIface).run P w = .ok true w := by
      intro ms hund
      unfold Op.equal Op.maxDepth Op.equalIn
      rw [Sem.run_bind, run_und hT hund]
      rfl
    unfold dnil at hr
    split at hr
    case h_1 =>
      rename_i ms hund
      obtain ⟨rfl, hc⟩ := hk hr
      have hb := (bin_eql (t := t) (y' := .nilIface) hv rfl).1
      simp only [VRel] at hv hu; subst hv hu
      refine ⟨.bool true, ?_, by simp [VRel]⟩
      rw [Sem.run_bind, hg .eql (.inl rfl) hc, Result.andThen_ok, hb, Sem.run_bind, heq hund]
      rfl
    case h_2 =>
      rename_i ms hund
      obtain ⟨rfl, hc⟩ := hk hr
      have hb := (bin_eql (t := t) (y' := .nilIface) hv rfl).2
      simp only [VRel] at hv hu; subst hv hu
      refine ⟨.bool false, ?_, by simp [VRel]⟩
      rw [Sem.run_bind, hg .neq (.inr rfl) hc, Result.andThen_ok, hb, Sem.run_bind, heq hund]
      rfl
    case h_3 => cases hr
theorem sim_op (hC : C.Ok P) (hr : R p h w) (hg : Gl C p) (hf : FRel p fr a) {o : Oper} {r : OR} (hd : dop C fr h o = some r) : OSim p h w r ((execOp a.eval o).run P w) := by
  rw [dop_eq] at hd
  unfold dop0 at hd
  unfold execOp
  cases ho : o.op <;> simp only [ho] at hd ⊢ <;> try (cases hd; done)
  case move x | assign x =>
    cases hx : ev C fr x with
    | none => simp [hx, okv] at hd
    | some v => simp [hx, okv] at hd; subst hd; exact ⟨_, p, w, rfl, sim_ev hg hf hx, Ext.refl hr⟩
  case pick c x y =>
    split at hd
    case h_2 => cases hd
    rename_i t hc
    have hcv := sim_ev hg hf hc
    simp only [VRel] at hcv
    simp only [Sem.run_bind, hcv, asBool, Sem.run_pure, Result.andThen_ok]
    cases t
    · cases hx : ev C fr y with
      | none => simp [hx, okv] at hd
      | some v => simp [hx, okv] at hd; subst hd; exact ⟨_, p, w, by simp, sim_ev hg hf hx, Ext.refl hr⟩
    · cases hx : ev C fr x with
      | none => simp [hx, okv] at hd
      | some v => simp [hx, okv] at hd; subst hd; exact ⟨_, p, w, by simp, sim_ev hg hf hx, Ext.refl hr⟩
  case alloc t => exact okp_sim hd fun x h' hx => sim_alloc hC.T hr hx
  case box t x =>
    refine okp_sim hd fun v h' hx => ?_
    rw [Option.map_eq_some_iff] at hx
    obtain ⟨u, hu, he⟩ := hx
    have := sim_box (P := P) (t := t) hr (sim_ev hg hf hu)
    rw [he] at this; exact this
  case build t parts =>
    split at hd
    case h_2 => cases hd
    rename_i ps hps
    refine okv_sim hr hd fun x hx => sim_build hC.T ?_ hx
    have := sim_evp hg hf hps
    simpa using this
  case buildSlice t n parts =>
    split at hd
    case h_2 => cases hd
    rename_i ps hps
    refine okp_sim hd fun x h' hx => sim_bslice hC.T hr ?_ hx
    have := sim_evp hg hf hps
    simpa using this
  case load t x =>
    split at hd
    case h_2 => cases hd
    rename_i v hv
    exact okv_sim hr hd fun x hx => sim_load hC.T hr (sim_ev hg hf hv) hx
  case store t x y =>
    split at hd
    case h_2 => cases hd
    rename_i v u hv hu
    exact oks_sim hd fun h' hx => sim_store hC.T hr (sim_ev hg hf hv) (sim_ev hg hf hu) hx
  case nilCheck x =>
    split at hd
    case h_3 => cases hd
    case h_1 =>
      rename_i b i hv
      have hx := sim_ev hg hf hv
      have hx' := hx
      simp only [VRel] at hx'
      obtain ⟨r', n, hp, he⟩ := hx'
      simp only [okv, Option.some.injEq] at hd; subst hd
      rw [he]
      exact ⟨_, p, w, rfl, he ▸ hx, Ext.refl hr⟩
    case h_2 =>
      rename_i t v hv
      have hx := sim_ev hg hf hv
      have hx' := hx
      simp only [VRel] at hx'
      obtain ⟨y, he, _⟩ := hx'
      simp only [okv, Option.some.injEq] at hd; subst hd
      rw [he]
      exact ⟨_, p, w, rfl, he ▸ hx, Ext.refl hr⟩
  case binOp op t x y t2 =>
    split at hd
    case h_2 => cases hd
    rename_i v u hv hu
    refine okv_sim hr hd fun z hz => ?_
    exact sim_binx hC.T (sim_ev hg hf hv) (sim_ev hg hf hu) hz
  case unOp op t x =>
    split at hd
    case h_2 => cases hd
    rename_i v hv
    exact okv_sim hr hd fun x hx => sim_un (sim_ev hg hf hv) hx
  case convert s d x =>
    split at hd
    case h_2 => cases hd
    rename_i v hv
    exact okv_sim hr hd fun x hx => sim_conv hC.T hr (sim_ev hg hf hv) hx
  case makeInterface t x =>
    split at hd
    case h_2 => cases hd
    rename_i v d hv hdd
    split at hd
    case h_1 => cases hd
    case h_2 =>
      rename_i hne
      refine okv_sim hr hd fun z hz => ?_
      cases hz
      refine ⟨.iface t (a.eval x), ?_, by simp only [VRel]; exact ⟨_, rfl, sim_ev hg hf hv⟩⟩
      unfold Instr.makeInterface
      simp only [Sem.run_bind, run_und hC.T hdd, Result.andThen_ok]
      cases d <;> first | rfl | exact absurd rfl (hne _)
  case makeFunc f first captured =>
    split at hd
    case h_2 => cases hd
    rename_i x y hx hy
    refine okv_sim hr hd fun z hz => ?_
    cases hz
    exact ⟨_, rfl, by simp only [VRel]; exact ⟨_, _, rfl, by simpa using sim_evs hg hf hx, by simpa using sim_evs hg hf hy⟩⟩
  case makeMap t x =>
    split at hd
    case h_2 => cases hd
    rename_i v hv
    exact okp_sim hd fun x h' hx => sim_makeMap hr (sim_evo hg hf hv) hx
  case makeSlice t l c =>
    split at hd
    case h_2 => cases hd
    rename_i v u hv hu
    exact okp_sim hd fun x h' hx => sim_make hC.T hr (sim_ev hg hf hv) (sim_ev hg hf hu) hx
  case slice t x lo hi mx =>
    split at hd
    case h_2 => cases hd
    rename_i v l r' m hv hl hr' hm
    exact okv_sim hr hd fun x hx => sim_slice hC.T (sim_ev hg hf hv) (sim_evo hg hf hl) (sim_evo hg hf hr') (sim_evo hg hf hm) hx
  case fieldAddr t x f =>
    split at hd
    case h_2 => cases hd
    rename_i v hv
    exact okv_sim hr hd fun x hx => sim_faddr hC.T (sim_ev hg hf hv) hx
  case field t x f =>
    split at hd
    case h_2 => cases hd
    rename_i v hv
    exact okv_sim hr hd fun x hx => sim_field hC.T (sim_ev hg hf hv) hx
  case indexAddr t x i =>
    split at hd
    case h_2 => cases hd
    rename_i v u hv hu
    exact okv_sim hr hd fun x hx => sim_iaddr hC.T (sim_ev hg hf hv) (sim_ev hg hf hu) hx
  case index t x i =>
    split at hd
    case h_2 => cases hd
    rename_i v u hv hu
    exact okv_sim hr hd fun x hx => sim_index hC.T (sim_ev hg hf hv) (sim_ev hg hf hu) hx
  case lookup t x i ok =>
    split at hd
    case h_2 => cases hd
    rename_i v u hv hu
    exact okv_sim hr hd fun x hx => sim_lookup hC.T hr (sim_ev hg hf hv) (sim_ev hg hf hu) hx
  case mapUpdate t m k x | insert t m k x =>
    split at hd
    case h_2 => cases hd
    rename_i v u z hv hu hz
    exact oks_sim hd fun h' hx => sim_update hC.T hr (sim_ev hg hf hv) (sim_ev hg hf hu) (sim_ev hg hf hz) hx
  case range t x =>
    split at hd
    case h_2 => cases hd
    rename_i v hv
    exact okp_sim hd fun x h' hx => sim_mrange hC.T hr (sim_ev hg hf hv) hx
  case next x b =>
    split at hd
    case h_2 => cases hd
    rename_i v hv
    cases b with
    | true => simp only [cond_true] at hd; exact okp_sim hd fun x h' hx => sim_next hr (sim_ev hg hf hv) hx
    | false =>
      simp only [cond_false, Option.map_eq_some_iff] at hd
      obtain ⟨l, hl, rfl⟩ := hd
      obtain ⟨v, h', v', p', w', g1, g2, g3, g4⟩ := sim_mnext (P := P) (t := o.type) hr (sim_ev hg hf hv) hl
      exact ⟨v, h', v', p', w', g1, by simp only [Sem.run_bind, g2, Result.andThen_ok, Sem.run_pure], g3, g4⟩
  case entry x =>
    split at hd
    case h_2 => cases hd
    rename_i v hv
    exact okv_sim hr hd fun x hx => sim_entry hr (sim_ev hg hf hv) hx
  case extract x i =>
    split at hd
    case h_2 => cases hd
    rename_i v hv
    exact okv_sim hr hd fun x hx => sim_extract (sim_ev hg hf hv) hx
  case call c =>
    split at hd
    case h_3 => cases hd
    case h_1 =>
      rename_i b args hcal hargs
      have := sim_evs hg hf hargs
      unfold resolve
      simp only [hcal, Sem.run_bind, Sem.run_pure, Result.andThen_ok, invoke]
      exact sim_builtin hC hr (by simpa using this) hd
    case h_2 =>
      rename_i f args hcal hargs
      split at hd
      case h_2 => cases hd
      rename_i g hgv
      have := sim_evs hg hf hargs
      unfold resolve
      simp only [hcal]
      exact sim_dcall hC hr hg (sim_ev hg hf hgv) (by simpa using this) hd
theorem sim_opx (hC : C.Ok P) (hr : R p h w) (hg : Gl C p) (hf : FRel p fr a) {o : Oper} {r : OR} (hd : dopx C fr h o = some r) : OSim p h w r ((execOp a.eval o).run P w) := by
  unfold dopx at hd
  split at hd
  case h_1 =>
    rename_i r' hr'
    cases hd
    exact sim_op hC hr hg hf hr'
  case h_2 =>
    split at hd
    case h_2 => cases hd
    rename_i s d x ho
    split at hd
    case h_2 => cases hd
    rename_i v hv
    unfold execOp
    simp only [ho]
    exact okp_sim hd fun x h' hx => sim_bytes hC.T hr (sim_ev hg hf hv) hx
end
end
end Go.Det
end
