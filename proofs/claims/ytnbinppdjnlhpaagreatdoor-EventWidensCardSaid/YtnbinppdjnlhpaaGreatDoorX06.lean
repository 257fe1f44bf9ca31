import Derived.Test.YtnbinppdjnlhpaaGreatDoorX05
/- A part of the proofs of the laws of one chapter (no law is stated here). Made by program out of texts by AI agents. -/
section
namespace Go.Det
noncomputable section
section
variable {C : Ctx} {P : Program} {call : CallF} {ops : Array Oper} {anc : Nat → Nat → Bool} {ord pos : Nat → Nat} {sc : Nat → Option Nat} {fr0 : Fr} {h0 : H} {v : Nat → V} {Hh : Nat → H} {F : Nat → Fr}
  {p0 : Pl} {w0 : World} {df : List Deferred} {S : Nat → Prop} {m : Nat} {fl : Nat → Nat} {p : Pl} {a : Act} {w : World}
/-- operation i may come up: all that it waits for has -/
structure Ready (anc : Nat → Nat → Bool) (S : Nat → Prop) (i : Nat) : Prop where
  fresh : ¬ S i
  all : ∀ k, anc i k = true → S k
/-- what has come up is closed downwards -/
def Down (anc : Nat → Nat → Bool) (S : Nat → Prop) : Prop := ∀ i k, S i → anc i k = true → S k
theorem operands (st : Stat ops anc ord pos sc) (cn : Canon C call ops anc ord pos fr0 h0 v Hh F) (hi : Inv C ops pos sc fr0 v Hh F p0 h0 w0 df S m fl p a w) (hd : Down anc S) {i : Nat} {o : Oper} (ho : ops[i]? = some o) (hr : Ready anc S i)
    (hfl : ∀ (k : Nat) (ok : Oper) (t : Tmp), ops[k]? = some ok → (isAl ok = true ∨ (sc k).isSome = true) → ok.dst = some t → t ∈ reads ops o → anc i k = true → pos k < m) : FOn p (F (pos i)) a (reads ops o) := by
  have hin := (Array.getElem?_eq_some_iff.1 ho).1
  have hpn := (st.posp i hin).1
  refine ⟨by rw [cn.fn _ (by omega), hi.sz], fun t ht => ?_⟩
  by_cases hw : ∃ (k : Nat) (ok : Oper), k ≠ i ∧ ops[k]? = some ok ∧ ok.dst = some t
  · obtain ⟨k, ok, hne, hk, hkt⟩ := hw
    rcases (st.s6 k i ok o t hk ho hne hkt).2 ht with h1 | h1
    · have hkS := hr.all k h1
      rw [Fw st cn hk hkt (pos i) (by omega) (st.apos i k h1)]
      exact hi.slotw k ok t hkS hk hkt fun ha _ => hfl k ok t hk ha hkt ht h1
    · have hkS : ¬ S k := fun h => hr.fresh (hd k i h h1)
      have hno : ∀ (j : Nat) (oj : Oper), ops[j]? = some oj → oj.dst = some t → j = k := by
        intro j oj hj hjt
        by_cases e : j = k
        · exact e
        · exact absurd hjt (st.s6 k j ok oj t hk hj (fun h => e h.symm) hkt).1
      rw [Fz st cn (pos i) (by omega) fun j oj hj hjt hlt => by
        have := hno j oj hj hjt; subst this
        have := st.apos _ _ h1; omega]
      refine hi.slot t fun j oj hS hj hjt => ?_
      have := hno j oj hj hjt; subst this
      exact hkS hS
  · have hno : ∀ (j : Nat) (oj : Oper), ops[j]? = some oj → oj.dst = some t → j = i := by
      intro j oj hj hjt
      by_cases e : j = i
      · exact e
      · exact absurd ⟨j, oj, e, hj, hjt⟩ hw
    rw [Fz st cn (pos i) (by omega) fun j oj hj hjt hlt => by
      have := hno j oj hj hjt; subst this; omega]
    refine hi.slot t fun j oj hS hj hjt => ?_
    have := hno j oj hj hjt; subst this
    exact hr.fresh hS
/-- at rest: the evaluator's memory stands just behind the last operation that writes -/
def Rest (ops : Array Oper) (pos : Nat → Nat) (S : Nat → Prop) (m : Nat) : Prop := m = 0 ∨ ∃ (k : Nat) (o : Oper), ops[k]? = some o ∧ isHv o = true ∧ S k ∧ m = pos k + 1
/-- what may come up and does not write finds the memory as the evaluator found it -/
theorem below_rest (st : Stat ops anc ord pos sc) (hd : Down anc S) (hi : Inv C ops pos sc fr0 v Hh F p0 h0 w0 df S m fl p a w) (hrest : Rest ops pos S m) {k : Nat} {o : Oper} (hk : ops[k]? = some o) (hr : ¬ S k) :
    m ≤ pos k ∨ ∃ (i : Nat) (oi : Oper), ops[i]? = some oi ∧ isHv oi = true ∧ S i ∧ m = pos i + 1 ∧ pos k < pos i ∧ anc i k = false := by
  by_cases hlt : m ≤ pos k
  · exact .inl hlt
  · right
    rcases hrest with rfl | ⟨i, oi, h1, h2, h3, h4⟩
    · omega
    · refine ⟨i, oi, h1, h2, h3, h4, ?_, ?_⟩
      · have hne : k ≠ i := fun e => hr (e ▸ h3)
        have hkn := (Array.getElem?_eq_some_iff.1 hk).1
        have hin := (Array.getElem?_eq_some_iff.1 h1).1
        have : pos k ≠ pos i := fun e => hne (by rw [← (st.posp k hkn).2, e, (st.posp i hin).2])
        omega
      · cases hc : anc i k with
        | false => rfl
        | true => exact absurd (hd i k h3 hc) hr
theorem no_heavy (st : Stat ops anc ord pos sc) (hi : Inv C ops pos sc fr0 v Hh F p0 h0 w0 df S m fl p a w) {i : Nat} {o : Oper} (ho : ops[i]? = some o) (hr : Ready anc S i) (hnal : isAl o = false) {k : Nat} {ok : Oper} (hk : ops[k]? = some ok)
    (hv : isHv ok = true) (h1 : m ≤ pos k) (h2 : pos k < pos i) : False := by
  have hkS : ¬ S k := fun h => by have := (hi.mh k ok hk hv).1 h; omega
  have hne : k ≠ i := fun e => by subst e; omega
  rcases kinds o with h | h | h
  · rcases st.s2 k i ok o hk ho hv h with h3 | h3
    · exact hkS (hr.all k h3)
    · omega
  · rw [hnal] at h; cases h
  · rcases st.s1 k i ok o hk ho hv h hne with h3 | h3
    · have := st.apos _ _ h3; omega
    · exact hkS (hr.all k h3)
theorem reader_dop (st : Stat ops anc ord pos sc) (cn : Canon C call ops anc ord pos fr0 h0 v Hh F) (hd : Down anc S) (hi : Inv C ops pos sc fr0 v Hh F p0 h0 w0 df S m fl p a w) (hrest : Rest ops pos S m) {i : Nat} {o : Oper} (ho : ops[i]? = some o)
    (hr : Ready anc S i) (hk : isRd o = true) (hwd : wantedD (F (pos i)) ops o = true) (hdop : dop C (F (pos i)) (Hh (pos i)) o = some (.val (v i) (Hh (pos i)))) : dop C (F (pos i)) (Hh m) o = some (.val (v i) (Hh m)) := by
  have hnal := rd_not_al hk
  cases hhd : isHd o with
  | false => exact rd_indep hk hhd hdop _
  | true =>
    rcases below_rest st hd hi hrest ho hr.fresh with hle | ⟨k, ok, h1, h2, h3, h4, h5, h6⟩
    · have hin := (Array.getElem?_eq_some_iff.1 ho).1
      have hpn := (st.posp i hin).1
      have key : ∀ d, m + d ≤ pos i → Hh (m + d) = Hh m := by
        intro d
        induction d with
        | zero => intro _; rfl
        | succ d ih =>
          intro hle'
          have h7 := ih (by omega)
          obtain ⟨g1, g2⟩ := st.ordp (m + d) (by omega)
          obtain ⟨oq, hq⟩ : ∃ oq, ops[ord (m + d)]? = some oq := ⟨ops[ord (m + d)], by simp [g1]⟩
          rw [← h7, show m + (d + 1) = m + d + 1 from by omega]
          rcases cn.step _ oq hq with ⟨_, _, u⟩ | ⟨_, ⟨_, _, u⟩ | ⟨u1, _⟩ | ⟨u1, _⟩⟩
          · rwa [g2] at u
          · rwa [g2] at u
          · obtain ⟨k, ok, k1, k2, k3, k4⟩ := st.s5 i _ o oq ho hq hk hhd u1 (by rw [g2]; omega)
            rw [g2] at k3
            exact (no_heavy st hi ho hr hnal k1 k2 (by omega) k4).elim
          · exact (no_heavy st hi ho hr hnal hq u1 (by rw [g2]; omega) (by rw [g2]; omega)).elim
      have := key (pos i - m) (by omega)
      rw [show m + (pos i - m) = pos i from by omega] at this
      rw [this] at hdop; exact hdop
    · rw [h4]
      exact cn.stable k i ok o h1 ho h2 hk hhd hwd h5 h6
theorem put_get {a : Act} {d : Option Tmp} {x : Value} {t : Tmp} (h : d ≠ some t) : (a.put d x).tmps.getD t undef = a.tmps.getD t undef := by
  cases d with
  | none => rfl
  | some s =>
    have : s ≠ t := fun e => h (by rw [e])
    simp only [Act.put, Array.getD_eq_getD_getElem?]
    rw [Array.getElem?_setIfInBounds_ne this]
theorem put_get_self {a : Act} {x : Value} {t : Tmp} (h : t < a.tmps.size) : (a.put (some t) x).tmps.getD t undef = x := by
  simp [Act.put, h]
theorem put_size {a : Act} {d : Option Tmp} {x : Value} : (a.put d x).tmps.size = a.tmps.size := by cases d <;> simp [Act.put]
theorem put_defs {a : Act} {d : Option Tmp} {x : Value} : (a.put d x).defers = a.defers := by cases d <;> rfl
theorem Flt2.put (st : Stat ops anc ord pos sc) {S : Nat → Prop} {m m' : Nat} {a : Act} (h2 : Flt2 ops pos sc S m a) {i : Nat} {o : Oper} (ho : ops[i]? = some o) (hfresh : ¬ S i) (hr : Ready anc S i) {x : Value} (hm : m ≤ m')
    (hc : ∀ (k : Nat) (ok : Oper) (t tk : Tmp), sc i = some k → ops[k]? = some ok → o.dst = some t → ok.dst = some tk → m' ≤ pos i → (a.put o.dst x).tmps.getD t undef = a.tmps.getD tk undef) :
    Flt2 ops pos sc (fun k => S k ∨ k = i) m' (a.put o.dst x) := by
  refine ⟨fun j k oj ok t tk g1 g2 g3 g4 g5 g6 g7 => ?_⟩
  obtain ⟨o1, o2, t2, q1, q2, q3, q4, q5, q6, q7⟩ := st.q1 j k g3
  rw [g4] at q2; cases q2
  rw [g6] at q6; cases q6
  by_cases e : j = i
  · subst e; rw [ho] at g2; cases g2
    have hk : S k := hr.all k q7
    refine ⟨?_, .inl hk⟩
    rw [hc k ok t tk g3 g4 g5 g6 g7]
    have hne : k ≠ j := fun e => hfresh (e ▸ hk)
    have : o.dst ≠ some tk := (st.s6 k j ok o tk g4 ho hne g6).1
    rw [put_get this]
  · have hj := g1.resolve_right e
    obtain ⟨e1, e2⟩ := h2.eq j k oj ok t tk hj g2 g3 g4 g5 g6 (by omega)
    have hki : k ≠ i := fun h => hfresh (h ▸ e2)
    have d1 : o.dst ≠ some t := (st.s6 j i oj o t g2 ho e g5).1
    have d2 : o.dst ≠ some tk := (st.s6 k i ok o tk g4 ho hki g6).1
    rw [put_get d1, put_get d2]
    exact ⟨e1, .inl e2⟩
/-- an operation that leaves memory alone has come up -/
theorem Inv.quiet (st : Stat ops anc ord pos sc) (cn : Canon C call ops anc ord pos fr0 h0 v Hh F) (hi : Inv C ops pos sc fr0 v Hh F p0 h0 w0 df S m fl p a w) {i : Nat} {o : Oper} (ho : ops[i]? = some o) (hfresh : ¬ S i) (hnhv : isHv o = false)
    (hna : isAl o = true → wantedD (F (pos i)) ops o = false) {x : Value} (hx : ((sc i).isSome = true → wantedD (F (pos i)) ops o = true → pos i < m) → VRel p (v i) x) : Inv C ops pos sc fr0 v Hh F p0 h0 w0 df (fun k => S k ∨ k = i) m fl p (a.put o.dst x) w := by
  have hdst : ∀ (k : Nat) (ok : Oper) (t : Tmp), k ≠ i → ops[k]? = some ok → ok.dst = some t → o.dst ≠ some t := fun k ok t hne hk ht => (st.s6 k i ok o t hk ho hne ht).1
  refine ⟨hi.ext, hi.gl, hi.mn, fun k ok hk hv => ?_, fun k ok hk hal hlt => .inl (hi.ma k ok hk hal hlt), by rw [put_size, hi.sz], by rw [put_defs, hi.df], fun t ht => ?_, fun k ok t hS hk ht hc => ?_, fun k ok hS hk ha hw hle => ?_,
    fun k j ok oj hS hS' hk hj ha ha' hw hw' hle hle' he => ?_⟩
  · rw [← hi.mh k ok hk hv]
    refine ⟨fun h => h.elim id fun e => ?_, .inl⟩
    subst e; rw [ho] at hk; cases hk; rw [hnhv] at hv; cases hv
  · have h1 : o.dst ≠ some t := ht i o (.inr rfl) ho
    rw [put_get h1]
    exact hi.slot t fun k ok hS hk => ht k ok (.inl hS) hk
  · by_cases e : k = i
    · subst e; rw [ho] at hk; cases hk
      rw [ht, put_get_self (by rw [hi.sz]; exact cn.dst k o t ho ht)]; exact hx fun h1 h2 => hc (.inr h1) h2
    · rw [put_get (hdst k ok t e hk ht)]
      exact hi.slotw k ok t (hS.resolve_right e) hk ht hc
  · have e : k ≠ i := by
      rintro rfl; rw [ho] at hk; cases hk
      rw [hna ha] at hw; cases hw
    obtain ⟨n, y, ob, f, v', k1, k2, k3, k4, k5, k6, k7⟩ := hi.flt k ok (hS.resolve_right e) hk ha hw hle
    exact ⟨n, y, ob, f, v', k1, k2, k3, k4, k5, k6, fun t ht => by rw [put_get (hdst k ok t e hk ht)]; exact k7 t ht⟩
  · have e : k ≠ i := by
      rintro rfl; rw [ho] at hk; cases hk
      rw [hna ha] at hw; cases hw
    have e' : j ≠ i := by
      rintro rfl; rw [ho] at hj; cases hj
      rw [hna ha'] at hw'; cases hw'
    exact hi.inj k j ok oj (hS.resolve_right e) (hS'.resolve_right e') hk hj ha ha' hw hw' hle hle' he
/-- a block has been made -/
theorem Inv.made (st : Stat ops anc ord pos sc) (hi : Inv C ops pos sc fr0 v Hh F p0 h0 w0 df S m fl p a w) {i : Nat} {o : Oper} (ho : ops[i]? = some o) (hal : isAl o = true) (hwd : wantedD (F (pos i)) ops o = true) (hle : m ≤ pos i)
    (cn : Canon C call ops anc ord pos fr0 h0 v Hh F) {ob : O} {f : Nat → V} (hdal : dal C (F (pos i)) o = some (ob, f)) {x : Obj} {n : Nat} {v' : Value} (hx : ORel p n ob x) (hv : ∀ (q : Pl) b, q[b]? = some (w.heap.size, n) → VRel q (f b) v') :
    Inv C ops pos sc fr0 v Hh F p0 h0 w0 df (fun k => S k ∨ k = i) m (fun k => if k = i then w.heap.size else fl k) p (a.put o.dst v') { w with heap := w.heap.push x } := by
  have hdst : ∀ (k : Nat) (ok : Oper) (t : Tmp), k ≠ i → ops[k]? = some ok → ok.dst = some t → o.dst ≠ some t := fun k ok t hne hk ht => (st.s6 k i ok o t hk ho hne ht).1
  have hnhv : isHv o = false := by simp [isHv, hal]
  refine ⟨hi.ext.aside x, hi.gl, hi.mn, fun k ok hk hv => ?_, fun k ok hk hal hlt => .inl (hi.ma k ok hk hal hlt), by rw [put_size, hi.sz], by rw [put_defs, hi.df], fun t ht => ?_, fun k ok t hS hk ht hc => ?_, fun k ok hS hk ha hw hle => ?_,
    fun k j ok oj hS hS' hk hj ha ha' hw hw' hle hle' he => ?_⟩
  · rw [← hi.mh k ok hk hv]
    refine ⟨fun h => h.elim id fun e => ?_, .inl⟩
    subst e; rw [ho] at hk; cases hk; rw [hnhv] at hv; cases hv
  · have h1 : o.dst ≠ some t := ht i o (.inr rfl) ho
    rw [put_get h1]
    exact hi.slot t fun k ok hS hk => ht k ok (.inl hS) hk
  · by_cases e : k = i
    · subst e; rw [ho] at hk; cases hk
      have := hc (.inl hal) hwd; omega
    · rw [put_get (hdst k ok t e hk ht)]
      exact hi.slotw k ok t (hS.resolve_right e) hk ht hc
  · by_cases e : k = i
    · subst e; rw [ho] at hk; cases hk
      refine ⟨n, x, ob, f, v', hdal, by simp, by simpa using hi.ext.size, fun hIm => ?_, hx, by simpa using hv, fun t ht => ?_⟩
      · have := hi.ext.rel.im_lt hIm; simp at this
      · rw [ht, put_get_self (by rw [hi.sz]; exact cn.dst k o t ho ht)]
    · obtain ⟨n', y, ob', f', v'', k1, k2, k3, k4, k5, k6, k7⟩ := hi.flt k ok (hS.resolve_right e) hk ha hw hle
      have hlt := (Array.getElem?_eq_some_iff.1 k2).1
      refine ⟨n', y, ob', f', v'', k1, ?_, by simpa [e] using k3, by simpa [e] using k4, k5, by simpa [e] using k6, fun t ht => by rw [put_get (hdst k ok t e hk ht)]; exact k7 t ht⟩
      simp only [e, if_false, Array.getElem?_push]
      rw [if_neg (by omega)]; exact k2
  · by_cases e : k = i <;> by_cases e' : j = i
    · rw [e, e']
    · obtain ⟨_, _, _, _, _, _, k2, _⟩ := hi.flt j oj (hS'.resolve_right e') hj ha' hw' hle'
      have hlt := (Array.getElem?_eq_some_iff.1 k2).1
      simp only [e, if_true, e', if_false] at he
      omega
    · obtain ⟨_, _, _, _, _, _, k2, _⟩ := hi.flt k ok (hS.resolve_right e) hk ha hw hle
      have hlt := (Array.getElem?_eq_some_iff.1 k2).1
      simp only [e, if_false, e', if_true] at he
      omega
    · simp only [e, if_false, e'] at he
      exact hi.inj k j ok oj (hS.resolve_right e) (hS'.resolve_right e') hk hj ha ha' hw hw' hle hle' he
end
end
end Go.Det
end
section
namespace Go.Det
noncomputable section
section
variable {C : Ctx} {P : Program} {call : CallF} {ops : Array Oper} {anc : Nat → Nat → Bool} {ord pos : Nat → Nat} {sc : Nat → Option Nat} {fr0 : Fr} {h0 : H} {v : Nat → V} {Hh : Nat → H} {F : Nat → Fr}
  {p0 : Pl} {w0 : World} {df : List Deferred} {S : Nat → Prop} {m : Nat} {fl : Nat → Nat} {p : Pl} {a : Act} {w : World}
/-- an operation that writes has come up -/
theorem Inv.wrote (st : Stat ops anc ord pos sc) (cn : Canon C call ops anc ord pos fr0 h0 v Hh F) {i : Nat} {o : Oper} (hi : Inv C ops pos sc fr0 v Hh F p0 h0 w0 df S (pos i) fl p a w) (ho : ops[i]? = some o) (hhv : isHv o = true) (hfresh : ¬ S i)
    {p' : Pl} {w' : World} {x : Value} (he : Ext p (Hh (pos i)) w p' (Hh (pos i + 1)) w') (hx : VRel p' (v i) x) :
    Inv C ops pos sc fr0 v Hh F p0 h0 w0 df (fun k => S k ∨ k = i) (pos i + 1) fl p' (a.put o.dst x) w' := by
  have hdst : ∀ (k : Nat) (ok : Oper) (t : Tmp), k ≠ i → ops[k]? = some ok → ok.dst = some t → o.dst ≠ some t := fun k ok t hne hk ht => (st.s6 k i ok o t hk ho hne ht).1
  obtain ⟨hnr, hnal⟩ := hv_not hhv
  have hin := (Array.getElem?_eq_some_iff.1 ho).1
  have hpi : ∀ {k : Nat} {ok : Oper}, ops[k]? = some ok → pos k = pos i → k = i := fun {k ok} hk e => by
    have hkn := (Array.getElem?_eq_some_iff.1 hk).1
    rw [← (st.posp k hkn).2, e, (st.posp i hin).2]
  refine ⟨hi.ext.trans he, hi.gl.ext he, (st.posp i hin).1, fun k ok hk hv => ?_, fun k ok hk hal hlt => ?_, by rw [put_size, hi.sz], by rw [put_defs, hi.df], fun t ht => ?_, fun k ok t hS hk ht hc => ?_, fun k ok hS hk ha hw hle => ?_,
    fun k j ok oj hS hS' hk hj ha ha' hw hw' hle hle' hfe => ?_⟩
  · constructor
    · rintro (h | rfl)
      · have := (hi.mh k ok hk hv).1 h; omega
      · omega
    · intro h
      by_cases e : pos k = pos i
      · exact .inr (hpi hk e)
      · exact .inl ((hi.mh k ok hk hv).2 (by omega))
  · by_cases e : pos k = pos i
    · exact .inr (hpi hk e)
    · exact .inl (hi.ma k ok hk hal (by omega))
  · have h1 : o.dst ≠ some t := ht i o (.inr rfl) ho
    rw [put_get h1]
    exact he.vrel (hi.slot t fun k ok hS hk => ht k ok (.inl hS) hk)
  · by_cases e : k = i
    · subst e; rw [ho] at hk; cases hk
      rw [ht, put_get_self (by rw [hi.sz]; exact cn.dst k o t ho ht)]; exact hx
    · rw [put_get (hdst k ok t e hk ht)]
      refine he.vrel (hi.slotw k ok t (hS.resolve_right e) hk ht fun h1 h2 => ?_)
      have := hc h1 h2
      have h3 : pos k ≠ pos i := fun e2 => e (hpi hk e2)
      omega
  · have e : k ≠ i := by
      rintro rfl; omega
    obtain ⟨n, y, ob, f, v', k1, k2, k3, k4, k5, k6, k7⟩ := hi.flt k ok (hS.resolve_right e) hk ha hw (by omega)
    have hlt := (Array.getElem?_eq_some_iff.1 k2).1
    obtain ⟨q, rfl⟩ := he.pre
    refine ⟨n, y, ob, f, v', k1, by rw [he.same _ hlt k4]; exact k2, k3, fun hIm => ?_, k5.mono _, k6, fun t ht => by rw [put_get (hdst k ok t e hk ht)]; exact k7 t ht⟩
    rcases he.im _ hIm with h | h
    · exact k4 h
    · omega
  · have e : k ≠ i := by rintro rfl; omega
    have e' : j ≠ i := by rintro rfl; omega
    exact hi.inj k j ok oj (hS.resolve_right e) (hS'.resolve_right e') hk hj ha ha' hw hw' (by omega) (by omega) hfe
theorem Inv.along (hi : Inv C ops pos sc fr0 v Hh F p0 h0 w0 df S m fl p a w) {p' : Pl} {w' : World} (he : Ext p (Hh m) w p' (Hh m) w') : Inv C ops pos sc fr0 v Hh F p0 h0 w0 df S m fl p' a w' := by
  refine ⟨hi.ext.trans he, hi.gl.ext he, hi.mn, hi.mh, hi.ma, hi.sz, hi.df, fun t ht => he.vrel (hi.slot t ht), fun i o t h1 h2 h3 h4 => he.vrel (hi.slotw i o t h1 h2 h3 h4), fun k ok hS hk ha hw hle => ?_, hi.inj⟩
  obtain ⟨n, y, ob, f, v', k1, k2, k3, k4, k5, k6, k7⟩ := hi.flt k ok hS hk ha hw hle
  have hlt := (Array.getElem?_eq_some_iff.1 k2).1
  obtain ⟨q, rfl⟩ := he.pre
  refine ⟨n, y, ob, f, v', k1, by rw [he.same _ hlt k4]; exact k2, k3, fun hIm => ?_, k5.mono _, k6, k7⟩
  rcases he.im _ hIm with h | h
  · exact k4 h
  · omega
theorem al_defer {o : Oper} (h : isAl o = true) : ∀ c, o.op ≠ .defer c := by
  intro c e
  unfold isAl at h
  rw [e] at h; cases h
/-- one operation comes up -/
theorem up (hC : C.Ok P) (hcall : call.Ok C P) (st : Stat ops anc ord pos sc) (cn : Canon C call ops anc ord pos fr0 h0 v Hh F) (hi : Inv C ops pos sc fr0 v Hh F p0 h0 w0 df S m fl p a w) (h2f : Flt2 ops pos sc S m a) (hd : Down anc S) (hrest : Rest ops pos S m)
    {i : Nat} {o : Oper} (ho : ops[i]? = some o) (hr : Ready anc S i) {Q : Exit → Act → World → Prop} {K : Act → World → Prop}
    (hK : ∀ m' fl' p' a' w', Inv C ops pos sc fr0 v Hh F p0 h0 w0 df (fun k => S k ∨ k = i) m' fl' p' a' w' → Flt2 ops pos sc (fun k => S k ∨ k = i) m' a' → Rest ops pos (fun k => S k ∨ k = i) m' → K a' w') {ro : Option Nat} {nn : Nat} : wpOpIn (FW ro) nn P ops Q i K a w := by
  have hin := (Array.getElem?_eq_some_iff.1 ho).1
  have hsel : ∀ cs b, o.op ≠ .select cs b := fun cs b => Region.noSelect_spec st.sel i o cs b ho
  have hrest' : Rest ops pos (fun k => S k ∨ k = i) m := by
    rcases hrest with h | ⟨k, ok, h1, h2, h3, h4⟩
    · exact .inl h
    · exact .inr ⟨k, ok, h1, h2, .inl h3, h4⟩
  unfold wpOpIn
  simp only [ho]
  cases hhv : isHv o with
  | false =>
    -- it does not write
    by_cases hcp : (sc i).isSome = true ∧ m ≤ pos i
    · -- a copy of what leads to a block that the evaluator does not know yet
      obtain ⟨k, hk⟩ := Option.isSome_iff_exists.1 hcp.1
      obtain ⟨o2, ok, t, q1, q2, q3, q4, q5, q6, q7⟩ := st.q1 i k hk
      rw [ho] at q1; cases q1
      have hw : Region.wanted o (yielded ops a.tmps) = true := by unfold Region.wanted; rw [q4]
      simp only [hw, if_true]
      refine ⟨fun _ _ => trivial, ?_⟩
      have hrun : (execOp a.eval o).run P w = .ok (.value (a.tmps.getD t undef)) w := by
        unfold execOp; rcases q3 with q3 | q3 <;> simp [q3, Act.eval]
      rw [Oper.semAt_eq _ _ _ (fun c hc => by rcases q3 with q3 | q3 <;> rw [q3] at hc <;> cases hc), hrun, Oper.uponIn_value]
      have hnal : isAl o = false := by unfold isAl; rcases q3 with q3 | q3 <;> rw [q3]
      refine hK m fl p _ w (hi.quiet st cn ho hr.fresh hhv (fun h => by rw [hnal] at h; cases h) (fun h => by have := h hcp.1 (by unfold wantedD; rw [q4]); omega)) (h2f.put st ho hr.fresh hr (Nat.le_refl _) fun k' ok' t' tk h1 h2 h3 h4 _ => ?_) hrest'
      rw [hk] at h1; cases h1
      rw [q2] at h2; cases h2
      rw [q6] at h4; cases h4
      rw [h3, put_get_self (by rw [hi.sz]; exact cn.dst i o t' ho h3)]
    have hcp' : ∀ k, sc i = some k → pos i < m := fun k hk => by
      rcases Nat.lt_or_ge (pos i) m with h | h
      · exact h
      · exact absurd ⟨by rw [hk]; rfl, h⟩ hcp
    have hfl : ∀ (k : Nat) (ok : Oper) (t : Tmp), ops[k]? = some ok → (isAl ok = true ∨ (sc k).isSome = true) → ok.dst = some t → t ∈ reads ops o → anc i k = true → pos k < m := by
      intro k ok t hk hal hkt ht hanc
      rcases st.s3 k i ok o t hk ho hal hhv hkt ht hanc with h | ⟨j, oj, j1, j2, j3, j4⟩
      · have := hcp' k h
        have := st.apos _ _ hanc
        omega
      · have := (hi.mh j oj j1 j2).1 (hr.all j j4)
        have := st.apos _ _ j3
        omega
    have h2n : ∀ x, Flt2 ops pos sc (fun k => S k ∨ k = i) m (a.put o.dst x) := fun x => h2f.put st ho hr.fresh hr (Nat.le_refl _) fun k ok t tk h1 _ _ _ h5 => by have := hcp' k h1; omega
    have hon := operands st cn hi hd ho hr hfl
    rw [wanted_on hon]
    rcases cn.step i o ho with ⟨u1, u2, u3⟩ | ⟨u1, u⟩
    · simp only [u1, Bool.false_eq_true, if_false]
      refine ⟨fun _ _ => trivial, ?_⟩
      exact hK m fl p _ w (hi.quiet st cn ho hr.fresh hhv (fun _ => u1) (fun _ => by rw [u2]; simp [VRel, undef])) (h2n _) hrest'
    · simp only [u1, if_true]
      refine ⟨fun _ _ => trivial, ?_⟩
      rcases u with ⟨u2, u3, u4⟩ | ⟨u2, ob, f, u3, u4, u5⟩ | ⟨u2, u3⟩
      · have hdop := reader_dop st cn hd hi hrest ho hr u2 u1 u3
        obtain ⟨v', p', w', g1, g2, g3⟩ := sim_op_on hC hi.ext.rel hi.gl hon hsel hdop
        rw [Oper.semAt_eq _ _ _ (dop_defer hdop), g1, Oper.uponIn_value]
        have hi2 := hi.along g3
        exact hK m fl p' _ w' (hi2.quiet st cn ho hr.fresh hhv (fun h => by rw [rd_not_al u2] at h; cases h) fun _ => g2) (h2n _) hrest'
      · have hle : m ≤ pos i := by
          rcases below_rest st hd hi hrest ho hr.fresh with h | ⟨k, ok, h1, h2, h3, h4, h5, h6⟩
          · exact h
          · rcases st.s4 k i ok o h1 ho h2 u2 with h7 | h7
            · rw [h6] at h7; cases h7
            · omega
        obtain ⟨x, n, v', g1, g2, g3⟩ := sim_al (P := P) hC hi.gl hon u3
        rw [Oper.semAt_eq _ _ _ (al_defer u2), g1, Oper.uponIn_value]
        exact hK m _ p _ _ (hi.made st ho u2 u1 hle cn u3 g2 g3) (h2n _) hrest'
      · rw [hhv] at u2; cases u2
  | true =>
    obtain ⟨hnr, hnal⟩ := hv_not hhv
    -- the evaluator's memory goes up to it
    have hle : m ≤ pos i := by
      rcases Nat.lt_or_ge (pos i) m with h | h
      · exact absurd ((hi.mh i o ho hhv).2 h) hr.fresh
      · exact h
    have hpn := (st.posp i hin).1
    obtain ⟨p1, hi1⟩ := Inv.adv st cn (pos i - m) m hi h2f (by omega) (fun q h1 h2 oq hq => by
      obtain ⟨g1, g2⟩ := st.ordp q (by omega)
      refine ⟨?_, fun hal => ?_⟩
      · cases hv : isHv oq with
        | false => rfl
        | true => exact (no_heavy st hi ho hr hnal hq hv (by rw [g2]; omega) (by rw [g2]; omega)).elim
      · rcases st.s4 i (ord q) o oq ho hq hhv hal with h3 | h3
        · exact hr.all _ h3
        · rw [g2] at h3; omega)
    rw [show m + (pos i - m) = pos i from by omega] at hi1
    have hon := operands st cn hi1 hd ho hr fun k ok t hk hal _ _ hanc => st.apos _ _ hanc
    have h2n : ∀ x, Flt2 ops pos sc (fun k => S k ∨ k = i) (pos i + 1) (a.put o.dst x) := fun x => h2f.put st ho hr.fresh hr (by omega) fun k ok t tk _ _ _ _ h5 => by omega
    rw [wanted_on hon]
    have hrest2 : Rest ops pos (fun k => S k ∨ k = i) (pos i + 1) := .inr ⟨i, o, ho, hhv, .inr rfl, rfl⟩
    rcases cn.step i o ho with ⟨u1, u2, u3⟩ | ⟨u1, u⟩
    · simp only [u1, Bool.false_eq_true, if_false]
      refine ⟨fun _ _ => trivial, ?_⟩
      have he : Ext p1 (Hh (pos i)) w p1 (Hh (pos i + 1)) w := by rw [u3]; exact Ext.refl hi1.ext.rel
      exact hK _ _ _ _ _ (hi1.wrote st cn ho hhv hr.fresh he (by rw [u2]; simp [VRel, undef])) (h2n _) hrest2
    · simp only [u1, if_true]
      refine ⟨fun _ _ => trivial, ?_⟩
      rcases u with ⟨u2, u3, u4⟩ | ⟨u2, ob, f, u3, u4, u5⟩ | ⟨u2, u3⟩
      · rw [hnr] at u2; cases u2
      · rw [hnal] at u2; cases u2
      · unfold hstep at u3
        split at u3
        case h_4 => cases u3
        case h_1 =>
          rename_i vv hh hop
          simp only [Option.some.injEq, Prod.mk.injEq] at u3
          obtain ⟨rfl, rfl⟩ := u3
          obtain ⟨v', p', w', g1, g2, g3⟩ := sim_op_on hC hi1.ext.rel hi1.gl hon hsel hop
          rw [Oper.semAt_eq _ _ _ (dop_defer hop), g1, Oper.uponIn_value]
          exact hK _ _ _ _ _ (hi1.wrote st cn ho hhv hr.fresh g3 g2) (h2n _) hrest2
        case h_2 =>
          rename_i hh hop
          simp only [Option.some.injEq, Prod.mk.injEq] at u3
          obtain ⟨u4, rfl⟩ := u3
          obtain ⟨p', w', g1, g3⟩ := sim_op_on hC hi1.ext.rel hi1.gl hon hsel hop
          rw [Oper.semAt_eq _ _ _ (dop_defer hop), g1, Oper.uponIn_skip]
          exact hK _ _ _ _ _ (hi1.wrote st cn ho hhv hr.fresh g3 (by rw [← u4]; simp [VRel, undef])) (h2n _) hrest2
        case h_3 =>
          rename_i f args hop
          obtain ⟨args', g1, g2⟩ := sim_op_on hC hi1.ext.rel hi1.gl hon hsel hop
          rw [Oper.semAt_eq _ _ _ (dop_defer hop), g1, Oper.uponIn_enter]
          split at u3
          case h_2 => cases u3
          rename_i x1 x2 hcl
          cases u3
          refine ⟨fun h => (by simp [FW, Fence.wide] at h), callsW.2 ((hcall.fn f args _ _ hcl p1 w args' hi1.ext.rel hi1.gl g2).mono ?_)⟩
          rintro e w' ⟨v', h', x', p', hm, rfl, k1, k2⟩
          rw [List.mem_singleton] at hm
          cases hm
          exact hK _ _ _ _ _ (hi1.wrote st cn ho hhv hr.fresh k2 k1) (h2n _) hrest2
theorem Inv.congr {S' : Nat → Prop} (h : ∀ k, S k ↔ S' k) (hi : Inv C ops pos sc fr0 v Hh F p0 h0 w0 df S m fl p a w) : Inv C ops pos sc fr0 v Hh F p0 h0 w0 df S' m fl p a w := by
  have e : S = S' := funext fun k => propext (h k)
  exact e ▸ hi
theorem Flt2.congr {S' : Nat → Prop} (h : ∀ k, S k ↔ S' k) (hi : Flt2 ops pos sc S m a) : Flt2 ops pos sc S' m a := by
  have e : S = S' := funext fun k => propext (h k)
  exact e ▸ hi
theorem Rest.congr {S' : Nat → Prop} (h : ∀ k, S k ↔ S' k) (hi : Rest ops pos S m) : Rest ops pos S' m := by
  have e : S = S' := funext fun k => propext (h k)
  exact e ▸ hi
/-- what has been listed -/
def Ls (l : Array Bool) (k : Nat) : Prop := l.getD k false = true
theorem unlisted_lt {l : Array Bool} (n : Nat) (hl : l.size = n) {i : Nat} (hi : i < n) (hf : l.getD i true = false) :
    ((List.range n).filter fun k => !(l.setIfInBounds i true).getD k true).length < ((List.range n).filter fun k => !l.getD k true).length := by
  have sub : ∀ k, (!(l.setIfInBounds i true).getD k true) = true → (!l.getD k true) = true := by
    intro k hk
    by_cases e : i = k
    · subst e; simp [hl, hi] at hk
    · rwa [getD_set_ne true e] at hk
  have key : ∀ (L : List Nat), (L.filter fun k => !(l.setIfInBounds i true).getD k true).length ≤ (L.filter fun k => !l.getD k true).length ∧ (i ∈ L → (L.filter fun k => !(l.setIfInBounds i true).getD k true).length < (L.filter fun k => !l.getD k true).length) := by
    intro L
    induction L with
    | nil => simp
    | cons x L ih =>
      simp only [List.filter_cons]
      constructor
      · by_cases h1 : (!(l.setIfInBounds i true).getD x true) = true
        · rw [if_pos h1, if_pos (sub x h1)]; simp only [List.length_cons]; have := ih.1; omega
        · rw [if_neg h1]; have := ih.1; split <;> (try simp only [List.length_cons]) <;> omega
      · intro hm
        by_cases e : i = x
        · subst e
          rw [if_neg (by simp [hl, hi]), if_pos (by simp [hf])]
          simp only [List.length_cons]; have := ih.1; omega
        · have hm' : i ∈ L := by simpa [e] using hm
          by_cases h1 : (!(l.setIfInBounds i true).getD x true) = true
          · rw [if_pos h1, if_pos (sub x h1)]; simp only [List.length_cons]; have := ih.2 hm'; omega
          · rw [if_neg h1]; have := ih.2 hm'; split <;> (try simp only [List.length_cons]) <;> omega
  exact (key (List.range n)).2 (by simpa using hi)
theorem anyOrder (hC : C.Ok P) (hcall : call.Ok C P) (st : Stat ops anc ord pos sc) (cn : Canon C call ops anc ord pos fr0 h0 v Hh F) {Q : Exit → Act → World → Prop}
    (hQ : ∀ p' a' w', FRel p' (F ops.size) a' → Ext p0 h0 w0 p' (Hh ops.size) w' → a'.defers = df → Q .normal a' w') {ro : Option Nat} {nn : Nat} :
    ∀ (fuel : Nat) (l : Array Bool), l.size = ops.size → ((List.range ops.size).filter fun k => !l.getD k true).length ≤ fuel → ∀ {m : Nat} {fl : Nat → Nat} {p : Pl} {a : Act} {w : World},
      Inv C ops pos sc fr0 v Hh F p0 h0 w0 df (Ls l) m fl p a w → Flt2 ops pos sc (Ls l) m a → Down anc (Ls l) → Rest ops pos (Ls l) m → wpAnyIn (FW ro) nn P .any ops Q fuel l a w := by
  -- all have come up: the end
  have fin : ∀ (l : Array Bool), l.size = ops.size → Region.ready .any ops l = [] → ∀ {m : Nat} {fl : Nat → Nat} {p : Pl} {a : Act} {w : World},
      Inv C ops pos sc fr0 v Hh F p0 h0 w0 df (Ls l) m fl p a w → Flt2 ops pos sc (Ls l) m a → Q .normal a w := by
    intro l hl hrd m fl p a w hi h2f
    have all : ∀ q, q ≤ ops.size → ∀ k, k < ops.size → pos k < q → Ls l k := by
      intro q
      induction q with
      | zero => intro _ k _ h; omega
      | succ q ih =>
        intro hq k hk hlt
        by_cases e : pos k = q
        · apply Classical.byContradiction
          intro hns
          have hmem : k ∈ Region.ready .any ops l := by
            rw [mem_ready]
            refine ⟨?_, ops[k], by simp [hk], fun e' he' hb => ?_⟩
            · unfold Ls at hns
              have : k < l.size := by omega
              simp only [Array.getD_eq_getD_getElem?, Array.getElem?_eq_getElem this, Option.getD_some] at hns ⊢
              simpa using hns
            · obtain ⟨h1, h2⟩ := st.dir k _ e' (by simp [hk]) he' hb
              have h3 := st.apos _ _ h1
              exact ih (by omega) e'.on h2 (by omega)
          rw [hrd] at hmem; cases hmem
        · exact ih (by omega) k hk (by omega)
    have allS : ∀ k, k < ops.size → Ls l k := fun k hk => all ops.size (Nat.le_refl _) k hk (st.posp k hk).1
    obtain ⟨p', hi'⟩ := Inv.adv st cn (ops.size - m) m hi h2f (by have := hi.mn; omega) (fun q h1 h2 o ho => by
      obtain ⟨g1, g2⟩ := st.ordp q (by have := hi.mn; omega)
      refine ⟨?_, fun _ => allS _ g1⟩
      cases hv : isHv o with
      | false => rfl
      | true => have := (hi.mh _ o ho hv).1 (allS _ g1); omega)
    rw [show m + (ops.size - m) = ops.size from by have := hi.mn; omega] at hi'
    refine hQ p' a w ⟨by rw [cn.fn _ (Nat.le_refl _), hi'.sz], fun t => ?_⟩ hi'.ext hi'.df
    by_cases hw : ∃ (k : Nat) (ok : Oper), ops[k]? = some ok ∧ ok.dst = some t
    · obtain ⟨k, ok, hk, hkt⟩ := hw
      have hkn := (Array.getElem?_eq_some_iff.1 hk).1
      rw [Fw st cn hk hkt _ (Nat.le_refl _) (st.posp k hkn).1]
      exact hi'.slotw k ok t (allS k hkn) hk hkt fun _ _ => (st.posp k hkn).1
    · rw [Fz st cn _ (Nat.le_refl _) fun k ok hk hkt _ => hw ⟨k, ok, hk, hkt⟩]
      exact hi'.slot t fun k ok _ hk hkt => hw ⟨k, ok, hk, hkt⟩
  intro fuel
  induction fuel with
  | zero =>
    intro l hl hlen m fl p a w hi h2f hd hrest
    have hrd : Region.ready .any ops l = [] := by
      cases hc : Region.ready .any ops l with
      | nil => rfl
      | cons k ks =>
        have hm : k ∈ Region.ready .any ops l := by rw [hc]; simp
        obtain ⟨h1, o, h2, _⟩ := mem_ready.1 hm
        have hk := (Array.getElem?_eq_some_iff.1 h2).1
        have : k ∈ (List.range ops.size).filter fun k => !l.getD k true := List.mem_filter.2 ⟨by simpa using hk, by simp [h1]⟩
        have := List.length_pos_of_mem this
        omega
    exact ⟨hrd, fin l hl hrd hi h2f⟩
  | succ fuel ih =>
    intro l hl hlen m fl p a w hi h2f hd hrest
    refine ⟨fun hrd => fin l hl hrd hi h2f, fun i hm => ?_⟩
    obtain ⟨h1, o, h2, h3⟩ := mem_ready.1 hm
    have hin := (Array.getElem?_eq_some_iff.1 h2).1
    have hil : i < l.size := by omega
    have hready : Ready anc (Ls l) i := by
      refine ⟨fun hs => ?_, fun k hk => ?_⟩
      · unfold Ls at hs
        simp only [Array.getD_eq_getD_getElem?, Array.getElem?_eq_getElem hil, Option.getD_some] at hs h1
        rw [hs] at h1; cases h1
      · obtain ⟨o', e, g1, g2, g3, g4⟩ := st.edge i k hk
        rw [h2] at g1; cases g1
        have hon := h3 e g2 g3
        rcases g4 with g4 | g4
        · rw [← g4]; exact hon
        · exact hd e.on k hon g4
    refine up hC hcall st cn hi h2f hd hrest h2 hready fun m' fl' p' a' w' hi' h2f' hrest' => ?_
    have hS : ∀ k, (Ls l k ∨ k = i) ↔ Ls (l.setIfInBounds i true) k := by
      intro k
      unfold Ls
      by_cases e : k = i
      · subst e; simp [hil]
      · rw [getD_set_ne false (fun x => e x.symm)]; simp [e]
    refine ih (l.setIfInBounds i true) (by simpa using hl) ?_ (hi'.congr hS) (h2f'.congr hS) ?_ (hrest'.congr hS)
    · have := unlisted_lt ops.size hl hin h1; omega
    · intro j k hj hk
      rw [← hS] at hj ⊢
      rcases hj with hj | rfl
      · exact .inl (hd j k hj hk)
      · exact .inl (hready.all k hk)
/-- **a region whose order the model draws** -/
theorem sim_draw (hC : C.Ok P) (hcall : call.Ok C P) (hm : P.follows .mixedOrders = true) (st : Stat ops anc ord pos sc) (cn : Canon C call ops anc ord pos fr0 h0 v Hh F) {Q : Exit → Act → World → Prop} (hr : R p h0 w) (hg : Gl C p) (hf : FRel p fr0 a)
    {id : Nat} (hQ : ∀ p' a' w', FRel p' (F ops.size) a' → Ext p h0 w p' (Hh ops.size) w' → a'.defers = a.defers → Q .normal a' w') {ro : Option Nat} {nn : Nat} : (Code.region id ops true).wpIn (FW ro) nn P Q a w := by
  refine wpIn_region_any hm ?_
  have hd := Ext.drew hr (w.drawn + 1)
  have hno : ∀ k, ¬ Ls (Array.replicate ops.size false) k := by
    intro k hk
    unfold Ls at hk
    rw [Array.getD_eq_getD_getElem?] at hk
    by_cases h : k < ops.size
    · simp [h] at hk
    · rw [Array.getElem?_eq_none (by simpa using h)] at hk; simp at hk
  refine anyOrder (p0 := p) (h0 := h0) (w0 := w) (df := a.defers) hC hcall st cn hQ ops.size _ (by simp) (by simpa using List.length_filter_le _ (List.range ops.size)) (m := 0) (fl := fun _ => 0) (p := p)
    ⟨by rw [cn.h0]; exact hd, hg, Nat.zero_le _, fun k o _ _ => ⟨fun h => absurd h (hno k), fun h => by omega⟩, fun k o _ _ h => by omega, hf.1.symm, rfl, fun t _ => hf.2 t, fun i o t h => absurd h (hno i), fun i o h => absurd h (hno i), fun i j o o' h => absurd h (hno i)⟩
    ⟨fun i k o ok t tk h => absurd h (hno i)⟩ (fun i k h => absurd h (hno i)) (.inl rfl)
end
end
end Go.Det
end
section
namespace Go.Det
noncomputable section
structure Plan where
  anc : List Nat
  ord : List Nat
  pos : List Nat
  sc : List (Option Nat)
def ancOf (acc : List Nat) (o : Oper) : Nat :=
  o.after.toList.foldl (fun s e => bif Region.binds .any e then s ||| (2 ^ e.on ||| acc.getD e.on 0) else s) 0
def mkAnc : List Oper → List Nat → List Nat
  | [], acc => acc
  | o :: os, acc => mkAnc os (acc ++ [ancOf acc o])
def tb (m i : Nat) : Bool := m.testBit i
/-- is a all in d -/
def sub (a d : Nat) : Bool := Nat.beq (a &&& d) a
/-- the first number, from i on, whose operation is wanted -/
def firstOf (f : Nat → Oper → Bool) : Nat → List Oper → Option Nat
  | _, [] => none
  | i, o :: os => bif f i o then some i else firstOf f (i + 1) os
def allOf (f : Nat → Oper → Bool) : Nat → List Oper → List Nat
  | _, [] => []
  | i, o :: os => bif f i o then i :: allOf f (i + 1) os else allOf f (i + 1) os
def mkOrd (ops : List Oper) (anc : List Nat) : Nat → Nat → List Nat → List Nat
  | 0, _, out => out.reverse
  | fuel + 1, d, out =>
    match firstOf (fun i o => isRd o && !tb d i && sub (anc.getD i 0) d) 0 ops with
    | some i => mkOrd ops anc fuel (d ||| 2 ^ i) (i :: out)
    | none =>
      match firstOf (fun i o => isHv o && !tb d i) 0 ops with
      | some k =>
        let al := allOf (fun i o => isAl o && !tb d i && tb (anc.getD k 0) i) 0 ops
        bif al.isEmpty then mkOrd ops anc fuel (d ||| 2 ^ k) (k :: out)
        else mkOrd ops anc fuel (al.foldl (fun s i => s ||| 2 ^ i) d) (al.reverse ++ out)
      | none =>
        match firstOf (fun i o => isAl o && !tb d i) 0 ops with
        | some i => mkOrd ops anc fuel (d ||| 2 ^ i) (i :: out)
        | none => out.reverse
def idx (l : List Nat) (i : Nat) : Nat := l.getD i 0
def mkPos (ord : List Nat) (n : Nat) : List Nat := (List.range n).map fun i => ord.idxOf i
def copyOf (o : Oper) : Option Tmp :=
  match o.guard, o.op with
  | none, .assign (.tmp t) => some t
  | none, .move (.tmp t) => some t
  | _, _ => none
/-- the operation that makes the block whose place o copies -/
def scOf (ops : List Oper) (anc : List Nat) (i : Nat) (o : Oper) : Option Nat :=
  match copyOf o with
  | some t =>
    match firstOf (fun k x => isAl x && (x.dst == some t) && tb (anc.getD i 0) k) 0 ops with
    | some k => match firstOf (fun h x => isHv x && tb (anc.getD h 0) k && tb (anc.getD i 0) h) 0 ops with
      | none => some k
      | some _ => none
    | none => none
  | none => none
def mkPlan (ops : Array Oper) : Plan :=
  let anc := mkAnc ops.toList []
  let ord := mkOrd ops.toList anc (3 * ops.size + 3) 0 []
  ⟨anc, ord, mkPos ord ops.size, ops.toList.zipIdx.map fun (o, i) => scOf ops.toList anc i o⟩
def Plan.s (pl : Plan) (i : Nat) : Option Nat := pl.sc.getD i none
def Plan.a (pl : Plan) (j i : Nat) : Bool := (idx pl.anc j).testBit i
/-- for all pairs of operations -/
def pairs (ops : Array Oper) (f : Nat → Oper → Nat → Oper → Bool) : Bool :=
  ops.toList.zipIdx.all fun (o, i) => ops.toList.zipIdx.all fun (o', j) => f i o j o'
def statB (ops : Array Oper) (pl : Plan) : Bool :=
  let n := ops.size
  let A := pl.a
  let pos := idx pl.pos
  let ord := idx pl.ord
  Region.noSelect ops &&
  ((List.range n).all fun q => Nat.blt (ord q) n && Nat.beq (pos (ord q)) q) &&
  ((List.range n).all fun i => Nat.blt (pos i) n && Nat.beq (ord (pos i)) i) &&
  (pl.anc.length == n) && (pl.ord.length == n) &&
  (pl.sc.zipIdx.all fun (s, i) => match s with
    | none => true
    | some k => match ops[i]?, ops[k]? with
      | some o, some ok => match copyOf o with
        | some t => isAl ok && (ok.dst == some t) && A i k
        | none => false
      | _, _ => false) &&
  (ops.toList.zipIdx.all fun (o, j) => Nat.blt (idx pl.anc j) (2 ^ n) &&
    ((List.range n).all fun i => !A j i || ((o.after.toList.any fun e => Region.binds .any e && (Nat.beq e.on i || A e.on i)) && Nat.blt (pos i) (pos j))) &&
    (o.after.toList.all fun e => !Region.binds .any e || (A j e.on && Nat.blt e.on n))) &&
  (pairs ops fun i o j o' =>
    (!(isHv o && isHv o') || Nat.beq i j || A i j || A j i) &&
    (!(isHv o && isRd o') || A j i || Nat.blt (pos j) (pos i)) &&
    (!((isAl o || (pl.s i).isSome) && !isHv o') || !A j i || (match o.dst with | some t => !((reads ops o').contains t) | none => true) || (pl.s j == some i) || (ops.toList.zipIdx.any fun (x, k) => isHv x && A k i && A j k)) &&
    (!(isHv o && isAl o') || A i j || Nat.blt (pos i) (pos j)) &&
    (!(isRd o && isHd o && isAl o') || !Nat.blt (pos j) (pos i) || (ops.toList.zipIdx.any fun (x, k) => isHv x && Nat.blt (pos j) (pos k) && Nat.blt (pos k) (pos i))) &&
    (Nat.beq i j || (match o.dst with
      | none => true
      | some t => !(o'.dst == some t) && (!((reads ops o').contains t) || A j i || A i j))))
theorem mem_zip {ops : Array Oper} {i : Nat} {o : Oper} (h : ops[i]? = some o) : (o, i) ∈ ops.toList.zipIdx := by
  have := (Array.getElem?_eq_some_iff.1 h)
  obtain ⟨h1, h2⟩ := this
  rw [List.mem_zipIdx_iff_getElem?]
  simpa using h
theorem of_zip {ops : Array Oper} {i : Nat} {o : Oper} (h : (o, i) ∈ ops.toList.zipIdx) : ops[i]? = some o := by
  rw [List.mem_zipIdx_iff_getElem?] at h
  simpa using h
theorem copyOf_spec {o : Oper} {t : Tmp} (h : copyOf o = some t) : (o.op = .assign (.tmp t) ∨ o.op = .move (.tmp t)) ∧ o.guard = none := by
  unfold copyOf at h
  split at h
  · cases h; rename_i h1 h2; exact ⟨.inl h2, h1⟩
  · cases h; rename_i h1 h2; exact ⟨.inr h2, h1⟩
  · cases h
theorem stat_of {ops : Array Oper} {pl : Plan} (hs : statB ops pl = true) : Stat ops pl.a (idx pl.ord) (idx pl.pos) pl.s := by
  unfold statB at hs
  simp only [Bool.and_eq_true] at hs
  obtain ⟨⟨⟨⟨⟨⟨⟨h0, h1⟩, h2⟩, h3⟩, _⟩, hq⟩, h4⟩, h5⟩ := hs
  simp only [List.all_eq_true, List.mem_range, Bool.and_eq_true, Nat.blt_eq, beq_t, decide_eq_true_eq] at h1 h2
  simp only [List.all_eq_true] at h4
  have pr : ∀ (i j : Nat) (o o' : Oper), ops[i]? = some o → ops[j]? = some o' → _ := fun i j o o' hi hj => List.all_eq_true.1 (List.all_eq_true.1 h5 (o, i) (mem_zip hi)) (o', j) (mem_zip hj)
  simp only [Bool.and_eq_true, Bool.or_eq_true, Bool.not_eq_true', beq_t, decide_eq_true_eq, blt_t, decide_eq_false_iff_not, Bool.and_eq_false_imp] at pr
  have hanc : ∀ (j i : Nat), pl.a j i = true → j < ops.size ∧ i < ops.size := by
    intro j i h
    have hj : j < ops.size := by
      rcases Nat.lt_or_ge j ops.size with h6 | h6
      · exact h6
      · have hl : pl.anc.length = ops.size := by simpa using h3
        unfold Plan.a idx at h
        rw [List.getD_eq_getElem?_getD, List.getElem?_eq_none (by omega)] at h
        simp at h
    refine ⟨hj, ?_⟩
    have h6 := h4 (ops[j], j) (mem_zip (by simp [hj]))
    simp only [Bool.and_eq_true, Nat.blt_eq] at h6
    rcases Nat.lt_or_ge i ops.size with h7 | h7
    · exact h7
    · have h8 := h6.1.1
      have h9 : idx pl.anc j < 2 ^ i := Nat.lt_of_lt_of_le h8 (Nat.pow_le_pow_right (by omega) h7)
      unfold Plan.a at h
      rw [Nat.testBit_lt_two_pow h9] at h; cases h
  refine ⟨h0, fun q hq => h1 q hq, fun i hi => h2 i hi, fun j i h => ?_, fun j o e hj he hb => ?_, fun j i h => ?_, fun i j o o' hi hj hv hv' hne => ?_, fun i j o o' hi hj hv hr => ?_, fun i k h => ?_, fun j k o o' t hj hk ha hv ht hm h => ?_, fun i j o o' hi hj hv ha => ?_,
    fun i j o o' hi hj hr hhd ha hlt => ?_, fun i j o o' t hi hj hne ht => ?_⟩
  · obtain ⟨hj, hi⟩ := hanc j i h
    have h6 := h4 (ops[j], j) (mem_zip (by simp [hj]))
    simp only [Bool.and_eq_true, List.all_eq_true, List.mem_range, Bool.or_eq_true, Bool.not_eq_true'] at h6
    rcases h6.1.2 i hi with h7 | h7
    · rw [h] at h7; cases h7
    · obtain ⟨e, he, h8⟩ := List.any_eq_true.1 h7.1
      simp only [Bool.and_eq_true, Bool.or_eq_true, beq_t, decide_eq_true_eq] at h8
      exact ⟨ops[j], e, by simp [hj], by simpa using he, h8.1, h8.2⟩
  · have h6 := h4 (o, j) (mem_zip hj)
    simp only [Bool.and_eq_true, List.all_eq_true, Bool.or_eq_true, Bool.not_eq_true', Nat.blt_eq] at h6
    rcases h6.2 e (by simpa using he) with h7 | h7
    · rw [hb] at h7; cases h7
    · exact h7
  · obtain ⟨hj, hi⟩ := hanc j i h
    have h6 := h4 (ops[j], j) (mem_zip (by simp [hj]))
    simp only [Bool.and_eq_true, List.all_eq_true, List.mem_range, Bool.or_eq_true, Bool.not_eq_true', Nat.blt_eq] at h6
    rcases h6.1.2 i hi with h7 | h7
    · rw [h] at h7; cases h7
    · exact h7.2
  · have := (pr i j o o' hi hj).1.1.1.1.1
    simp_all
  · have := (pr i j o o' hi hj).1.1.1.1.2
    simp_all
  · have hm : (pl.s i, i) ∈ pl.sc.zipIdx := by
      rw [List.mem_zipIdx_iff_getElem?]
      unfold Plan.s at h ⊢
      rw [List.getD_eq_getElem?_getD] at h ⊢
      cases hg : pl.sc[i]? with
      | none => rw [hg] at h; cases h
      | some x => rfl
    have h6 := List.all_eq_true.1 hq _ hm
    simp only [h] at h6
    split at h6
    case h_2 => cases h6
    rename_i o ok ho hok
    split at h6
    case h_2 => cases h6
    rename_i t ht
    simp only [Bool.and_eq_true, beq_iff_eq] at h6
    obtain ⟨g1, g2⟩ := copyOf_spec ht
    exact ⟨o, ok, t, ho, hok, g1, g2, h6.1.1, h6.1.2, h6.2⟩
  · have h6 := (pr j k o o' hj hk).1.1.1.2
    have ha' : (isAl o || (pl.s j).isSome) = true := by simpa using ha
    rw [hv, h, ht] at h6
    have hc : (reads ops o').contains t = true := by simpa using hm
    simp only [Bool.or_eq_true] at ha'
    simp only [hc, Bool.not_false, Bool.not_true, Bool.false_eq_true, or_false, Bool.true_eq_false] at h6
    rcases h6 with (h6 | h6) | h6
    · exact absurd ha' (fun h7 => by simpa using h6 h7)
    · exact .inl (by simpa using h6)
    · obtain ⟨⟨x, i⟩, hm2, h7⟩ := List.any_eq_true.1 h6
      simp only [Bool.and_eq_true] at h7
      exact .inr ⟨i, x, of_zip hm2, h7.1.1, h7.1.2, h7.2⟩
  · have := (pr i j o o' hi hj).1.1.2
    simp_all
  · have h6 := (pr i j o o' hi hj).1.2
    rw [hr, hhd, ha] at h6
    simp only [and_self, forall_const, Bool.true_eq_false, false_or] at h6
    rcases h6 with h6 | h6
    · omega
    · obtain ⟨⟨x, k⟩, hm, h7⟩ := List.any_eq_true.1 h6
      simp only [Bool.and_eq_true, decide_eq_true_eq] at h7
      exact ⟨k, x, of_zip hm, h7.1.1, h7.1.2, h7.2⟩
  · have h6 := (pr i j o o' hi hj).2
    rcases h6 with h6 | h6
    · exact absurd h6 hne
    · rw [ht] at h6
      simp only [Bool.and_eq_true, Bool.not_eq_true', Bool.or_eq_true, beq_eq_false_iff_ne] at h6
      refine ⟨h6.1, fun hm => ?_⟩
      rcases h6.2 with (h7 | h7) | h7
      · have : (reads ops o').contains t = true := by simpa using hm
        rw [this] at h7; cases h7
      · exact .inl h7
      · exact .inr h7
theorem ord_len {ops : Array Oper} {pl : Plan} (hs : statB ops pl = true) : pl.ord.length = ops.size := by
  unfold statB at hs
  simp only [Bool.and_eq_true] at hs
  obtain ⟨⟨⟨⟨⟨⟨⟨h0, h1⟩, h2⟩, h3⟩, h4⟩, hq⟩, h5⟩, h6⟩ := hs
  simpa using h4
end
end Go.Det
end
