/-
  Regions that draw their order: a load is taken first where nothing that may come ahead of it writes. No condition.
-/
import Derived.Test.YtpllbdjobmgikaaAmAny
import Derived.OrdersHeld
namespace Go.Proofs.Ytpllbdjobmgikaa
open Go Go.RowKit

/-- Whatever order is picked; behind an operation of G what was there is there still. -/
def wpAnyG (P : Program) (ops : Array Oper) (Q : Exit → Act → World → Prop) (G : Nat → Bool) : Nat → Array Bool → Act → World → Prop
  | 0, listed, a, w => Region.ready .any ops listed = [] ∧ Q .normal a w
  | fuel + 1, listed, a, w =>
    (Region.ready .any ops listed = [] → Q .normal a w) ∧
    ∀ i ∈ Region.ready .any ops listed, wpOp P ops Q i (fun a' w' => (G i = true → Below w.heap.size w w') ∧ wpAnyG P ops Q G fuel (listed.setIfInBounds i true) a' w') a w

theorem wpAny_of_G {P : Program} {ops : Array Oper} {Q : Exit → Act → World → Prop} {G : Nat → Bool} : ∀ (fuel : Nat) (listed : Array Bool) (a : Act) (w : World), wpAnyG P ops Q G fuel listed a w → wpAny P .any ops Q fuel listed a w
  | 0, _, _, _, h => h
  | fuel + 1, _, _, _, h => ⟨h.1, fun i hi => wpOp_mono (fun a' w' h' => wpAny_of_G fuel _ a' w' h'.2) (h.2 i hi)⟩

theorem wpAnyG_first {P : Program} {ops : Array Oper} {Q : Exit → Act → World → Prop} {G : Nat → Bool} {w0 : World} {i : Nat} {oi : Oper} {v : Value} (hi : ops[i]? = some oi) (hsel : ∀ (j : Nat) (o : Oper) cs b, ops[j]? = some o → o.op ≠ .select cs b)
    (hQ : ∀ c a w, Q (.panic c) (a.put oi.dst v) w → Q (.panic c) a w) (W : Nat → Bool)
    (hW : ∀ j oj, ops[j]? = some oj → W j = true → ∃ e ∈ oj.after, Region.binds .any e = true ∧ (e.on = i ∨ W e.on = true)) :
    ∀ (fuel : Nat) (listed : Array Bool) (a : Act) (w : World),
      (∀ j, W j = true → listed.getD j true = false) → listed.getD i true = false →
      (∀ j oj, ops[j]? = some oj → j ≠ i → listed.getD j true = false → W j = false → G j = true ∧ oi.apart ops oj = true) →
      i ∈ Region.ready .any ops listed → YieldsIf P ops (fun w' => Below w0.heap.size w0 w') oi v a → Below w0.heap.size w0 w →
      wpAnyG P ops Q G fuel (listed.setIfInBounds i true) (a.put oi.dst v) w → wpAnyG P ops Q G (fuel + 1) listed a w := by
  intro fuel
  induction fuel with
  | zero =>
    intro listed a w _ _ _ hr hy hS H
    refine ⟨fun h => (by rw [h] at hr; cases hr), fun j hj => ?_⟩
    by_cases hji : j = i
    · subst hji; exact hy.wpOp hi hS ⟨fun _ => Below.refl _ _, H⟩
    · have := ready_mono hj hji
      rw [H.1] at this
      cases this
  | succ fuel ih =>
    intro listed a w hWl hil hfree hr hy hS H
    refine ⟨fun h => (by rw [h] at hr; cases hr), fun j hj => ?_⟩
    by_cases hji : j = i
    · subst hji; exact hy.wpOp hi hS ⟨fun _ => Below.refl _ _, H⟩
    · have h1 := H.2 j (ready_mono hj hji)
      obtain ⟨hjun, oj, hoj, hall⟩ := mem_ready.1 hj
      have hWj : W j = false := by
        cases hc : W j with
        | false => rfl
        | true =>
          obtain ⟨e, he, hb, hor⟩ := hW j oj hoj hc
          have h1 := hall e he hb
          have tf : listed.getD e.on true = false → False := fun h0 => by
            rcases Nat.lt_or_ge e.on listed.size with h' | h'
            · simp [h'] at h0 h1; rw [h0] at h1; cases h1
            · simp [Array.getElem?_eq_none h'] at h1
          rcases hor with hor | hor
          · rw [hor] at tf; exact (tf hil).elim
          · exact (tf (hWl _ hor)).elim
      obtain ⟨hG, hap⟩ := hfree j oj hoj hji hjun hWj
      have h2 := wpOp_putIf hoj hap (fun cs b => hsel i oi cs b hi) (fun cs b => hsel j oj cs b hoj) hQ hy h1
      have gne : ∀ {k : Nat}, k ≠ j → (listed.setIfInBounds j true).getD k true = listed.getD k true := fun hk => getD_set_ne true (Ne.symm hk)
      refine wpOp_mono (fun a' w' h3 => ⟨h3.2.1, ih (listed.setIfInBounds j true) a' w' ?_ ?_ ?_ (ready_mono hr (Ne.symm hji)) h3.1 ?_ ?_⟩) h2
      · intro k hk
        rw [gne (fun e => by subst e; rw [hWj] at hk; cases hk)]
        exact hWl k hk
      · rw [gne (fun e => hji e.symm)]; exact hil
      · intro k ok hk hki hun hWk
        by_cases hkj : k = j
        · subst hkj
          exact hfree k ok hk hki hjun hWk
        · rw [gne hkj] at hun
          exact hfree k ok hk hki hun hWk
      · have := h3.2.1 hG
        exact hS.trans (this.mono hS.size)
      · rw [Array.setIfInBounds_comm _ _ hji]
        exact h3.2.2

theorem wpAnyG_firstY {P : Program} {ops : Array Oper} {Q : Exit → Act → World → Prop} {G : Nat → Bool} {i : Nat} {oi : Oper} {v : Value} (hi : ops[i]? = some oi) (hsel : ∀ (j : Nat) (o : Oper) cs b, ops[j]? = some o → o.op ≠ .select cs b)
    (hQ : ∀ c a w, Q (.panic c) (a.put oi.dst v) w → Q (.panic c) a w) :
    ∀ (fuel : Nat) (listed : Array Bool) (a : Act) (w : World),
      (∀ j oj, ops[j]? = some oj → j ≠ i → listed.getD j true = false → (∀ e ∈ oj.after, Region.binds .any e = true → e.on ≠ i) → oi.apart ops oj = true) →
      i ∈ Region.ready .any ops listed → Yields P ops oi v a →
      wpAnyG P ops Q G fuel (listed.setIfInBounds i true) (a.put oi.dst v) w → wpAnyG P ops Q G (fuel + 1) listed a w := by
  intro fuel
  induction fuel with
  | zero =>
    intro listed a w _ hr hy H
    refine ⟨fun h => (by rw [h] at hr; cases hr), fun j hj => ?_⟩
    by_cases hji : j = i
    · subst hji; exact hy.wpOp hi ⟨fun _ => Below.refl _ _, H⟩
    · have := ready_mono hj hji
      rw [H.1] at this
      cases this
  | succ fuel ih =>
    intro listed a w hfree hr hy H
    refine ⟨fun h => (by rw [h] at hr; cases hr), fun j hj => ?_⟩
    by_cases hji : j = i
    · subst hji; exact hy.wpOp hi ⟨fun _ => Below.refl _ _, H⟩
    · have h1 := H.2 j (ready_mono hj hji)
      obtain ⟨hjun, oj, hoj, hall⟩ := mem_ready.1 hj
      have hnot : ∀ e ∈ oj.after, Region.binds .any e = true → e.on ≠ i := fun e he hb heq => by
        have h1 := hall e he hb
        have h0 := (mem_ready.1 hr).1
        rw [heq] at h1
        rcases Nat.lt_or_ge i listed.size with h' | h'
        · simp [h'] at h0 h1; rw [h0] at h1; cases h1
        · simp [Array.getElem?_eq_none h'] at h1
      have h2 := wpOp_put hoj (hfree j oj hoj hji hjun hnot) (fun cs b => hsel i oi cs b hi) (fun cs b => hsel j oj cs b hoj) hQ hy h1
      have hfree' : ∀ k ok, ops[k]? = some ok → k ≠ i → (listed.setIfInBounds j true).getD k true = false →
          (∀ e ∈ ok.after, Region.binds .any e = true → e.on ≠ i) → oi.apart ops ok = true := fun k ok hk hki hun hno => by
        refine hfree k ok hk hki ?_ hno
        by_cases hjk : j = k
        · subst hjk; exact hjun
        · rw [getD_set_ne true hjk] at hun; exact hun
      refine wpOp_mono (fun a' w' h3 => ⟨h3.2.1, ih (listed.setIfInBounds j true) a' w' hfree' (ready_mono hr (Ne.symm hji)) h3.1 ?_⟩) h2
      rw [Array.setIfInBounds_comm _ _ hji]
      exact h3.2.2

/-- What writes nothing: no world asked, a load, a call of one of these functions. -/
def gentB (qs : List Nat) (o : Oper) : Bool :=
  wlessB o || match o.op with
    | .load _ _ => true
    | .call c => match c.callee with
      | .value (.func f) => qs.contains f
      | _ => false
    | _ => false
def gentle (qs : List Nat) (l : List Oper) (j : Nat) : Bool := match l[j]? with | some o => gentB qs o | none => false

/-- Which ones wait for i. -/
def waitsFor (i : Nat) : List Oper → List Bool → List Bool
  | [], acc => acc
  | o :: os, acc => waitsFor i os (acc ++ [o.after.toList.any fun e => Region.binds .any e && (e.on == i || acc.getD e.on false)])
def okW (l : List Oper) (i : Nat) (W : List Bool) : Bool := (List.range l.length).all fun j => !W.getD j false || match l[j]? with | some o => o.after.toList.any fun e => Region.binds .any e && (e.on == i || W.getD e.on false) | none => false
/-- i may be taken first. -/
def freeG (qs : List Nat) (l : List Oper) (listed : List Bool) (i : Nat) : Bool :=
  let W := waitsFor i l []
  okW l i W && W.length == l.length && (List.range l.length).all (fun j => !W.getD j false || !listed.getD j true) && !listed.getD i true &&
    match l[i]? with
    | none => false
    | some oi => (List.range l.length).all fun j => j == i || listed.getD j true || W.getD j false || match l[j]? with
      | some oj => gentB qs oj && oi.apart l.toArray oj
      | none => true

def AAnyG (P : Program) (qs : List Nat) (l : List Oper) (fuel : Nat) (listed : List Bool) (K : APost) (env : Env) (os : List AO) : Prop :=
  ∀ base w0 w gs tm, Rel base w gs env os tm → Below base w0 w → ∀ X Rt, wpAnyG P l.toArray (Post base w0 K X Rt) (gentle qs l) fuel listed.toArray ⟨tm, []⟩ w

/-- Each of these comes up next. -/
def AllOfG (P : Program) (qs : List Nat) (l : List Oper) (fuel : Nat) (listed : List Bool) (K : APost) (env : Env) (os : List AO) : List Nat → Prop
  | [] => True
  | i :: is => (∃ o, l[i]? = some o ∧ AOps P (cond (gentB qs o) .quiet .seq) l [o] (fun env os => AAnyG P qs l fuel (listed.set i true) K env os) env os) ∧ AllOfG P qs l fuel listed K env os is

section
variable {P : Program} {N : APost} {X : Nat → APost} {Rt : APost} {env : Env} {os : List AO} {l : List Oper} {K : APost} {fuel : Nat} {listed : List Bool} {qs : List Nat}

theorem AllOfG.get : ∀ {rs : List Nat}, AllOfG P qs l fuel listed K env os rs → ∀ i ∈ rs, ∃ o, l[i]? = some o ∧ AOps P (cond (gentB qs o) .quiet .seq) l [o] (fun env os => AAnyG P qs l fuel (listed.set i true) K env os) env os
  | [], _, i, h => by cases h
  | j :: rs, h, i, hi => by
    rcases List.mem_cons.1 hi with rfl | hi
    · exact h.1
    · exact AllOfG.get h.2 i hi
theorem AllOfG.nil : AllOfG P qs l fuel listed K env os [] := trivial
theorem AllOfG.consQ {i : Nat} {o : Oper} {is : List Nat} (ho : l[i]? = some o) (hg : gentB qs o = true) (h : AOps P .quiet l [o] (fun env os => AAnyG P qs l fuel (listed.set i true) K env os) env os) (hs : AllOfG P qs l fuel listed K env os is) :
    AllOfG P qs l fuel listed K env os (i :: is) := ⟨⟨o, ho, by rw [hg]; exact h⟩, hs⟩
theorem AllOfG.consS {i : Nat} {o : Oper} {is : List Nat} (ho : l[i]? = some o) (hg : gentB qs o = false) (h : AOps P .seq l [o] (fun env os => AAnyG P qs l fuel (listed.set i true) K env os) env os) (hs : AllOfG P qs l fuel listed K env os is) :
    AllOfG P qs l fuel listed K env os (i :: is) := ⟨⟨o, ho, by rw [hg]; exact h⟩, hs⟩

theorem AAnyG.all {i : Nat} {is : List Nat} (hr : rdyGo listed 0 l = i :: is) (h : AllOfG P qs l fuel listed K env os (i :: is)) : AAnyG P qs l (fuel + 1) listed K env os := by
  intro base w0 w gs tm hrel hb X Rt
  refine ⟨fun h0 => ?_, fun j hj => ?_⟩
  · have : i ∈ Region.ready .any l.toArray listed.toArray := mem_rdy.2 (by rw [hr]; simp)
    rw [h0] at this; cases this
  · have hj' := mem_rdy.1 hj
    rw [hr] at hj'
    obtain ⟨o, ho, hop⟩ := h.get j hj'
    have ho' : l.toArray[j]? = some o := by simpa using ho
    have hgj : gentle qs l j = gentB qs o := by unfold gentle; rw [ho]
    have kk : ∀ a w', Post base w0 (fun env os => AAnyG P qs l fuel (listed.set j true) K env os) X Rt .normal a w' → wpAnyG P l.toArray (Post base w0 K X Rt) (gentle qs l) fuel (listed.toArray.setIfInBounds j true) a w' := by
      rintro a w' ⟨env', os', gs', h1, h2, h3, h4⟩
      have ea : a = ⟨a.tmps, []⟩ := by cases a; simp_all
      rw [ea]
      have := h4 base w0 w' gs' a.tmps h1 h3 X Rt
      rwa [show listed.toArray.setIfInBounds j true = (listed.set j true).toArray from by simp]
    cases hg : gentB qs o with
    | false =>
      rw [hg] at hop
      have := hop base w0 w gs tm hrel hb X Rt
      unfold wpOp
      rw [ho']
      unfold wpList at this
      simp only
      rw [hgj, hg]
      split
      · rename_i hw
        rw [if_pos hw] at this
        rcases this with this | ⟨h1, ⟨a, w', h2⟩⟩
        · exact .inl (Oper.wp_mono2 (fun a w' h => ⟨fun e => (by cases e), kk a w' h⟩) (fun _ _ _ h => (h : False).elim) (fun ⟨_, _, h⟩ => (h : False).elim) this)
        · exact (h2 : False).elim
      · rename_i hw
        rw [if_neg hw] at this
        exact ⟨fun e => (by cases e), kk _ _ this⟩
    | true =>
      rw [hg] at hop
      have := hop base w gs tm hrel
      unfold wpOp
      rw [ho']
      unfold wpQuiet at this
      simp only
      have kq : ∀ (a : Act) w', Below w.heap.size w w' → wpQuiet P l.toArray (fun w' => Below w.heap.size w w') (fun a' => ∃ env' os' gs', AAnyG P qs l fuel (listed.set j true) K env' os' ∧ a'.defers = [] ∧ ∀ w', Below w.heap.size w w' → Rel base w' gs' env' os' a'.tmps) [] a →
          (gentle qs l j = true → Below w.heap.size w w') ∧ wpAnyG P l.toArray (Post base w0 K X Rt) (gentle qs l) fuel (listed.toArray.setIfInBounds j true) a w' := by
        rintro a w' hbw ⟨env', os', gs', h1, h2, h3⟩
        exact ⟨fun _ => hbw, kk a w' ⟨env', os', gs', h3 w' hbw, h2, hb.trans (hbw.mono hrel.hb), h1⟩⟩
      split
      · rename_i hw
        rw [if_pos hw] at this
        obtain ⟨v, hv, hn⟩ := this
        refine .inl (Oper.wp_of_quiet (C := fun w' => Below w.heap.size w w') (K := fun a' => a' = Act.put ⟨tm, []⟩ o.dst v) (Below.refl _ _) ?_ ⟨v, hv, rfl⟩)
        intro a' w' hw' he
        subst he
        exact kq _ w' hw' hn
      · rename_i hw
        rw [if_neg hw] at this
        exact kq _ w (Below.refl _ _) this

theorem AAnyG.done (hr : rdyGo listed 0 l = []) (h : K env os) : AAnyG P qs l fuel listed K env os := by
  intro base w0 w gs tm hrel hb X Rt
  have hr' : Region.ready .any l.toArray listed.toArray = [] := by
    apply List.eq_nil_iff_forall_not_mem.2
    intro j hj
    have := mem_rdy.1 hj
    rw [hr] at this; cases this
  cases fuel with
  | zero => exact ⟨hr', env, os, gs, hrel, rfl, hb, h⟩
  | succ n => exact ⟨fun _ => ⟨env, os, gs, hrel, rfl, hb, h⟩, by rw [hr']; intro j hj; cases hj⟩

theorem run_load_val {P : Program} {ρ : Operand → Value} {d : Option Tmp} {t : TypeId} {x : Operand} {ty : TypeId} {pos : String} {af : Array Edge} {g : Option (Nat × Bool)} {w w' : World} {n : Next} (h : (execOp ρ ⟨d, .load t x, ty, pos, af, g⟩).run P w = .ok n w') : ∃ u, n = .value u := by
  simp only [execOp, Sem.run_bind, Sem.run_pure, Result.andThen] at h
  split at h
  · cases h; exact ⟨_, rfl⟩
  · cases h

theorem free_parts {i : Nat} {oi : Oper} (hi : l[i]? = some oi) (h : freeG qs l listed i = true) : ∃ W : Nat → Bool,
    (∀ j oj, l[j]? = some oj → W j = true → ∃ e ∈ oj.after, Region.binds .any e = true ∧ (e.on = i ∨ W e.on = true)) ∧ (∀ j, W j = true → listed.getD j true = false) ∧ listed.getD i true = false ∧
    (∀ j oj, l[j]? = some oj → j ≠ i → listed.getD j true = false → W j = false → gentle qs l j = true ∧ oi.apart l.toArray oj = true) := by
  simp only [freeG, hi, okW, Bool.and_eq_true, List.all_eq_true, List.mem_range] at h
  obtain ⟨⟨⟨⟨h1, h2⟩, h3⟩, h4⟩, h5⟩ := h
  have hlen : (waitsFor i l []).length = l.length := by simpa using h2
  have lt : ∀ j, (waitsFor i l []).getD j false = true → j < l.length := fun j hj => by
    rcases Nat.lt_or_ge j l.length with h | h
    · exact h
    · rw [List.getD_eq_getElem?_getD, List.getElem?_eq_none (by omega)] at hj; cases hj
  refine ⟨fun j => (waitsFor i l []).getD j false, fun j oj hj hw => ?_, fun j hw => ?_, by simpa using h4, fun j oj hj hne hun hw => ?_⟩
  · have := h1 j (lt j hw)
    simp only [hw, hj, Bool.not_true, Bool.false_or, List.any_eq_true, Bool.and_eq_true, Bool.or_eq_true, beq_iff_eq] at this
    obtain ⟨e, he, hb, hor⟩ := this
    exact ⟨e, by simpa using he, hb, hor⟩
  · have := h3 j (lt j hw)
    simp only [hw, Bool.not_true, Bool.false_or] at this
    simpa using this
  · have := h5 j (List.getElem?_eq_some_iff.1 hj).1
    have hne' : (j == i) = false := by simpa using hne
    simp only [hj, hne', hun, hw, Bool.false_or, Bool.and_eq_true] at this
    exact ⟨by unfold gentle; rw [hj]; exact this.1, this.2⟩

/-- An operation that needs no world is taken first. -/
theorem AAnyG.takeW {i : Nat} {o : Oper} (hi : findW l (rdyGo listed 0 l) = some i) (ho : l[i]? = some o) (hs : Region.noSelect l.toArray = true) (hf : Region.free .any l.toArray listed.toArray i = true)
    (h : AOps P .wless l [o] (fun env os => AAnyG P qs l fuel (listed.set i true) K env os) env os) : AAnyG P qs l (fuel + 1) listed K env os := by
  intro base w0 w gs tm hrel hb X Rt
  obtain ⟨v, hy, env', os', gs', hk, hd, hr'⟩ := h base w gs tm hrel
  have ho' : l.toArray[i]? = some o := by simpa using ho
  refine wpAnyG_firstY (oi := o) (v := v) ho' (Region.noSelect_spec hs) (fun _ _ _ h => h.elim) fuel listed.toArray _ _ (Region.free_spec ho' hf) (mem_rdy.2 (findW_mem hi)) hy ?_
  have := hk base w0 w gs' _ hr' hb X Rt
  rw [show listed.toArray.setIfInBounds i true = (listed.set i true).toArray from by simp]
  have e : (⟨(Act.put ⟨tm, []⟩ o.dst v).tmps, []⟩ : Act) = Act.put ⟨tm, []⟩ o.dst v := by
    have : (Act.put ⟨tm, []⟩ o.dst v).defers = [] := hd
    generalize Act.put ⟨tm, []⟩ o.dst v = a at this
    cases a; simp_all
  rw [e] at this
  exact this

def isLoad (o : Oper) : Bool := match o.op with | .load _ _ => true | _ => false
def findL (qs : List Nat) (l : List Oper) (listed : List Bool) : List Nat → Option Nat
  | [] => none
  | i :: is => cond ((match l[i]? with | some o => isLoad o | none => false) && freeG qs l listed i) (some i) (findL qs l listed is)
theorem findL_spec : ∀ {is : List Nat} {i : Nat}, findL qs l listed is = some i → i ∈ is ∧ freeG qs l listed i = true
  | [], _, h => by cases h
  | j :: is, i, h => by
    simp only [findL] at h
    cases hb : ((match l[j]? with | some o => isLoad o | none => false) && freeG qs l listed j) with
    | true => rw [hb] at h; simp at h; subst h; rw [Bool.and_eq_true] at hb; exact ⟨by simp, hb.2⟩
    | false => rw [hb] at h; have := findL_spec h; exact ⟨List.mem_cons_of_mem _ this.1, this.2⟩

/-- A load is taken first. -/
theorem AAnyG.takeL {i : Nat} {d : Option Tmp} {t : TypeId} {x : Operand} {ty : TypeId} {pos : String} {af : Array Edge} {g : Option (Nat × Bool)} (hi : findL qs l listed (rdyGo listed 0 l) = some i) (ho : l[i]? = some ⟨d, .load t x, ty, pos, af, g⟩) (hs : Region.noSelect l.toArray = true)
    (h : AOps P .quiet l [⟨d, .load t x, ty, pos, af, g⟩] (fun env os => AAnyG P qs l fuel (listed.set i true) K env os) env os) : AAnyG P qs l (fuel + 1) listed K env os := by
  intro base w0 w gs tm hrel hb X Rt
  have hq := h base w gs tm hrel
  obtain ⟨hm, hf⟩ := findL_spec hi
  obtain ⟨W, f1, f2, f3, f4⟩ := free_parts ho hf
  have key : ∀ v, YieldsIf P l.toArray (fun w' => Below w.heap.size w w') ⟨d, .load t x, ty, pos, af, g⟩ v ⟨tm, []⟩ →
      wpQuiet P l.toArray (fun w' => Below w.heap.size w w') (fun a' => ∃ env' os' gs', AAnyG P qs l fuel (listed.set i true) K env' os' ∧ a'.defers = [] ∧ ∀ w', Below w.heap.size w w' → Rel base w' gs' env' os' a'.tmps) [] (Act.put ⟨tm, []⟩ d v) →
      wpAnyG P l.toArray (Post base w0 K X Rt) (gentle qs l) (fuel + 1) listed.toArray ⟨tm, []⟩ w := by
    rintro v hy ⟨env', os', gs', hk, hd, hr'⟩
    refine wpAnyG_first (w0 := w) (v := v) (by simpa using ho) (Region.noSelect_spec hs) (fun _ _ _ h => h.elim) W (fun j oj hj => f1 j oj (by simpa using hj)) fuel listed.toArray _ _
      (fun j hj => by have := f2 j hj; simpa [List.getD_eq_getElem?_getD, Array.getD_eq_getD_getElem?] using this) (by simpa [List.getD_eq_getElem?_getD, Array.getD_eq_getD_getElem?] using f3)
      (fun j oj hj hne hun => f4 j oj (by simpa using hj) hne (by simpa [List.getD_eq_getElem?_getD, Array.getD_eq_getD_getElem?] using hun)) (mem_rdy.2 hm) hy (Below.refl _ _) ?_
    have := hk base w0 w gs' _ (hr' w (Below.refl _ _)) hb X Rt
    rw [show listed.toArray.setIfInBounds i true = (listed.set i true).toArray from by simp]
    have e : (⟨(Act.put ⟨tm, []⟩ d v).tmps, []⟩ : Act) = Act.put ⟨tm, []⟩ d v := by
      have : (Act.put ⟨tm, []⟩ d v).defers = [] := hd
      generalize Act.put ⟨tm, []⟩ d v = a at this
      cases a; simp_all
    rw [e] at this
    exact this
  unfold wpQuiet at hq
  split at hq
  · rename_i hw
    obtain ⟨v, hv, hn⟩ := hq
    refine key v (.inl ⟨hw, fun w' hw' => ?_⟩) hn
    have := hv w' hw'
    unfold Oper.quietAt at this
    generalize hrun : (execOp (Act.eval ⟨tm, []⟩) ⟨d, .load t x, ty, pos, af, g⟩).run P w' = r at this
    cases r with
    | ok n w1 =>
      obtain ⟨u, rfl⟩ := run_load_val hrun
      simp only [Oper.quietUpon] at this
      rw [this.1, this.2]
    | halt y w1 => simp only [Oper.quietUpon] at this
  · rename_i hw
    exact key undef (.inr ⟨by simpa using hw, rfl⟩) hq

/-- A region that draws its order: every order comes to a state that may be seen as (envC, osC). 'qs': functions that are only called for their plain values. -/
theorem AWp.regionG (qs : List Nat) {id : Nat} (hm : P.follows .mixedOrders = true) {envC : Env} {osC : List AO} {n : Nat} (hn : l.length = n) {listed : List Bool} (hl : List.replicate n false = listed)
    (h : AAnyG P qs l n listed (fun e o => Fit e o envC osC ∨ ∃ σ, FitS σ e o envC osC) env os) (hk : N envC osC) : AWp P (.region id l.toArray true) N X Rt env os := by
  refine AWp.regionA hm hn hl (fun base w0 w gs tm hr hb X Rt => wpAny_of_G _ _ _ _ (h base w0 w gs tm hr hb X Rt)) hk
end
end Go.Proofs.Ytpllbdjobmgikaa
