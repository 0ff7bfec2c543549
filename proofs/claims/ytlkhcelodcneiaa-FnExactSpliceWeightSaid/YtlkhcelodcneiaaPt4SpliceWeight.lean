/-
  Parts of the proof, one behind the other: contracts of functions and plain laws. No condition.
-/
import Derived.OrdersHeld
import Derived.Test.YtlkhcelodcneiaaPt3SpliceWeight
/-
  Regions that draw their order: a load is taken first where nothing that may come ahead of it writes. No condition.
-/
namespace Go.Proofs.Ytlkhcelodcneiaa
open Go Go.RowKit

/-- Whatever order is picked; behind an operation of G what was there is there still. -/
def wpAnyG (P : Program) (ops : Array Oper) (Q : Exit → Act → World → Prop) (G : Nat → Bool) : Nat → Array Bool → Act → World → Prop
  | 0, listed, a, w => Region.ready .any ops listed = [] ∧ Q .normal a w
  | fuel + 1, listed, a, w =>
    (Region.ready .any ops listed = [] → Q .normal a w) ∧
    ∀ i ∈ Region.ready .any ops listed, wpOp P ops Q i (fun a' w' => (G i = true → Below w.heap.size w w') ∧ wpAnyG P ops Q G fuel (listed.setIfInBounds i true) a' w') a w

theorem wpAny_of_G {P : Program} {ops : Array Oper} {Q : Exit → Act → World → Prop} {G : Nat → Bool} : ∀ (fuel : Nat) (listed : Array Bool) (a : Act) (w : World), wpAnyG P ops Q G fuel listed a w → wpAny P .any ops Q fuel listed a w
  | 0, _, _, _, h => h
  | fuel + 1, _, _, _, h => ⟨h.1, fun i hi => wpOp_mono (fun a' w' h' => wpAny_of_G fuel _ a' w' h'.2) (h.2 i hi)⟩

theorem wpAnyG_first {P : Program} {ops : Array Oper} {Q : Exit → Act → World → Prop} {G : Nat → Bool} {w0 : World} {i : Nat} {oi : Oper} {v : Value} (hi : ops[i]? = some oi) (hsel : ∀ (j : Nat) (o : Oper) cs b, ops[j]? = some o → o.op ≠ .select cs b)
    (hQ : ∀ c a w, Q (.panic c) (a.put oi.dst v) w → Q (.panic c) a w) (W : Nat → Bool)
    (hW : ∀ j oj, ops[j]? = some oj → W j = true → ∃ e ∈ oj.after, Region.binds .any e = true ∧ (e.on = i ∨ W e.on = true)) :
    ∀ (fuel : Nat) (listed : Array Bool) (a : Act) (w : World),
      (∀ j, W j = true → listed.getD j true = false) → listed.getD i true = false →
      (∀ j oj, ops[j]? = some oj → j ≠ i → listed.getD j true = false → W j = false → G j = true ∧ oi.apart ops oj = true) →
      i ∈ Region.ready .any ops listed → YieldsIf P ops (fun w' => Below w0.heap.size w0 w') oi v a → Below w0.heap.size w0 w →
      wpAnyG P ops Q G fuel (listed.setIfInBounds i true) (a.put oi.dst v) w → wpAnyG P ops Q G (fuel + 1) listed a w := by
  intro fuel
  induction fuel with
  | zero =>
    intro listed a w _ _ _ hr hy hS H
    refine ⟨fun h => (by rw [h] at hr; cases hr), fun j hj => ?_⟩
    by_cases hji : j = i
    · subst hji; exact hy.wpOp hi hS ⟨fun _ => Below.refl _ _, H⟩
    · have := ready_mono hj hji
      rw [H.1] at this
      cases this
  | succ fuel ih =>
    intro listed a w hWl hil hfree hr hy hS H
    refine ⟨fun h => (by rw [h] at hr; cases hr), fun j hj => ?_⟩
    by_cases hji : j = i
    · subst hji; exact hy.wpOp hi hS ⟨fun _ => Below.refl _ _, H⟩
    · have h1 := H.2 j (ready_mono hj hji)
      obtain ⟨hjun, oj, hoj, hall⟩ := mem_ready.1 hj
      have hWj : W j = false := by
        cases hc : W j with
        | false => rfl
        | true =>
          obtain ⟨e, he, hb, hor⟩ := hW j oj hoj hc
          have h1 := hall e he hb
          have tf : listed.getD e.on true = false → False := fun h0 => by
            rcases Nat.lt_or_ge e.on listed.size with h' | h'
            · simp [h'] at h0 h1; rw [h0] at h1; cases h1
            · simp [Array.getElem?_eq_none h'] at h1
          rcases hor with hor | hor
          · rw [hor] at tf; exact (tf hil).elim
          · exact (tf (hWl _ hor)).elim
      obtain ⟨hG, hap⟩ := hfree j oj hoj hji hjun hWj
      have h2 := wpOp_putIf hoj hap (fun cs b => hsel i oi cs b hi) (fun cs b => hsel j oj cs b hoj) hQ hy h1
      have gne : ∀ {k : Nat}, k ≠ j → (listed.setIfInBounds j true).getD k true = listed.getD k true := fun hk => getD_set_ne true (Ne.symm hk)
      refine wpOp_mono (fun a' w' h3 => ⟨h3.2.1, ih (listed.setIfInBounds j true) a' w' ?_ ?_ ?_ (ready_mono hr (Ne.symm hji)) h3.1 ?_ ?_⟩) h2
      · intro k hk
        rw [gne (fun e => by subst e; rw [hWj] at hk; cases hk)]
        exact hWl k hk
      · rw [gne (fun e => hji e.symm)]; exact hil
      · intro k ok hk hki hun hWk
        by_cases hkj : k = j
        · subst hkj
          exact hfree k ok hk hki hjun hWk
        · rw [gne hkj] at hun
          exact hfree k ok hk hki hun hWk
      · have := h3.2.1 hG
        exact hS.trans (this.mono hS.size)
      · rw [Array.setIfInBounds_comm _ _ hji]
        exact h3.2.2

theorem wpAnyG_firstY {P : Program} {ops : Array Oper} {Q : Exit → Act → World → Prop} {G : Nat → Bool} {i : Nat} {oi : Oper} {v : Value} (hi : ops[i]? = some oi) (hsel : ∀ (j : Nat) (o : Oper) cs b, ops[j]? = some o → o.op ≠ .select cs b)
    (hQ : ∀ c a w, Q (.panic c) (a.put oi.dst v) w → Q (.panic c) a w) :
    ∀ (fuel : Nat) (listed : Array Bool) (a : Act) (w : World),
      (∀ j oj, ops[j]? = some oj → j ≠ i → listed.getD j true = false → (∀ e ∈ oj.after, Region.binds .any e = true → e.on ≠ i) → oi.apart ops oj = true) →
      i ∈ Region.ready .any ops listed → Yields P ops oi v a →
      wpAnyG P ops Q G fuel (listed.setIfInBounds i true) (a.put oi.dst v) w → wpAnyG P ops Q G (fuel + 1) listed a w := by
  intro fuel
  induction fuel with
  | zero =>
    intro listed a w _ hr hy H
    refine ⟨fun h => (by rw [h] at hr; cases hr), fun j hj => ?_⟩
    by_cases hji : j = i
    · subst hji; exact hy.wpOp hi ⟨fun _ => Below.refl _ _, H⟩
    · have := ready_mono hj hji
      rw [H.1] at this
      cases this
  | succ fuel ih =>
    intro listed a w hfree hr hy H
    refine ⟨fun h => (by rw [h] at hr; cases hr), fun j hj => ?_⟩
    by_cases hji : j = i
    · subst hji; exact hy.wpOp hi ⟨fun _ => Below.refl _ _, H⟩
    · have h1 := H.2 j (ready_mono hj hji)
      obtain ⟨hjun, oj, hoj, hall⟩ := mem_ready.1 hj
      have hnot : ∀ e ∈ oj.after, Region.binds .any e = true → e.on ≠ i := fun e he hb heq => by
        have h1 := hall e he hb
        have h0 := (mem_ready.1 hr).1
        rw [heq] at h1
        rcases Nat.lt_or_ge i listed.size with h' | h'
        · simp [h'] at h0 h1; rw [h0] at h1; cases h1
        · simp [Array.getElem?_eq_none h'] at h1
      have h2 := wpOp_put hoj (hfree j oj hoj hji hjun hnot) (fun cs b => hsel i oi cs b hi) (fun cs b => hsel j oj cs b hoj) hQ hy h1
      have hfree' : ∀ k ok, ops[k]? = some ok → k ≠ i → (listed.setIfInBounds j true).getD k true = false →
          (∀ e ∈ ok.after, Region.binds .any e = true → e.on ≠ i) → oi.apart ops ok = true := fun k ok hk hki hun hno => by
        refine hfree k ok hk hki ?_ hno
        by_cases hjk : j = k
        · subst hjk; exact hjun
        · rw [getD_set_ne true hjk] at hun; exact hun
      refine wpOp_mono (fun a' w' h3 => ⟨h3.2.1, ih (listed.setIfInBounds j true) a' w' hfree' (ready_mono hr (Ne.symm hji)) h3.1 ?_⟩) h2
      rw [Array.setIfInBounds_comm _ _ hji]
      exact h3.2.2

/-- What writes nothing: no world asked, a load, a call of one of these functions. -/
def gentB (qs : List Nat) (o : Oper) : Bool :=
  wlessB o || match o.op with
    | .load _ _ => true
    | .call c => match c.callee with
      | .value (.func f) => qs.contains f
      | _ => false
    | _ => false
def gentle (qs : List Nat) (l : List Oper) (j : Nat) : Bool := match l[j]? with | some o => gentB qs o | none => false

/-- Which ones wait for i. -/
def waitsFor (i : Nat) : List Oper → List Bool → List Bool
  | [], acc => acc
  | o :: os, acc => waitsFor i os (acc ++ [o.after.toList.any fun e => Region.binds .any e && (e.on == i || acc.getD e.on false)])
def okW (l : List Oper) (i : Nat) (W : List Bool) : Bool := (List.range l.length).all fun j => !W.getD j false || match l[j]? with | some o => o.after.toList.any fun e => Region.binds .any e && (e.on == i || W.getD e.on false) | none => false
/-- i may be taken first. -/
def freeG (qs : List Nat) (l : List Oper) (listed : List Bool) (i : Nat) : Bool :=
  let W := waitsFor i l []
  okW l i W && W.length == l.length && (List.range l.length).all (fun j => !W.getD j false || !listed.getD j true) && !listed.getD i true &&
    match l[i]? with
    | none => false
    | some oi => (List.range l.length).all fun j => j == i || listed.getD j true || W.getD j false || match l[j]? with
      | some oj => gentB qs oj && oi.apart l.toArray oj
      | none => true

def AAnyG (P : Program) (qs : List Nat) (l : List Oper) (fuel : Nat) (listed : List Bool) (K : APost) (env : Env) (os : List AO) : Prop :=
  ∀ base w0 w gs tm, Rel base w gs env os tm → Below base w0 w → ∀ X Rt, wpAnyG P l.toArray (Post base w0 K X Rt) (gentle qs l) fuel listed.toArray ⟨tm, []⟩ w

/-- Each of these comes up next. -/
def AllOfG (P : Program) (qs : List Nat) (l : List Oper) (fuel : Nat) (listed : List Bool) (K : APost) (env : Env) (os : List AO) : List Nat → Prop
  | [] => True
  | i :: is => (∃ o, l[i]? = some o ∧ AOps P (cond (gentB qs o) .quiet .seq) l [o] (fun env os => AAnyG P qs l fuel (listed.set i true) K env os) env os) ∧ AllOfG P qs l fuel listed K env os is

section
variable {P : Program} {N : APost} {X : Nat → APost} {Rt : APost} {env : Env} {os : List AO} {l : List Oper} {K : APost} {fuel : Nat} {listed : List Bool} {qs : List Nat}

theorem AllOfG.get : ∀ {rs : List Nat}, AllOfG P qs l fuel listed K env os rs → ∀ i ∈ rs, ∃ o, l[i]? = some o ∧ AOps P (cond (gentB qs o) .quiet .seq) l [o] (fun env os => AAnyG P qs l fuel (listed.set i true) K env os) env os
  | [], _, i, h => by cases h
  | j :: rs, h, i, hi => by
    rcases List.mem_cons.1 hi with rfl | hi
    · exact h.1
    · exact AllOfG.get h.2 i hi
theorem AllOfG.nil : AllOfG P qs l fuel listed K env os [] := trivial
theorem AllOfG.consQ {i : Nat} {o : Oper} {is : List Nat} (ho : l[i]? = some o) (hg : gentB qs o = true) (h : AOps P .quiet l [o] (fun env os => AAnyG P qs l fuel (listed.set i true) K env os) env os) (hs : AllOfG P qs l fuel listed K env os is) :
    AllOfG P qs l fuel listed K env os (i :: is) := ⟨⟨o, ho, by rw [hg]; exact h⟩, hs⟩
theorem AllOfG.consS {i : Nat} {o : Oper} {is : List Nat} (ho : l[i]? = some o) (hg : gentB qs o = false) (h : AOps P .seq l [o] (fun env os => AAnyG P qs l fuel (listed.set i true) K env os) env os) (hs : AllOfG P qs l fuel listed K env os is) :
    AllOfG P qs l fuel listed K env os (i :: is) := ⟨⟨o, ho, by rw [hg]; exact h⟩, hs⟩

theorem AAnyG.all {i : Nat} {is : List Nat} (hr : rdyGo listed 0 l = i :: is) (h : AllOfG P qs l fuel listed K env os (i :: is)) : AAnyG P qs l (fuel + 1) listed K env os := by
  intro base w0 w gs tm hrel hb X Rt
  refine ⟨fun h0 => ?_, fun j hj => ?_⟩
  · have : i ∈ Region.ready .any l.toArray listed.toArray := mem_rdy.2 (by rw [hr]; simp)
    rw [h0] at this; cases this
  · have hj' := mem_rdy.1 hj
    rw [hr] at hj'
    obtain ⟨o, ho, hop⟩ := h.get j hj'
    have ho' : l.toArray[j]? = some o := by simpa using ho
    have hgj : gentle qs l j = gentB qs o := by unfold gentle; rw [ho]
    have kk : ∀ a w', Post base w0 (fun env os => AAnyG P qs l fuel (listed.set j true) K env os) X Rt .normal a w' → wpAnyG P l.toArray (Post base w0 K X Rt) (gentle qs l) fuel (listed.toArray.setIfInBounds j true) a w' := by
      rintro a w' ⟨env', os', gs', h1, h2, h3, h4⟩
      have ea : a = ⟨a.tmps, []⟩ := by cases a; simp_all
      rw [ea]
      have := h4 base w0 w' gs' a.tmps h1 h3 X Rt
      rwa [show listed.toArray.setIfInBounds j true = (listed.set j true).toArray from by simp]
    cases hg : gentB qs o with
    | false =>
      rw [hg] at hop
      have := hop base w0 w gs tm hrel hb X Rt
      unfold wpOp
      rw [ho']
      unfold wpList at this
      simp only
      rw [hgj, hg]
      split
      · rename_i hw
        rw [if_pos hw] at this
        rcases this with this | ⟨h1, ⟨a, w', h2⟩⟩
        · exact .inl (Oper.wp_mono2 (fun a w' h => ⟨fun e => (by cases e), kk a w' h⟩) (fun _ _ _ h => (h : False).elim) (fun ⟨_, _, h⟩ => (h : False).elim) this)
        · exact (h2 : False).elim
      · rename_i hw
        rw [if_neg hw] at this
        exact ⟨fun e => (by cases e), kk _ _ this⟩
    | true =>
      rw [hg] at hop
      have := hop base w gs tm hrel
      unfold wpOp
      rw [ho']
      unfold wpQuiet at this
      simp only
      have kq : ∀ (a : Act) w', Below w.heap.size w w' → wpQuiet P l.toArray (fun w' => Below w.heap.size w w') (fun a' => ∃ env' os' gs', AAnyG P qs l fuel (listed.set j true) K env' os' ∧ a'.defers = [] ∧ ∀ w', Below w.heap.size w w' → Rel base w' gs' env' os' a'.tmps) [] a →
          (gentle qs l j = true → Below w.heap.size w w') ∧ wpAnyG P l.toArray (Post base w0 K X Rt) (gentle qs l) fuel (listed.toArray.setIfInBounds j true) a w' := by
        rintro a w' hbw ⟨env', os', gs', h1, h2, h3⟩
        exact ⟨fun _ => hbw, kk a w' ⟨env', os', gs', h3 w' hbw, h2, hb.trans (hbw.mono hrel.hb), h1⟩⟩
      split
      · rename_i hw
        rw [if_pos hw] at this
        obtain ⟨v, hv, hn⟩ := this
        refine .inl (Oper.wp_of_quiet (C := fun w' => Below w.heap.size w w') (K := fun a' => a' = Act.put ⟨tm, []⟩ o.dst v) (Below.refl _ _) ?_ ⟨v, hv, rfl⟩)
        intro a' w' hw' he
        subst he
        exact kq _ w' hw' hn
      · rename_i hw
        rw [if_neg hw] at this
        exact kq _ w (Below.refl _ _) this

theorem AAnyG.done (hr : rdyGo listed 0 l = []) (h : K env os) : AAnyG P qs l fuel listed K env os := by
  intro base w0 w gs tm hrel hb X Rt
  have hr' : Region.ready .any l.toArray listed.toArray = [] := by
    apply List.eq_nil_iff_forall_not_mem.2
    intro j hj
    have := mem_rdy.1 hj
    rw [hr] at this; cases this
  cases fuel with
  | zero => exact ⟨hr', env, os, gs, hrel, rfl, hb, h⟩
  | succ n => exact ⟨fun _ => ⟨env, os, gs, hrel, rfl, hb, h⟩, by rw [hr']; intro j hj; cases hj⟩

theorem run_load_val {P : Program} {ρ : Operand → Value} {d : Option Tmp} {t : TypeId} {x : Operand} {ty : TypeId} {pos : String} {af : Array Edge} {g : Option (Nat × Bool)} {w w' : World} {n : Next} (h : (execOp ρ ⟨d, .load t x, ty, pos, af, g⟩).run P w = .ok n w') : ∃ u, n = .value u := by
  simp only [execOp, Sem.run_bind, Sem.run_pure, Result.andThen] at h
  split at h
  · cases h; exact ⟨_, rfl⟩
  · cases h

theorem free_parts {i : Nat} {oi : Oper} (hi : l[i]? = some oi) (h : freeG qs l listed i = true) : ∃ W : Nat → Bool,
    (∀ j oj, l[j]? = some oj → W j = true → ∃ e ∈ oj.after, Region.binds .any e = true ∧ (e.on = i ∨ W e.on = true)) ∧ (∀ j, W j = true → listed.getD j true = false) ∧ listed.getD i true = false ∧
    (∀ j oj, l[j]? = some oj → j ≠ i → listed.getD j true = false → W j = false → gentle qs l j = true ∧ oi.apart l.toArray oj = true) := by
  simp only [freeG, hi, okW, Bool.and_eq_true, List.all_eq_true, List.mem_range] at h
  obtain ⟨⟨⟨⟨h1, h2⟩, h3⟩, h4⟩, h5⟩ := h
  have hlen : (waitsFor i l []).length = l.length := by simpa using h2
  have lt : ∀ j, (waitsFor i l []).getD j false = true → j < l.length := fun j hj => by
    rcases Nat.lt_or_ge j l.length with h | h
    · exact h
    · rw [List.getD_eq_getElem?_getD, List.getElem?_eq_none (by omega)] at hj; cases hj
  refine ⟨fun j => (waitsFor i l []).getD j false, fun j oj hj hw => ?_, fun j hw => ?_, by simpa using h4, fun j oj hj hne hun hw => ?_⟩
  · have := h1 j (lt j hw)
    simp only [hw, hj, Bool.not_true, Bool.false_or, List.any_eq_true, Bool.and_eq_true, Bool.or_eq_true, beq_iff_eq] at this
    obtain ⟨e, he, hb, hor⟩ := this
    exact ⟨e, by simpa using he, hb, hor⟩
  · have := h3 j (lt j hw)
    simp only [hw, Bool.not_true, Bool.false_or] at this
    simpa using this
  · have := h5 j (List.getElem?_eq_some_iff.1 hj).1
    have hne' : (j == i) = false := by simpa using hne
    simp only [hj, hne', hun, hw, Bool.false_or, Bool.and_eq_true] at this
    exact ⟨by unfold gentle; rw [hj]; exact this.1, this.2⟩

/-- An operation that needs no world is taken first. -/
theorem AAnyG.takeW {i : Nat} {o : Oper} (hi : findW l (rdyGo listed 0 l) = some i) (ho : l[i]? = some o) (hs : Region.noSelect l.toArray = true) (hf : Region.free .any l.toArray listed.toArray i = true)
    (h : AOps P .wless l [o] (fun env os => AAnyG P qs l fuel (listed.set i true) K env os) env os) : AAnyG P qs l (fuel + 1) listed K env os := by
  intro base w0 w gs tm hrel hb X Rt
  obtain ⟨v, hy, env', os', gs', hk, hd, hr'⟩ := h base w gs tm hrel
  have ho' : l.toArray[i]? = some o := by simpa using ho
  refine wpAnyG_firstY (oi := o) (v := v) ho' (Region.noSelect_spec hs) (fun _ _ _ h => h.elim) fuel listed.toArray _ _ (Region.free_spec ho' hf) (mem_rdy.2 (findW_mem hi)) hy ?_
  have := hk base w0 w gs' _ hr' hb X Rt
  rw [show listed.toArray.setIfInBounds i true = (listed.set i true).toArray from by simp]
  have e : (⟨(Act.put ⟨tm, []⟩ o.dst v).tmps, []⟩ : Act) = Act.put ⟨tm, []⟩ o.dst v := by
    have : (Act.put ⟨tm, []⟩ o.dst v).defers = [] := hd
    generalize Act.put ⟨tm, []⟩ o.dst v = a at this
    cases a; simp_all
  rw [e] at this
  exact this

def isLoad (o : Oper) : Bool := match o.op with | .load _ _ => true | _ => false
def findL (qs : List Nat) (l : List Oper) (listed : List Bool) : List Nat → Option Nat
  | [] => none
  | i :: is => cond ((match l[i]? with | some o => isLoad o | none => false) && freeG qs l listed i) (some i) (findL qs l listed is)
theorem findL_spec : ∀ {is : List Nat} {i : Nat}, findL qs l listed is = some i → i ∈ is ∧ freeG qs l listed i = true
  | [], _, h => by cases h
  | j :: is, i, h => by
    simp only [findL] at h
    cases hb : ((match l[j]? with | some o => isLoad o | none => false) && freeG qs l listed j) with
    | true => rw [hb] at h; simp at h; subst h; rw [Bool.and_eq_true] at hb; exact ⟨by simp, hb.2⟩
    | false => rw [hb] at h; have := findL_spec h; exact ⟨List.mem_cons_of_mem _ this.1, this.2⟩

/-- A load is taken first. -/
theorem AAnyG.takeL {i : Nat} {d : Option Tmp} {t : TypeId} {x : Operand} {ty : TypeId} {pos : String} {af : Array Edge} {g : Option (Nat × Bool)} (hi : findL qs l listed (rdyGo listed 0 l) = some i) (ho : l[i]? = some ⟨d, .load t x, ty, pos, af, g⟩) (hs : Region.noSelect l.toArray = true)
    (h : AOps P .quiet l [⟨d, .load t x, ty, pos, af, g⟩] (fun env os => AAnyG P qs l fuel (listed.set i true) K env os) env os) : AAnyG P qs l (fuel + 1) listed K env os := by
  intro base w0 w gs tm hrel hb X Rt
  have hq := h base w gs tm hrel
  obtain ⟨hm, hf⟩ := findL_spec hi
  obtain ⟨W, f1, f2, f3, f4⟩ := free_parts ho hf
  have key : ∀ v, YieldsIf P l.toArray (fun w' => Below w.heap.size w w') ⟨d, .load t x, ty, pos, af, g⟩ v ⟨tm, []⟩ →
      wpQuiet P l.toArray (fun w' => Below w.heap.size w w') (fun a' => ∃ env' os' gs', AAnyG P qs l fuel (listed.set i true) K env' os' ∧ a'.defers = [] ∧ ∀ w', Below w.heap.size w w' → Rel base w' gs' env' os' a'.tmps) [] (Act.put ⟨tm, []⟩ d v) →
      wpAnyG P l.toArray (Post base w0 K X Rt) (gentle qs l) (fuel + 1) listed.toArray ⟨tm, []⟩ w := by
    rintro v hy ⟨env', os', gs', hk, hd, hr'⟩
    refine wpAnyG_first (w0 := w) (v := v) (by simpa using ho) (Region.noSelect_spec hs) (fun _ _ _ h => h.elim) W (fun j oj hj => f1 j oj (by simpa using hj)) fuel listed.toArray _ _
      (fun j hj => by have := f2 j hj; simpa [List.getD_eq_getElem?_getD, Array.getD_eq_getD_getElem?] using this) (by simpa [List.getD_eq_getElem?_getD, Array.getD_eq_getD_getElem?] using f3)
      (fun j oj hj hne hun => f4 j oj (by simpa using hj) hne (by simpa [List.getD_eq_getElem?_getD, Array.getD_eq_getD_getElem?] using hun)) (mem_rdy.2 hm) hy (Below.refl _ _) ?_
    have := hk base w0 w gs' _ (hr' w (Below.refl _ _)) hb X Rt
    rw [show listed.toArray.setIfInBounds i true = (listed.set i true).toArray from by simp]
    have e : (⟨(Act.put ⟨tm, []⟩ d v).tmps, []⟩ : Act) = Act.put ⟨tm, []⟩ d v := by
      have : (Act.put ⟨tm, []⟩ d v).defers = [] := hd
      generalize Act.put ⟨tm, []⟩ d v = a at this
      cases a; simp_all
    rw [e] at this
    exact this
  unfold wpQuiet at hq
  split at hq
  · rename_i hw
    obtain ⟨v, hv, hn⟩ := hq
    refine key v (.inl ⟨hw, fun w' hw' => ?_⟩) hn
    have := hv w' hw'
    unfold Oper.quietAt at this
    generalize hrun : (execOp (Act.eval ⟨tm, []⟩) ⟨d, .load t x, ty, pos, af, g⟩).run P w' = r at this
    cases r with
    | ok n w1 =>
      obtain ⟨u, rfl⟩ := run_load_val hrun
      simp only [Oper.quietUpon] at this
      rw [this.1, this.2]
    | halt y w1 => simp only [Oper.quietUpon] at this
  · rename_i hw
    exact key undef (.inr ⟨by simpa using hw, rfl⟩) hq

/-- A region that draws its order: every order comes to a state that may be seen as (envC, osC). 'qs': functions that are only called for their plain values. -/
theorem AWp.regionG (qs : List Nat) {id : Nat} (hm : P.follows .mixedOrders = true) {envC : Env} {osC : List AO} {n : Nat} (hn : l.length = n) {listed : List Bool} (hl : List.replicate n false = listed)
    (h : AAnyG P qs l n listed (fun e o => Fit e o envC osC ∨ ∃ σ, FitS σ e o envC osC) env os) (hk : N envC osC) : AWp P (.region id l.toArray true) N X Rt env os := by
  refine AWp.regionA hm hn hl (fun base w0 w gs tm hr hb X Rt => wpAny_of_G _ _ _ _ (h base w0 w gs tm hr hb X Rt)) hk
end
end Go.Proofs.Ytlkhcelodcneiaa
/-
  A row of own rows that grows in its place. No condition.
-/
namespace Go.Proofs.Ytlkhcelodcneiaa
open Go Go.RowKit

theorem ownsRow_lower {w : World} {base base' : Nat} {e : TypeId} {size : Nat} {v : Value} {n : Nat} {xs : List Value} (h : w.ownsRow base e size v n xs) (hb : base' ≤ base) : w.ownsRow base' e size v n xs := by
  obtain ⟨h1, h2⟩ := h
  refine ⟨h1, ?_⟩
  rcases h2 with h2 | ⟨g, cap, cur, hv, hb1, r⟩
  · exact .inl h2
  · exact .inr ⟨g, cap, cur, hv, Nat.le_trans hb hb1, r⟩
/-- Own rows, of which row i has grown and is not yet back in its cell. -/
def PendP (e e2 : TypeId) (xss : List (List Int)) (i : Nat) (base : Nat) (w : World) (g : Gh) : Prop :=
  ∃ (cs : List Value) (bs : List (List Nat)) (mb : List Nat), w.ownsRow base e 1 g.v cs.length cs ∧ cs.length = xss.length ∧ bs.length = xss.length ∧ g.rows.length = xss.length ∧ (∀ j : Nat, j ≠ i → g.rows[j]? = cs[j]?) ∧
    (∀ (j : Nat) u, g.rows[j]? = some u → w.ownsRow base e2 1 u (xss.getD j []).length ((xss.getD j []).map (Value.int .i64)) ∧ (∀ x ∈ xss.getD j [], inI x) ∧ u.ownBlock.toList = bs.getD j []) ∧
    ((g.v.ownBlock = none ∧ mb = []) ∨ (g.v.ownBlock = some g.b ∧ mb = [g.b])) ∧ g.bl = mb ++ bs.flatten ∧ g.bl.Nodup
theorem mem_main {g : Gh} {mb : List Nat} (h : (g.v.ownBlock = none ∧ mb = []) ∨ (g.v.ownBlock = some g.b ∧ mb = [g.b])) {k : Nat} (hk : g.v.ownBlock = some k) : k ∈ mb := by
  rcases h with ⟨h1, _⟩ | ⟨h1, h2⟩
  · rw [h1] at hk; cases hk
  · rw [h1] at hk; cases hk; rw [h2]; simp
theorem mem_row {bs : List (List Nat)} {j : Nat} {u : Value} (hj : j < bs.length) (h : u.ownBlock.toList = bs.getD j []) {k : Nat} (hk : u.ownBlock = some k) : k ∈ bs.flatten := by
  refine List.mem_flatten.2 ⟨bs.getD j [], ?_, by rw [← h, hk]; simp⟩
  rw [List.getD_eq_getElem?_getD, List.getElem?_eq_getElem hj]; exact List.getElem_mem _
def pendOb (e e2 : TypeId) (xss : List (List Int)) (i : Nat) : Ob where
  p := PendP e e2 xss i
  up {base w w' g} hb h := by
    obtain ⟨cs, bs, mb, a1, a2, a3, a4, a5, a6, a7, a8, a9⟩ := h
    refine ⟨cs, bs, mb, ownsRow_of_block a1 fun k hk => hb k (by rw [a8]; exact List.mem_append.2 (.inl (mem_main a7 hk))), a2, a3, a4, a5, fun j u hu => ?_, a7, a8, a9⟩
    obtain ⟨r1, r2, r3⟩ := a6 j u hu
    have hj := (List.getElem?_eq_some_iff.1 hu).1
    exact ⟨ownsRow_of_block r1 fun k hk => hb k (by rw [a8]; exact List.mem_append.2 (.inr (mem_row (by omega) r3 hk))), r2, r3⟩
  lower hl h := by
    obtain ⟨cs, bs, mb, a1, a2, a3, a4, a5, a6, a7, a8, a9⟩ := h
    exact ⟨cs, bs, mb, ownsRow_lower a1 hl, a2, a3, a4, a5, fun j u hu => ⟨ownsRow_lower (a6 j u hu).1 hl, (a6 j u hu).2⟩, a7, a8, a9⟩
  one h := by
    obtain ⟨cs, bs, mb, a1, _⟩ := h
    obtain ⟨a, c, e⟩ := ownsRow_slice a1
    rw [e]; exact ⟨rfl, rfl⟩

theorem nodup_setrow {mb : List Nat} {bs : List (List Nat)} {i : Nat} {c : List Nat} (h : (mb ++ bs.flatten).Nodup) (hi : i < bs.length) (hc : c.Nodup) (hn : ∀ x ∈ c, x ∈ bs.getD i [] ∨ x ∉ mb ++ bs.flatten) : (mb ++ (bs.set i c).flatten).Nodup := by
  rw [flatten_set c hi]
  rw [flatten_at hi] at h hn
  generalize (bs.take i).flatten = A at *
  generalize (bs.drop (i + 1)).flatten = B at *
  generalize bs.getD i [] = R at *
  simp only [List.nodup_append, List.mem_append] at h hn ⊢
  obtain ⟨h1, ⟨h2, ⟨h3, h4, h5⟩, h6⟩, h7⟩ := h
  refine ⟨h1, ⟨h2, ⟨hc, h4, fun a ha b hb e => ?_⟩, fun a ha b hb e => ?_⟩, fun a ha b hb e => ?_⟩
  · subst e
    rcases hn a ha with hr | hr
    · exact h5 a hr a hb rfl
    · exact hr (.inr (.inr (.inr hb)))
  · subst e
    rcases hb with hb | hb
    · rcases hn a hb with hr | hr
      · exact h6 a ha a (.inl hr) rfl
      · exact hr (.inr (.inl ha))
    · exact h6 a ha a (.inr hb) rfl
  · subst e
    rcases hb with hb | hb | hb
    · exact h7 a ha a (.inl hb) rfl
    · rcases hn a hb with hr | hr
      · exact h7 a ha a (.inr (.inl hr)) rfl
      · exact hr (.inl ha)
    · exact h7 a ha a (.inr (.inr hb)) rfl
theorem getD_set_if (xss : List (List Int)) (i j : Nat) (ys : List Int) (hi : i < xss.length) : (xss.set i ys).getD j [] = if j = i then ys else xss.getD j [] := by
  simp only [List.getD_eq_getElem?_getD, List.getElem?_set]
  by_cases e : i = j
  · subst e; simp [hi]
  · have e' : ¬ j = i := fun h => e h.symm
    simp [e, e']
theorem getD_set_ifn (bs : List (List Nat)) (i j : Nat) (c : List Nat) (hi : i < bs.length) : (bs.set i c).getD j [] = if j = i then c else bs.getD j [] := by
  simp only [List.getD_eq_getElem?_getD, List.getElem?_set]
  by_cases e : i = j
  · subst e; simp [hi]
  · have e' : ¬ j = i := fun h => e h.symm
    simp [e, e']

section
variable {P : Program} {env : Env} {os : List AO} {d : Option Tmp} {ty : TypeId} {pos : String} {af : Array Edge} {g : Option (Nat × Bool)}
set_option maxHeartbeats 2000000 in
/-- Numbers are appended to a row. -/
theorem l_append_orow {t2 e2' : TypeId} {bytes : Nat} [ht : TSlice P t2 e2'] [he : TElem P e2' (.int .i64 0) bytes] {x y : Operand} {h i k : Nat} {e e2 e3 : TypeId} {xss : List (List Int)} {ys : List Int} (hx : AV.ev env x = .orow h i) (hs : os[h]? = some (.sls e e2 xss)) (hi : i < xss.length) (he2 : e2 = e2')
    (hy : AV.ev env y = .own k) (hk : os[k]? = some (.sli e3 ys)) (hhk : (h == k) = false) (hp : 0 < ys.length) (hb : ((xss.getD i []).length + ys.length) * bytes ≤ 140737488355328) :
    LOp P ⟨d, .call { callee := .builtin .append, args := #[x, y], argTypes := #[t2, t2] }, ty, pos, af, g⟩ env os (.orow h i) (env.mp (AV.noRow h)) (((os.map (AO.via (AV.noRow h) h)).set h (.ob (pendOb e e2 (xss.set i (xss.getD i [] ++ ys)) i))).set k .dead) := by
  subst he2
  have hne : h ≠ k := by simpa using hhk
  intro base w gs tm hr
  have hxv := hr.ev x
  have hyv := hr.ev y
  rw [hx] at hxv
  rw [hy] at hyv
  generalize hv : Act.eval ⟨tm, []⟩ x = v at hxv
  generalize hu : Act.eval ⟨tm, []⟩ y = u at hyv
  cases hxv with
  | @orow _ _ gh _ hg hrow =>
  cases hyv with
  | @own _ gk hgk =>
    obtain ⟨vs, bs, mb, a1, a2, a3, a4, a5, a6, a7, a8⟩ := hr.ho _ _ _ hg hs
    obtain ⟨b1, b2, b3⟩ := hr.ho _ _ _ hgk hk
    have hrv : vs[i]? = some v := by rw [← a4]; exact hrow
    obtain ⟨r1, r2, r3⟩ := a5 i v hrv
    have hiv : i < vs.length := by omega
    have hib : i < bs.length := by omega
    obtain ⟨bk, ck, q1, q2, q3, q4⟩ := own_slice b1 (i := 0) (by simpa using hp)
    have hcells : ∀ (j : Nat) z, (ys.map (Value.int .i64))[j]? = some z → w.cell? ((⟨bk, 0, none⟩ : Addr).add j) = some z := by
      intro j z hz
      have hj := (List.getElem?_eq_some_iff.1 hz).1
      obtain ⟨bk', ck', p1, p2, p3, _⟩ := own_slice b1 (i := j) hj
      have eb : bk' = bk := by rw [q2] at p2; exact (Option.some.inj p2).symm
      subst eb
      rw [add_none, Nat.zero_add, p3]; exact hz
    obtain ⟨ii, hi', hsz, hz, hby⟩ := he.info
    have hml : (xss.getD i []).length + ys.length ≤ maxLen := by
      have hb0 := he.pos
      have : (xss.getD i []).length + ys.length ≤ ((xss.getD i []).length + ys.length) * bytes := Nat.le_mul_of_pos_right _ hb0
      simp only [maxLen]; omega
    obtain ⟨v', w', s1, s2, s3, _, s5⟩ := run_append_own_at (P := P) w base t2 ty e2 ii _ 1 bytes ht.und hi' hz hsz hby rfl (by omega) v _ _ r1 ⟨bk, 0, none⟩ ys.length ck (ys.map (Value.int .i64)) (by simp) hcells
      (fun z hz => by obtain ⟨n, _, rfl⟩ := List.mem_map.1 hz; rfl) hml hb hr.hb
    have hsub : ∀ b, v.ownBlock = some b → b ∈ bs.flatten := fun b hb => mem_row hib r3 hb
    have hgl : ∀ b, b ∈ gh.bl → b < w.heap.size := fun b hb => (hr.hn _ _ _ hg hs (by simp) b hb).2
    have hother : ∀ c, c < w.heap.size → c ∉ gh.bl → w'.heap[c]? = w.heap[c]? := fun c hc hcb => s3.block c hc fun e => hcb (by rw [a7]; exact List.mem_append.2 (.inr (hsub c e.symm)))
    have hvo : ∀ b, v'.ownBlock = some b → (v.ownBlock = some b ∨ b = w.heap.size) ∧ b < w'.heap.size := fun b hb => by
      refine ⟨?_, ?_⟩
      · rcases s5 with s5 | s5
        · left; rw [← s5]; exact hb
        · right; rw [s5] at hb; exact (Option.some.inj hb).symm
      · rcases s2.2 with ⟨e1, _⟩ | ⟨gg, cc, cur, e1, _, hgg, _⟩
        · rw [e1] at hb; cases hb
        · rw [e1] at hb; cases hb; exact (Array.getElem?_eq_some_iff.1 hgg).1
    let g' : Gh := ⟨gh.v, gh.b, mb ++ (bs.set i v'.ownBlock.toList).flatten, gh.rows.set i v'⟩
    have hhg : h < gs.length := (List.getElem?_eq_some_iff.1 hg).1
    have sv : SameV h gs (gs.set h g') := by
      refine ⟨fun j z hj hz => ?_, fun z hz => ⟨g', by simp [hhg], ?_⟩⟩
      · rw [List.getElem?_set, if_neg (fun e => hj e.symm)]; exact hz
      · rw [hg] at hz; cases hz; exact ⟨rfl, rfl⟩
    have hmem : ∀ c, c ∈ g'.bl → c ∈ gh.bl ∨ c = w.heap.size ∧ c < w'.heap.size := by
      intro c hc
      rcases List.mem_append.1 hc with hc | hc
      · left; rw [a7]; exact List.mem_append.2 (.inl hc)
      · rw [flatten_set _ hib] at hc
        rcases List.mem_append.1 hc with hc | hc
        · left; rw [a7, flatten_at hib]; simp [hc]
        · rcases List.mem_append.1 hc with hc | hc
          · have hc' : v'.ownBlock = some c := by
              cases hvb : v'.ownBlock with
              | none => rw [hvb] at hc; simp at hc
              | some z => rw [hvb] at hc; simp at hc; rw [hc]
            obtain ⟨h1, h2⟩ := hvo c hc'
            rcases h1 with h1 | h1
            · left; rw [a7]; exact List.mem_append.2 (.inr (hsub c h1))
            · exact .inr ⟨h1, h2⟩
          · left; rw [a7, flatten_at hib]; simp [hc]
    refine ⟨v', w', gs.set h g', .inl ?_, hr.absorb hg hs trivial hgk hk trivial hne g' _ (AV.noRow h) rfl hother s3.size ?_ (fun kp hv => hv.noRow kp sv) ?_, ?_, ?_⟩
    · simp only [execOp, resolve, invoke, builtin, Sem.run_bind, Sem.run_pure, Result.andThen_ok, List.map_toArray, List.map_cons, List.map_nil, hv, hu, q1, s1]
    · intro c hc
      rcases hmem c hc with h1 | ⟨h1, h2⟩
      · exact ⟨.inl h1, Nat.lt_of_lt_of_le (hgl c h1) s3.size⟩
      · exact ⟨.inr (.inr (Nat.le_of_eq h1.symm)), h2⟩
    · intro kp
      have a8' := a8
      rw [a7] at a8'
      have hnot : ∀ c, c < w.heap.size → v.ownBlock ≠ some c → w'.heap[c]? = w.heap[c]? := fun c hc hn => s3.block c hc fun e => hn e.symm
      refine ⟨vs, bs.set i v'.ownBlock.toList, mb, ?_, by simp [a2], by simp [a3], by simp [g', a4, a2], fun j hj => ?_, fun j z hz => ?_, a6, rfl, ?_⟩
      · refine ownsRow_of_block a1 fun c hc => hnot c (hgl c (by rw [a7]; exact List.mem_append.2 (.inl (mem_main a6 hc)))) fun e => ?_
        exact (List.nodup_append.1 a8').2.2 c (mem_main a6 hc) c (hsub c e) rfl
      · show (gh.rows.set i v')[j]? = _
        rw [List.getElem?_set, if_neg (fun e => hj e.symm), a4]
      · have hz' : (gh.rows.set i v')[j]? = some z := hz
        rw [List.getElem?_set] at hz'
        rw [getD_set_if _ _ _ _ hi, getD_set_ifn _ _ _ _ hib]
        by_cases e : j = i
        · subst e
          rw [if_pos rfl, if_pos (by rw [a4]; exact hiv)] at hz'
          cases hz'
          rw [if_pos rfl, if_pos rfl]
          refine ⟨by rw [List.length_append, List.map_append]; exact s2, fun n hn => ?_, rfl⟩
          rcases List.mem_append.1 hn with hn | hn
          · exact r2 n hn
          · exact b2 n hn
        · rw [if_neg (fun e' => e e'.symm), a4] at hz'
          rw [if_neg e, if_neg e]
          obtain ⟨t1, t2, t3⟩ := a5 j z hz'
          have hjl := (List.getElem?_eq_some_iff.1 hz').1
          refine ⟨ownsRow_of_block t1 fun c hc => hnot c (hgl c (by rw [a7]; exact List.mem_append.2 (.inr (mem_row (by omega) t3 hc)))) fun ev => ?_, t2, t3⟩
          have hfl := (List.nodup_append.1 a8').2.1
          have c1 : c ∈ bs.getD j [] := by rw [← t3, hc]; simp
          have c2 : c ∈ bs.getD i [] := by rw [← r3, ev]; simp
          have hpw := (List.pairwise_flatten.1 hfl).2
          rw [List.getD_eq_getElem?_getD, List.getElem?_eq_getElem (by omega)] at c1 c2
          have hpw' := List.pairwise_iff_getElem.1 hpw
          rcases Nat.lt_or_gt_of_ne e with hlt | hlt
          · exact hpw' j i (by omega) hib hlt c c1 c c2 rfl
          · exact hpw' i j hib (by omega) hlt c c2 c c1 rfl
      · refine nodup_setrow a8' hib ?_ fun c hc => ?_
        · cases v'.ownBlock <;> simp
        · have hc' : v'.ownBlock = some c := by
            cases hvb : v'.ownBlock with
            | none => rw [hvb] at hc; simp at hc
            | some z => rw [hvb] at hc; simp at hc; rw [hc]
          rcases (hvo c hc').1 with h1 | h1
          · left; rw [← r3, h1]; simp
          · right; intro hm
            have := hgl c (by rw [a7]; exact hm)
            omega
    · have hr' : (gh.rows.set i v')[i]? = some v' := by rw [List.getElem?_set, if_pos rfl, if_pos (by rw [a4]; exact hiv)]
      exact RV.orow (g := g') (by simp [hhg]) hr'
    · refine ⟨s3.os, s3.tape, s3.output, s3.size, fun b hb => s3.block b (by have := hr.hb; omega) fun e => ?_⟩
      have := (hr.hn _ _ _ hg hs (by simp) b (by rw [a7]; exact List.mem_append.2 (.inr (hsub b e.symm)))).1
      omega

/-- A grown row goes back into its cell. -/
theorem l_store_pend {t : TypeId} [ht : TCell P t] {x y : Operand} {h i : Nat} {e e2 : TypeId} {xss : List (List Int)} (hx : AV.ev env x = .optr h i) (hs : os[h]? = some (.ob (pendOb e e2 xss i))) (hi : i < xss.length) (hy : AV.ev env y = .orow h i) :
    LOp P ⟨d, .store t x y, ty, pos, af, g⟩ env os .any env (os.set h (.sls e e2 xss)) := by
  intro base w gs tm hr
  have hxv := hr.ev x
  have hyv := hr.ev y
  rw [hx] at hxv
  rw [hy] at hyv
  generalize hv : Act.eval ⟨tm, []⟩ x = v at hxv
  generalize hu : Act.eval ⟨tm, []⟩ y = u at hyv
  cases hxv with
  | @optr _ _ gh hg =>
  cases hyv with
  | @orow _ _ gh2 _ hg2 hrow =>
    have egg : gh2 = gh := by rw [hg] at hg2; exact (Option.some.inj hg2).symm
    subst egg
    obtain ⟨cs, bs, mb, a1, a2, a3, a4, a5, a6, a7, a8, a9⟩ := hr.ho _ _ _ hg hs
    obtain ⟨r1, r2, r3⟩ := a6 i u hrow
    obtain ⟨ua, uc, eu⟩ := ownsRow_slice r1
    have hic : i < cs.length := by omega
    obtain ⟨b, cap, e1, e2', e3', e4⟩ := own_slice a1 (i := i) hic
    have emb : mb = [gh2.b] ∧ gh2.v.ownBlock = some gh2.b := by
      rcases a7 with ⟨c1, _⟩ | ⟨c1, c2⟩
      · rw [c1] at e2'; cases e2'
      · exact ⟨c2, c1⟩
    have eb : gh2.b = b := by rw [emb.2] at e2'; exact Option.some.inj e2'
    have hcell : w.cell? ⟨gh2.b, i, none⟩ = some cs[i] := by rw [eb, e3']; simp [hic]
    have a1' := a1
    rw [e1] at a1'
    have hst := a1'.stored i u
    have hgb : gh2.b ∈ gh2.bl := by rw [a8, emb.1]; simp
    have hap : ∀ c, c ≠ gh2.b → (w.setCell ⟨b, i, none⟩ u).heap[c]? = w.heap[c]? := fun c hc => heap_setCell_other w ⟨b, i, none⟩ c u (fun e' => hc (by rw [eb]; exact e'))
    have hother : ∀ c, c < w.heap.size → c ∉ gh2.bl → (w.setCell ⟨b, i, none⟩ u).heap[c]? = w.heap[c]? := fun c _ hcb => hap c fun e => hcb (e ▸ hgb)
    have erows : cs.set i u = gh2.rows := by
      apply List.ext_getElem?
      intro j
      rw [List.getElem?_set]
      by_cases ej : i = j
      · subst ej; rw [if_pos rfl, if_pos hic, hrow]
      · rw [if_neg ej]; exact (a5 j (fun e => ej e.symm)).symm
    refine ⟨undef, w.setCell ⟨b, i, none⟩ u, gs, .inr ⟨?_, rfl⟩, hr.upd hg hs trivial _ trivial hother hst.2.size fun kp => ?_, .any _, ?_⟩
    · have := run_store_cell (P := P) (t := t) (a := ⟨gh2.b, i, none⟩) hcell (by rw [eb]; exact e4) (v := u) (by rw [eu]; rfl) (by rw [eu]; rfl)
      rw [eb] at this hv
      simp only [execOp, hv, hu, Sem.run_bind, this, Result.andThen_ok, Sem.run_pure]
    · refine ⟨gh2.rows, bs, mb, ?_, a4, a3, rfl, fun j z hz => ?_, a7, a8, a9⟩
      · rw [← erows, List.length_set, e1]; exact hst.1
      · obtain ⟨t1, t2, t3⟩ := a6 j z hz
        have hjl := (List.getElem?_eq_some_iff.1 hz).1
        refine ⟨ownsRow_of_block t1 fun c hc => hap c fun ec => ?_, t2, t3⟩
        have hm := mem_row (bs := bs) (by omega) t3 hc
        rw [a8] at a9
        exact (List.nodup_append.1 a9).2.2 gh2.b (by rw [emb.1]; simp) c hm ec.symm
    · have hbb : base ≤ b := by rw [← eb]; exact (hr.hn _ _ _ hg hs (by simp) gh2.b hgb).1
      exact (Below.refl _ _).setCell (p := ⟨b, i, none⟩) hbb _
end

section
variable {P : Program} {env : Env} {os : List AO} {d : Option Tmp} {ty : TypeId} {pos : String} {af : Array Edge} {g : Option (Nat × Bool)} {wl : Bool}
theorem q_idx_pend {t e0 : TypeId} [ht : TSlice P t e0] [he : TCell P e0] {x y : Operand} {h k : Nat} {e e2 : TypeId} {xss : List (List Int)} {i : Int} (hx : AV.ev env x = .own h) (hs : os[h]? = some (.ob (pendOb e e2 xss k))) (hy : AV.ev env y = .i i) (h0 : 0 ≤ i) (h1 : i < xss.length) :
    QOp P wl ⟨d, .indexAddr t x y, ty, pos, af, g⟩ env os (.optr h i.toNat) :=
  .of_run fun _ w gs tm hr => by
    have hh := hr.ev x
    rw [hx] at hh
    generalize hv : Act.eval ⟨tm, []⟩ x = v at hh
    cases hh with
    | @own _ gh hg =>
      refine ⟨_, .optr hg, fun w' _ => ?_⟩
      obtain ⟨cap, e1⟩ : ∃ cap, gh.v = .slice (some ⟨gh.b, 0, none⟩) xss.length cap := by
        obtain ⟨cs, bs, mb, a1, a2, a3, a4, a5, a6, a7, _⟩ := hr.ho _ _ _ hg hs
        obtain ⟨b, cap, e1, e2, _⟩ := own_slice a1 (i := i.toNat) (by omega)
        have : gh.b = b := by
          rcases a7 with ⟨h1, _⟩ | ⟨h1, _⟩
          · rw [h1] at e2; cases e2
          · rw [h1] at e2; cases e2; rfl
        rw [this, ← a2]; exact ⟨cap, e1⟩
      obtain ⟨ie, hi, hs1⟩ := he.info
      have hrun := run_idx ht.und hi hs1 ⟨gh.b, 0, none⟩ xss.length cap i h0 h1 w'
      simp only [execOp, hv, e1, hr.evv hy, Sem.run_bind, hrun, add_none, Nat.zero_add, Result.andThen_ok, Sem.run_pure]
end
section
variable {P : Program} {env : Env} {os : List AO} {d : Tmp} {ty : TypeId} {pos : String} {af : Array Edge} {g : Option (Nat × Bool)} {l rest : List Oper} {K : APost} {q : Md}
theorem w_apporow {t2 e2' : TypeId} {bytes : Nat} [TSlice P t2 e2'] [TElem P e2' (.int .i64 0) bytes] {x y : Operand} {h i k : Nat} {e e2 e3 : TypeId} {xss : List (List Int)} {ys : List Int} (hx : evo env x = some (.orow h i)) (hs : os[h]? = some (.sls e e2 xss)) (he2 : e2 = e2')
    (hy : evo env y = some (.own k)) (hk : os[k]? = some (.sli e3 ys)) (hhk : (h == k) = false) (hi : i < xss.length) (hp : 0 < ys.length) (hb : ((xss.getD i []).length + ys.length) * bytes ≤ 140737488355328)
    (h' : AOps P .seq l rest K (Env.up (env.mp (AV.noRow h)) d (.orow h i)) (((os.map (AO.via (AV.noRow h) h)).set h (.ob (pendOb e e2 (xss.set i (xss.getD i [] ++ ys)) i))).set k .dead)) :
    AOps P .seq l (⟨some d, .call { callee := .builtin .append, args := #[x, y], argTypes := #[t2, t2] }, ty, pos, af, none⟩ :: rest) K env os := AOps.lo (l_append_orow (ev_of hx) hs hi he2 (ev_of hy) hk hhk hp hb) h'
theorem w_idxpend {t e0 : TypeId} [TSlice P t e0] [TCell P e0] {x y : Operand} {h k : Nat} {e e2 : TypeId} {xss : List (List Int)} {i : Int} (hw : wantedA l env ⟨some d, .indexAddr t x y, ty, pos, af, g⟩ = some true) (hx : evo env x = some (.own h)) (hs : os[h]? = some (.ob (pendOb e e2 xss k))) (hy : evo env y = some (.i i)) (h0 : 0 ≤ i) (h1 : i < xss.length)
    (h' : AOps P q l rest K (env.up d (.optr h i.toNat)) os) : AOps P q l (⟨some d, .indexAddr t x y, ty, pos, af, g⟩ :: rest) K env os := AOps.qo hw (q_idx_pend (ev_of hx) hs (ev_of hy) h0 h1) h'
theorem w_stpend {t : TypeId} [TCell P t] {x y : Operand} {h i j : Nat} {e e2 : TypeId} {xss : List (List Int)} (hx : evo env x = some (.optr h j)) (hs : os[h]? = some (.ob (pendOb e e2 xss i))) (hy : evo env y = some (.orow h i)) (hj : j = i) (hi : i < xss.length)
    (h' : AOps P .seq l rest K env (os.set h (.sls e e2 xss))) : AOps P .seq l (⟨none, .store t x y, ty, pos, af, none⟩ :: rest) K env os := AOps.so (l_store_pend (ev_of (by rw [← hj]; exact hx)) hs hi (ev_of hy)) h'
end
end Go.Proofs.Ytlkhcelodcneiaa
/-
  The neighbours of all vertices. Condition: edges of a forest of at most 40 vertices.
-/
namespace Go.Proofs.Ytlkhcelodcneiaa
open Go Go.RowKit
attribute [local irreducible] AWp AOps ResIs Ret1 QOp LOp COp AFnV AFn Imms LeE LeO
set_option maxHeartbeats 1000000
set_option linter.unusedSimpArgs false
set_option linter.unusedVariables false

/-- The neighbours of all vertices, as the edges A tell them. -/
def nbL (n : Nat) (A : List (List Int)) : List (List Int) := (List.range n).map fun (v : Nat) => nearE A (v : Nat)
theorem nbL_len (n : Nat) (A : List (List Int)) : (nbL n A).length = n := by simp [nbL]
theorem nbL_get {n : Nat} {A : List (List Int)} {v : Nat} (h : v < n) : (nbL n A).getD v [] = nearE A (v : Nat) := by
  unfold nbL; rw [List.getD_eq_getElem?_getD, List.getElem?_map, List.getElem?_range h]; rfl
theorem nearE_snoc (A : List (List Int)) (e : List Int) (v : Int) : nearE (A ++ [e]) v = nearE A v ++ ((if geti e 0 = v then [geti e 1] else []) ++ (if geti e 1 = v then [geti e 0] else [])) := by
  unfold nearE; rw [List.flatMap_append]; simp
theorem nearE_len (A : List (List Int)) (v : Int) : (nearE A v).length ≤ 2 * A.length := by
  induction A with
  | nil => simp [nearE]
  | cons e A ih =>
    have : nearE (e :: A) v = ((if geti e 0 = v then [geti e 1] else []) ++ (if geti e 1 = v then [geti e 0] else [])) ++ nearE A v := by simp [nearE]
    rw [this, List.length_append, List.length_append, List.length_cons]
    split <;> split <;> simp <;> omega
theorem nb_step {n : Nat} {A : List (List Int)} {e : List Int} (he : EIn n e) {R1 : List (List Int)} (h1 : R1 = (nbL n A).set (geti e 0).toNat ((nbL n A).getD (geti e 0).toNat [] ++ [geti e 1])) :
    R1.set (geti e 1).toNat (R1.getD (geti e 1).toNat [] ++ [geti e 0]) = nbL n (A ++ [e]) := by
  obtain ⟨a1, a2, a3, a4⟩ := he
  have l0 := nbL_len n A
  have l1 : R1.length = n := by rw [h1, List.length_set]; exact l0
  apply List.ext_getElem?
  intro v
  by_cases hv : v < n
  · have g0 : (nbL n (A ++ [e]))[v]? = some (nearE (A ++ [e]) (v : Nat)) := by
      unfold nbL; rw [List.getElem?_map, List.getElem?_range hv]; rfl
    have g1 : ∀ u : Nat, u < n → R1.getD u [] = if u = (geti e 0).toNat then nearE A (u : Nat) ++ [geti e 1] else nearE A (u : Nat) := by
      intro u hu
      rw [h1, getD_set_if _ _ _ _ (by omega)]
      split
      · subst_vars; rw [nbL_get (by omega)]
      · exact nbL_get hu
    have g2 : (R1.set (geti e 1).toNat (R1.getD (geti e 1).toNat [] ++ [geti e 0]))[v]? = some (if v = (geti e 1).toNat then R1.getD (geti e 1).toNat [] ++ [geti e 0] else R1.getD v []) := by
      rw [List.getElem?_set]
      by_cases ev : (geti e 1).toNat = v
      · subst ev; rw [if_pos rfl, if_pos (by omega), if_pos rfl]
      · rw [if_neg ev, if_neg (fun h => ev h.symm), List.getD_eq_getElem?_getD, List.getElem?_eq_getElem (by omega)]; rfl
    rw [g0, g2, nearE_snoc]
    congr 1
    rw [g1 _ (by omega), g1 _ hv]
    by_cases e1 : v = (geti e 1).toNat
    · subst e1
      rw [if_pos rfl, if_neg (by omega), if_neg (by omega), if_pos (by omega)]; rfl
    · rw [if_neg e1]
      by_cases e0 : v = (geti e 0).toNat
      · subst e0
        rw [if_pos rfl, if_pos (by omega), if_neg (by omega)]; simp
      · rw [if_neg e0, if_neg (by omega), if_neg (by omega)]; simp
  · rw [List.getElem?_eq_none (by rw [List.length_set]; omega), List.getElem?_eq_none (by rw [nbL_len]; omega)]

/-- A forest of at most 40 vertices. -/
structure GrF (W : List Int) (E : List (List Int)) : Prop where
  n : 1 ≤ W.length ∧ W.length ≤ 40
  w : ∀ v : Int, -1000 ≤ geti W v ∧ geti W v ≤ 1000
  fo : FoE W.length E
  e : E.length ≤ 40
theorem GrF.at {W : List Int} {E : List (List Int)} (h : GrF W E) (k : Nat) (hk : k < E.length) : EIn W.length (gets E (k : Nat)) := h.fo.row _ (gets_mem (by omega) (by omega))
/-- All neighbours. -/
def nbs (W : List Int) (E : List (List Int)) : List (List Int) := (List.range W.length).map fun (v : Nat) => nearL E (v : Nat)
theorem nbs_eq {W : List Int} {E : List (List Int)} (h : GrF W E) : nbL W.length E = nbs W E := by
  unfold nbL nbs
  refine List.map_congr_left fun v _ => nearE_eq h.fo.row h.fo.srt _
theorem nbs_get {W : List Int} {E : List (List Int)} {v : Nat} (h : v < W.length) : (nbs W E).getD v [] = nearL E (v : Nat) := by
  unfold nbs; rw [List.getD_eq_getElem?_getD, List.getElem?_map, List.getElem?_range h]; rfl
theorem near_len {W : List Int} {E : List (List Int)} (h : GrF W E) (v : Int) : (nearL E v).length ≤ 40 := by
  have := nd_len (n := W.length) (h.fo.fst.nd v) (fun x hx => (h.fo.fst.bnd v x hx).1)
  have := h.n; omega

set_option maxHeartbeats 8000000 in
theorem neighboursOf_c (W : List Int) (E : List (List Int)) (h : GrF W E) : AFn Try.prog 32 [.agg [.ints W, .intss E]] (IsIntss 22 2 (nbs W E)) := by
  have hn := h.n
  have hE := h.e
  (refine AFn.start Try.func32 Try.ntmps32 rfl (by kernel_rfl) fun hk => ?_; simp only [Env.start, enumF, List.length_cons, List.length_nil, Nat.reduceAdd, Nat.reduceSub, List.cons_append, List.nil_append])
  repeat' (first | (apply AOps.nil; try simp only [List.nil_append, List.cons_append, List.set_cons_zero, List.set_cons_succ, List.length_cons, List.length_nil, Nat.reduceAdd, AV.sh, AV.sh1, AV.sh0, AO.sh, List.map_cons, List.map_nil, Nat.zero_add, Nat.add_zero, setAll]) | (apply w_move; exact rfl; exact rfl) | (apply w_assign; exact rfl; exact rfl) | apply AWp.seq | apply AWp.region | apply AWp.block | (apply w_len; exact rfl; exact rfl; first | exact .ints _ | exact .intss _ | exact .sli rfl | exact .sls rfl | exact .slr rfl | exact .orow rfl | exact .nil) | omega | ((first | apply w_ld | apply w_fa); iterate 3 exact rfl) | ((apply w_boxa); iterate 2 exact rfl) | (apply w_ldb; iterate 5 exact rfl) | (apply w_mkr; exact rfl; exact rfl; rotate_left 3; exact rfl; rotate_left 1))
  have e0 : List.replicate (W.length : Int).toNat ([] : List Int) = nbL W.length (E.take 0) := by
    apply List.ext_getElem (by simp [nbL])
    intro i h1 h2
    simp [nbL, nearE]
  rw [e0]
  refine AWp.loop (ι := Nat) (fun k => ⟨62, [(3, .own 1), (13, .intss E), (14, .i E.length), (15, .i k)]⟩) (fun k => [.bx 29 [.ints W, .intss E], .sls 22 2 (nbL W.length (E.take k))]) (fun k => k ≤ E.length) (fun k => E.length - k) 0 (by omega) ⟨lee rfl (by (repeat (first | exact le_nil | refine le_eq rfl rfl ?_))), by (repeat (first | exact lo_nil | refine lo_eq rfl ?_)), rfl, rfl⟩ ?_
  rintro k k0
  have hl := nbL_len W.length (E.take k)
  by_cases hk : k < E.length
  · obtain ⟨a1, a2, a3, a4⟩ := h.at k hk
    have hst := fun R1 => nb_step (A := E.take k) (R1 := R1) (h.at k hk)
    have et : E.take k ++ [gets E (k : Nat)] = E.take (k + 1) := by rw [List.take_succ_eq_append_getElem hk]; simp [gets, hk]
    rw [et] at hst
    have q0 : ((nbL W.length (E.take k)).getD (geti (gets E (k : Nat)) 0).toNat []).length ≤ 80 := by
      rw [nbL_get (by omega)]
      have := nearE_len (E.take k) (((geti (gets E (k : Nat)) 0).toNat : Nat) : Int)
      rw [List.length_take] at this; omega
    have q1 : ((nbL W.length (E.take k)).getD (geti (gets E (k : Nat)) 1).toNat []).length ≤ 80 := by
      rw [nbL_get (by omega)]
      have := nearE_len (E.take k) (((geti (gets E (k : Nat)) 1).toNat : Nat) : Int)
      rw [List.length_take] at this; omega
    generalize nbL W.length (E.take k) = R at *
    repeat' (first | (apply AOps.nil; try simp only [List.nil_append, List.cons_append, List.set_cons_zero, List.set_cons_succ, List.length_cons, List.length_nil, Nat.reduceAdd, AV.sh, AV.sh1, AV.sh0, AO.sh, List.map_cons, List.map_nil, Nat.zero_add, Nat.add_zero, setAll]) | (apply w_move; exact rfl; exact rfl) | (apply w_assign; exact rfl; exact rfl) | apply AWp.seq | apply AWp.region | ((apply AWp.condP; exact rfl) <;> intro h) | apply AWp.block | apply AWp.exit | apply AWp.skip | (apply w_len; exact rfl; exact rfl; first | exact .ints _ | exact .intss _ | exact .sli rfl | exact .sls rfl | exact .slr rfl | exact .orow rfl | exact .nil) | omega | ((first | apply w_lss | apply w_idx | apply w_ld); iterate 3 exact rfl) | ((first | apply w_idxs | apply w_lds); iterate 3 exact rfl))
    generalize gets E (k : Nat) = e at *
    obtain ⟨R1, eR1⟩ : ∃ R1, R1 = R.set (geti e 0).toNat (R.getD (geti e 0).toNat [] ++ [geti e 1]) := ⟨_, rfl⟩
    have hR1 := hst R1 eR1
    have l1 : R1.length = W.length := by rw [eR1, List.length_set]; exact hl
    have q2 : (R1.getD (geti e 1).toNat []).length ≤ 81 := by
      rw [eR1, getD_set_if _ _ _ _ (by omega)]
      split
      · rw [List.length_append, List.length_singleton]; omega
      · omega
    have b0 : ((R.getD (geti e 0).toNat []).length + [geti e 1].length) * 8 ≤ 140737488355328 := by rw [List.length_singleton]; omega
    have b1 : ((R1.getD (geti e 1).toNat []).length + [geti e 0].length) * 8 ≤ 140737488355328 := by rw [List.length_singleton]; omega
    refine AWp.regionG [] (by kernel_rfl) (envC := ⟨62, [(3, .own 1), (5, .ints e), (13, .intss E), (14, .i E.length), (15, .i k)]⟩) (osC := [.bx 29 [.ints W, .intss E], .sls 22 2 R1]) rfl rfl ?_ ?_
    · rw [eR1]
      repeat' (first | (apply AOps.nil; try simp only [List.nil_append, List.cons_append, List.set_cons_zero, List.set_cons_succ, List.length_cons, List.length_nil, Nat.reduceAdd, AV.sh, AV.sh1, AV.sh0, AO.sh, List.map_cons, List.map_nil, Nat.zero_add, Nat.add_zero, setAll]) | (apply w_move; exact rfl; exact rfl) | (apply w_apporow; exact rfl; exact rfl; exact rfl; exact rfl; exact rfl; exact rfl; rotate_left 3; simp only [Env.mp, List.map_cons, List.map_nil, List.set_cons_zero, List.set_cons_succ, AV.kill, AV.kill1, AO.kill, AV.noRow, AV.noRow1, AO.via, reduceIte, Nat.reduceEqDiff, Nat.reduceLT, Env.up, Nat.zero_ne_one, Nat.one_ne_zero, Nat.reduceAdd, List.cons_append, List.nil_append]; rotate_left 3) | (apply w_idxpend; iterate 4 exact rfl) | (apply w_stpend; exact rfl; exact rfl; exact rfl; exact rfl; rotate_left 1; simp only [Env.mp, List.map_cons, List.map_nil, List.set_cons_zero, List.set_cons_succ, AV.kill, AV.kill1, AO.kill, AV.noRow, AV.noRow1, AO.via, reduceIte, Nat.reduceEqDiff, Nat.reduceLT, Env.up, Nat.zero_ne_one, Nat.one_ne_zero, Nat.reduceAdd, List.cons_append, List.nil_append]; rotate_left 1) | apply AllOfG.nil | (apply AllOfG.consQ; exact rfl; exact rfl) | (apply AllOfG.consS; exact rfl; exact rfl) | (apply AAnyG.takeW; exact rfl; exact rfl; kernel_rfl; kernel_rfl) | (apply AAnyG.takeL; exact rfl; exact rfl; kernel_rfl) | (apply AAnyG.all; exact rfl) | (apply AAnyG.done; exact rfl) | omega | ((first | apply w_idx | apply w_ld); iterate 3 exact rfl) | ((apply w_bs1); iterate 2 exact rfl) | (apply w_idxo; exact rfl; exact rfl; (exact .sls rfl); exact rfl) | (apply w_ldls; iterate 4 exact rfl) | (apply inI_of <;> omega) | (simp <;> omega))
      all_goals (apply Or.inl; refine ⟨lee rfl ?_, ?_, rfl, rfl⟩; (focus ((repeat (first | exact le_nil | refine le_eq rfl rfl ?_)); done)); (focus ((repeat (first | exact lo_nil | refine lo_eq rfl ?_)); done)))
    clear eR1 hst
    repeat' (apply AOps.nil; try simp only [List.nil_append, List.cons_append, List.set_cons_zero, List.set_cons_succ, List.length_cons, List.length_nil, Nat.reduceAdd, AV.sh, AV.sh1, AV.sh0, AO.sh, List.map_cons, List.map_nil, Nat.zero_add, Nat.add_zero, setAll])
    refine AWp.regionG [] (by kernel_rfl) (envC := ⟨62, [(3, .own 1), (13, .intss E), (14, .i E.length), (15, .i k)]⟩) (osC := [.bx 29 [.ints W, .intss E], .sls 22 2 (R1.set (geti e 1).toNat (R1.getD (geti e 1).toNat [] ++ [geti e 0]))]) rfl rfl ?_ ?_
    · repeat' (first | (apply AOps.nil; try simp only [List.nil_append, List.cons_append, List.set_cons_zero, List.set_cons_succ, List.length_cons, List.length_nil, Nat.reduceAdd, AV.sh, AV.sh1, AV.sh0, AO.sh, List.map_cons, List.map_nil, Nat.zero_add, Nat.add_zero, setAll]) | (apply w_move; exact rfl; exact rfl) | (apply w_apporow; exact rfl; exact rfl; exact rfl; exact rfl; exact rfl; exact rfl; rotate_left 3; simp only [Env.mp, List.map_cons, List.map_nil, List.set_cons_zero, List.set_cons_succ, AV.kill, AV.kill1, AO.kill, AV.noRow, AV.noRow1, AO.via, reduceIte, Nat.reduceEqDiff, Nat.reduceLT, Env.up, Nat.zero_ne_one, Nat.one_ne_zero, Nat.reduceAdd, List.cons_append, List.nil_append]; rotate_left 3) | (apply w_idxpend; iterate 4 exact rfl) | (apply w_stpend; exact rfl; exact rfl; exact rfl; exact rfl; rotate_left 1; simp only [Env.mp, List.map_cons, List.map_nil, List.set_cons_zero, List.set_cons_succ, AV.kill, AV.kill1, AO.kill, AV.noRow, AV.noRow1, AO.via, reduceIte, Nat.reduceEqDiff, Nat.reduceLT, Env.up, Nat.zero_ne_one, Nat.one_ne_zero, Nat.reduceAdd, List.cons_append, List.nil_append]; rotate_left 1) | apply AllOfG.nil | (apply AllOfG.consQ; exact rfl; exact rfl) | (apply AllOfG.consS; exact rfl; exact rfl) | (apply AAnyG.takeW; exact rfl; exact rfl; kernel_rfl; kernel_rfl) | (apply AAnyG.takeL; exact rfl; exact rfl; kernel_rfl) | (apply AAnyG.all; exact rfl) | (apply AAnyG.done; exact rfl) | omega | ((first | apply w_idx | apply w_ld); iterate 3 exact rfl) | ((apply w_bs1); iterate 2 exact rfl) | (apply w_idxo; exact rfl; exact rfl; (exact .sls rfl); exact rfl) | (apply w_ldls; iterate 4 exact rfl) | (apply inI_of <;> omega) | (simp <;> omega))
      all_goals (apply Or.inl; refine ⟨lee rfl ?_, ?_, rfl, rfl⟩; (focus ((repeat (first | exact le_nil | refine le_eq rfl rfl ?_)); done)); (focus ((repeat (first | exact lo_nil | refine lo_eq rfl ?_)); done)))
    repeat' (first | (apply AOps.nil; try simp only [List.nil_append, List.cons_append, List.set_cons_zero, List.set_cons_succ, List.length_cons, List.length_nil, Nat.reduceAdd, AV.sh, AV.sh1, AV.sh0, AO.sh, List.map_cons, List.map_nil, Nat.zero_add, Nat.add_zero, setAll]) | (apply w_move; exact rfl; exact rfl) | apply AWp.region | ((apply w_add); iterate 3 exact rfl) | (apply inI_of <;> omega))
    exact ⟨k + 1, by omega, by omega, ⟨lee rfl (by (repeat (first | exact le_nil | refine le_eq rfl rfl ?_))), by (repeat (first | exact lo_nil | refine lo_eq rfl ?_ | refine lo_eq (congrArg (AO.sls _ _) (hR1)) ?_)), rfl, rfl⟩⟩
  · have ek : k = E.length := by omega
    subst ek
    rw [List.take_length, nbs_eq h]
    rw [List.take_length, nbs_eq h] at hl
    have hs : ∀ v : Nat, v < W.length → AFnU Try.prog 48 [.ints ((nbs W E).getD (v : Int).toNat [])] [] (fun v os => v = .tuple #[] ∧ os = []) := fun v hv => by
      rw [Int.toNat_natCast, nbs_get hv]
      exact sort_s _ (srt_of (h.fo.fst.srt _)) (by have := near_len h (v : Nat); omega)
    generalize nbs W E = R at *
    repeat' (first | (apply AOps.nil; try simp only [List.nil_append, List.cons_append, List.set_cons_zero, List.set_cons_succ, List.length_cons, List.length_nil, Nat.reduceAdd, AV.sh, AV.sh1, AV.sh0, AO.sh, List.map_cons, List.map_nil, Nat.zero_add, Nat.add_zero, setAll]) | (apply w_move; exact rfl; exact rfl) | apply AWp.seq | apply AWp.region | ((apply AWp.condP; exact rfl) <;> intro h) | apply AWp.block | apply AWp.exit | apply AWp.skip | (apply w_len; exact rfl; exact rfl; first | exact .ints _ | exact .intss _ | exact .sli rfl | exact .sls rfl | exact .slr rfl | exact .orow rfl | exact .nil) | omega | ((apply w_lss); iterate 3 exact rfl))
    refine AWp.loop (ι := Nat) (fun v => ⟨62, [(3, .own 1), (52, .own 1), (53, .i W.length), (54, .i v)]⟩) (fun v => [.bx 29 [.ints W, .intss E], .sls 22 2 R]) (fun v => v ≤ W.length) (fun v => W.length - v) 0 (by omega) ⟨lee rfl (by (repeat (first | exact le_nil | refine le_eq rfl rfl ?_ | refine le_eq rfl (congrArg AV.i (by omega)) ?_))), by (repeat (first | exact lo_nil | refine lo_eq rfl ?_)), rfl, rfl⟩ ?_
    rintro v v0
    by_cases hv : v < W.length
    · have hsv := hs v hv
      repeat' (first | (apply AOps.nil; try simp only [List.nil_append, List.cons_append, List.set_cons_zero, List.set_cons_succ, List.length_cons, List.length_nil, Nat.reduceAdd, AV.sh, AV.sh1, AV.sh0, AO.sh, List.map_cons, List.map_nil, Nat.zero_add, Nat.add_zero, setAll]) | (apply w_move; exact rfl; exact rfl) | (apply w_assign; exact rfl; exact rfl) | apply AWp.seq | apply AWp.region | ((apply AWp.condP; exact rfl) <;> intro h) | apply AWp.block | apply AWp.ret | apply AWp.exit | apply AWp.skip | (apply w_callu [] (hsv); (exact handed0); (focus ((repeat (first | exact imu_nil | refine imu_cons rfl (.orow rfl (by decide)) ?_)); done)); rintro v os0 ⟨rfl, rfl⟩; try simp only [List.nil_append, List.cons_append, List.set_cons_zero, List.set_cons_succ, List.length_cons, List.length_nil, Nat.reduceAdd, AV.sh, AV.sh1, AV.sh0, AO.sh, List.map_cons, List.map_nil, Nat.zero_add, Nat.add_zero, setAll]) | omega | ((first | apply w_lss | apply w_add | apply w_idx | apply w_ld); iterate 3 exact rfl) | (apply w_idxo; exact rfl; exact rfl; (exact .sls rfl); exact rfl) | (apply w_ldls; iterate 4 exact rfl) | (apply inI_of <;> omega))
      exact ⟨v + 1, by omega, by omega, ⟨lee rfl (by (repeat (first | exact le_nil | refine le_eq rfl rfl ?_))), by (repeat (first | exact lo_nil | refine lo_eq rfl ?_)), rfl, rfl⟩⟩
    · repeat' (first | (apply AOps.nil; try simp only [List.nil_append, List.cons_append, List.set_cons_zero, List.set_cons_succ, List.length_cons, List.length_nil, Nat.reduceAdd, AV.sh, AV.sh1, AV.sh0, AO.sh, List.map_cons, List.map_nil, Nat.zero_add, Nat.add_zero, setAll]) | (apply w_move; exact rfl; exact rfl) | (apply w_assign; exact rfl; exact rfl) | apply AWp.seq | apply AWp.region | ((apply AWp.condP; exact rfl) <;> intro h) | apply AWp.block | apply AWp.ret | apply AWp.exit | apply AWp.skip | omega | ((apply w_lss); iterate 3 exact rfl))
      exact ⟨_, _, _, .v1 Try.results32 rfl, .sls rfl, rfl, rfl⟩
end Go.Proofs.Ytlkhcelodcneiaa
/-
  The graph of some vertices, built step by step. No condition.
-/
namespace Go.Proofs.Ytlkhcelodcneiaa
open Go Go.RowKit

def bF (bs : List Bool) (i : Nat) : Bool := bs.getD i false
def swL (W : List Int) (B : Nat → Bool) (i : Nat) : List Int := (kpL i B).map fun j => geti W (j : Nat)
def seL (E : List (List Int)) (B : Nat → Bool) (k : Nat) : List (List Int) := ((E.take k).filter (eB B)).map (eM B)
def nmB (B : Nat → Bool) (i : Nat) : List Int := (List.range i).map fun j => (rkB B j : Int)
def atL (n : Nat) (B : Nat → Bool) (i : Nat) : List Int := (List.range n).map fun j => if j < i ∧ B j = true then (rkB B j : Int) else 0
theorem sw_len (W : List Int) (B : Nat → Bool) (i : Nat) : (swL W B i).length = rkB B i := by simp [swL, rkB]
theorem rk_le (B : Nat → Bool) (i : Nat) : rkB B i ≤ i := by
  unfold rkB kpL
  exact Nat.le_trans (List.length_filter_le _ _) (by rw [List.length_range]; exact Nat.le_refl _)
theorem sw_t {W : List Int} {B : Nat → Bool} {i : Nat} (h : B i = true) : swL W B i ++ [geti W (i : Nat)] = swL W B (i + 1) := by
  unfold swL
  rw [kp_succ, if_pos h, List.map_append]; rfl
theorem sw_f {W : List Int} {B : Nat → Bool} {i : Nat} (h : B i = false) : swL W B (i + 1) = swL W B i := by
  unfold swL
  rw [kp_succ, if_neg (by rw [h]; simp), List.append_nil]
theorem se_t {E : List (List Int)} {B : Nat → Bool} {k : Nat} (hk : k < E.length) (h : eB B (gets E (k : Nat)) = true) : seL E B k ++ [eM B (gets E (k : Nat))] = seL E B (k + 1) := by
  have e : E[k] = gets E (k : Nat) := by simp [gets, hk]
  unfold seL
  rw [List.take_succ_eq_append_getElem hk, List.filter_append, List.map_append, e, List.filter_cons_of_pos h]; rfl
theorem se_f {E : List (List Int)} {B : Nat → Bool} {k : Nat} (hk : k < E.length) (h : ¬ eB B (gets E (k : Nat)) = true) : seL E B (k + 1) = seL E B k := by
  have e : E[k] = gets E (k : Nat) := by simp [gets, hk]
  unfold seL
  rw [List.take_succ_eq_append_getElem hk, List.filter_append, List.map_append, e, List.filter_cons_of_neg h]
  simp
theorem se_all (E : List (List Int)) (B : Nat → Bool) : seL E B E.length = subE E B := by unfold seL subE; rw [List.take_length]
theorem se_len (E : List (List Int)) (B : Nat → Bool) (k : Nat) : (seL E B k).length ≤ E.length := by
  unfold seL
  rw [List.length_map]
  exact Nat.le_trans (List.length_filter_le _ _) (by rw [List.length_take]; omega)
theorem nm_succ (B : Nat → Bool) (i : Nat) : nmB B i ++ [(rkB B i : Int)] = nmB B (i + 1) := by
  unfold nmB; rw [List.range_succ, List.map_append]; rfl
theorem nm_len (B : Nat → Bool) (i : Nat) : (nmB B i).length = i := by simp [nmB]
theorem nm_get {B : Nat → Bool} {n : Nat} {x : Int} (h0 : 0 ≤ x) (h1 : x < n) : geti (nmB B n) x = rkB B x.toNat := by
  have : x.toNat < n := by omega
  simp [nmB, geti, this]
theorem at_len (n : Nat) (B : Nat → Bool) (i : Nat) : (atL n B i).length = n := by simp [atL]
theorem at_0 (n : Nat) (B : Nat → Bool) : atL n B 0 = List.replicate n 0 := by
  apply List.ext_getElem (by simp [atL])
  intro i h1 h2
  simp [atL]
theorem at_t {n : Nat} {B : Nat → Bool} {i : Nat} (h : B i = true) : (atL n B i).set i (rkB B i) = atL n B (i + 1) := by
  apply List.ext_getElem (by simp [atL])
  intro j h1 h2
  have hj : j < n := by simpa [atL] using h2
  rw [List.getElem_set]
  simp only [atL, List.getElem_map, List.getElem_range]
  by_cases c : i = j
  · subst c
    rw [if_pos rfl, if_pos ⟨by omega, h⟩]
  · rw [if_neg c]
    by_cases d : j < i ∧ B j = true
    · rw [if_pos d, if_pos ⟨by omega, d.2⟩]
    · rw [if_neg d, if_neg fun e => d ⟨by omega, e.2⟩]
theorem at_f {n : Nat} {B : Nat → Bool} {i : Nat} (h : B i = false) : atL n B (i + 1) = atL n B i := by
  unfold atL
  refine List.map_congr_left fun j _ => ?_
  by_cases d : j < i ∧ B j = true
  · rw [if_pos d, if_pos ⟨by omega, d.2⟩]
  · rw [if_neg d, if_neg]
    rintro ⟨h1, h2⟩
    have : j ≠ i := fun e => by rw [e, h] at h2; cases h2
    exact d ⟨by omega, h2⟩
theorem at_get {n : Nat} {B : Nat → Bool} {x : Int} (h0 : 0 ≤ x) (h1 : x < n) (h : B x.toNat = true) : geti (atL n B n) x = rkB B x.toNat := by
  have : x.toNat < n := by omega
  simp [atL, geti, this, h]
/-- The graph of some vertices is a graph for the determinants. -/
theorem sub_gr {W : List Int} {E : List (List Int)} (B : Nat → Bool) (h : GrF W E) (h0 : 0 < (subW W B).length) : GrF (subW W B) (subE E B) where
  n := by
    have := h.n
    have := rk_le B W.length
    rw [subW_len] at h0 ⊢
    omega
  w v := by
    unfold geti
    rw [List.getD_eq_getElem?_getD]
    cases hx : (subW W B)[v.toNat]? with
    | none => simp
    | some x =>
      obtain ⟨j, _, rfl⟩ := List.mem_map.1 (List.mem_of_getElem? hx)
      exact h.w _
  fo := sub_fo B h.fo
  e := by
    have := se_len E B E.length
    rw [se_all] at this
    have := h.e
    omega
theorem subW_eq (W : List Int) (B : Nat → Bool) : swL W B W.length = subW W B := rfl
end Go.Proofs.Ytlkhcelodcneiaa
/-
  A search in depth finds the determinants of branches. No condition.
-/
namespace Go.Proofs.Ytlkhcelodcneiaa
open Go Go.RowKit

def WS.sn (s : WS) (x : Int) : Bool := s.s.getD x.toNat false
def WS.mark (s : WS) (v : Int) : WS := { s with s := s.s.set v.toNat true }
def WS.put (s : WS) (v p r : Int) : WS := { s with f := s.f.set v.toNat r, g := s.g.set v.toNat p }
def WS.big (s : WS) : WS := { s with l := true }
def WS.cnt (s : WS) : Nat := (s.s.filter fun b => !b).length
/-- The branches of a vertex, one after the other. -/
def lpF (vis : Int → WS → WS) : List Int → WS → Int → Int → WS × Int × Int
  | [], s, p, r => (s, p, r)
  | c :: cs, s, p, r =>
    if s.sn c = true then lpF vis cs s p r
    else if okS p r (geti (vis c s).f c) (geti (vis c s).g c) = true then lpF vis cs (vis c s) (p * geti (vis c s).f c) (r * geti (vis c s).f c - p * geti (vis c s).g c)
    else lpF vis cs (vis c s).big 0 0
def visF (W : List Int) (near : Int → List Int) : Nat → Int → WS → WS
  | 0, _, s => s
  | k + 1, v, s =>
    let t := lpF (visF W near k) (near v) (s.mark v) 1 (-geti W v)
    t.1.put v t.2.1 t.2.2

structure WOk (n : Nat) (s : WS) : Prop where
  lf : s.f.length = n
  lg : s.g.length = n
  ls : s.s.length = n
  bf : ∀ x ∈ s.f, inM x
  bg : ∀ x ∈ s.g, inM x
/-- Nothing that has been seen is forgotten. -/
structure WLe (s t : WS) : Prop where
  sn : ∀ x : Int, s.sn x = true → t.sn x = true
  cnt : t.cnt ≤ s.cnt
  l : s.l = true → t.l = true
theorem WLe.refl (s : WS) : WLe s s := ⟨fun _ h => h, Nat.le_refl _, fun h => h⟩
theorem WLe.trans {a b c : WS} (h1 : WLe a b) (h2 : WLe b c) : WLe a c := ⟨fun x h => h2.sn x (h1.sn x h), Nat.le_trans h2.cnt h1.cnt, fun h => h2.l (h1.l h)⟩
theorem sn_mark {n : Nat} {s : WS} (h : s.s.length = n) {v : Int} (hv : 0 ≤ v ∧ v < n) {x : Int} (hx : 0 ≤ x) : (s.mark v).sn x = if x = v then true else s.sn x := by
  unfold WS.mark WS.sn
  simp only [List.getD_eq_getElem?_getD, List.getElem?_set]
  by_cases e : x = v
  · subst e; rw [if_pos rfl, if_pos (by omega), if_pos rfl]; rfl
  · rw [if_neg (by omega), if_neg e]
theorem cnt_set : ∀ (l : List Bool) (i : Nat), i < l.length → l.getD i false = false → ((l.set i true).filter fun b => !b).length + 1 = (l.filter fun b => !b).length
  | [], i, h, _ => by simp at h
  | b :: l, 0, _, h => by
    have : b = false := h
    subst this
    simp
  | b :: l, i + 1, h, h2 => by
    have ih := cnt_set l i (by simpa using h) h2
    rw [List.set_cons_succ]
    cases b <;> simp <;> omega
theorem cnt_mark {n : Nat} {s : WS} (h : s.s.length = n) {v : Int} (hv : 0 ≤ v ∧ v < n) (hn : s.sn v = false) : (s.mark v).cnt + 1 = s.cnt :=
  cnt_set s.s v.toNat (by omega) hn
theorem cnt_pos {n : Nat} {s : WS} (h : s.s.length = n) {v : Int} (hv : 0 ≤ v ∧ v < n) (hn : s.sn v = false) : 1 ≤ s.cnt := by
  have := cnt_mark h hv hn; omega
theorem le_mark {n : Nat} {s : WS} (h : s.s.length = n) {v : Int} (hv : 0 ≤ v ∧ v < n) (hn : s.sn v = false) : WLe s (s.mark v) := by
  refine ⟨fun x hx => ?_, by have := cnt_mark h hv hn; omega, fun h => h⟩
  unfold WS.mark WS.sn at *
  simp only [List.getD_eq_getElem?_getD, List.getElem?_set] at *
  by_cases e : v.toNat = x.toNat
  · rw [if_pos e, if_pos (by omega)]; rfl
  · rw [if_neg e]; exact hx
theorem ok_mark {n : Nat} {s : WS} (h : WOk n s) (v : Int) : WOk n (s.mark v) := ⟨h.lf, h.lg, by simp [WS.mark, h.ls], h.bf, h.bg⟩
theorem ok_put {n : Nat} {s : WS} (h : WOk n s) (v : Int) {p r : Int} (hp : inM p) (hr : inM r) : WOk n (s.put v p r) := by
  refine ⟨by simp [WS.put, h.lf], by simp [WS.put, h.lg], h.ls, fun x hx => ?_, fun x hx => ?_⟩
  · rcases List.mem_or_eq_of_mem_set hx with hx | rfl
    · exact h.bf x hx
    · exact hr
  · rcases List.mem_or_eq_of_mem_set hx with hx | rfl
    · exact h.bg x hx
    · exact hp
theorem okS_in {p r f g : Int} (h : okS p r f g = true) : inM (p * f) ∧ inM (r * f - p * g) := by
  unfold okS at h
  simp only [Bool.and_eq_true, decide_eq_true_eq] at h
  exact ⟨tok_in h.1.2, h.2⟩
theorem inM0 : inM 0 := by unfold inM; omega

/-- The loop keeps what each visit keeps. -/
theorem lpF_ok {n : Nat} {vis : Int → WS → WS} (m : Nat) (hv : ∀ (c : Int) s, WOk n s → s.cnt ≤ m → 0 ≤ c ∧ c < n → s.sn c = false → WOk n (vis c s) ∧ WLe s (vis c s)) :
    ∀ (cs : List Int) (s : WS) (p r : Int), (∀ c ∈ cs, 0 ≤ c ∧ c < n) → WOk n s → s.cnt ≤ m → inM p → inM r →
      WOk n (lpF vis cs s p r).1 ∧ WLe s (lpF vis cs s p r).1 ∧ inM (lpF vis cs s p r).2.1 ∧ inM (lpF vis cs s p r).2.2
  | [], s, p, r, _, h, _, hp, hr => ⟨h, WLe.refl s, hp, hr⟩
  | c :: cs, s, p, r, hc, h, hm, hp, hr => by
    have hcs : ∀ c ∈ cs, 0 ≤ c ∧ c < n := fun x hx => hc x (by simp [hx])
    rw [lpF]
    by_cases h1 : s.sn c = true
    · rw [if_pos h1]; exact lpF_ok m hv cs s p r hcs h hm hp hr
    · rw [if_neg h1]
      obtain ⟨a1, a2⟩ := hv c s h hm (hc c (by simp)) (by simpa using h1)
      have a3 : (vis c s).cnt ≤ m := Nat.le_trans a2.cnt hm
      by_cases h2 : okS p r (geti (vis c s).f c) (geti (vis c s).g c) = true
      · rw [if_pos h2]
        obtain ⟨b1, b2, b3, b4⟩ := lpF_ok m hv cs (vis c s) _ _ hcs a1 a3 (okS_in h2).1 (okS_in h2).2
        exact ⟨b1, a2.trans b2, b3, b4⟩
      · rw [if_neg h2]
        obtain ⟨b1, b2, b3, b4⟩ := lpF_ok m hv cs (vis c s).big 0 0 hcs ⟨a1.lf, a1.lg, a1.ls, a1.bf, a1.bg⟩ a3 inM0 inM0
        exact ⟨b1, a2.trans ((show WLe (vis c s) (vis c s).big from ⟨fun _ h => h, Nat.le_refl _, fun _ => rfl⟩).trans b2), b3, b4⟩
theorem visF_ok {n : Nat} {W : List Int} {near : Int → List Int} (hW : ∀ v : Int, -1000 ≤ geti W v ∧ geti W v ≤ 1000) (hF : Fst n near) : ∀ (k : Nat) (v : Int) (s : WS), WOk n s → s.cnt ≤ k → 0 ≤ v ∧ v < n → s.sn v = false → WOk n (visF W near k v s) ∧ WLe s (visF W near k v s)
  | 0, v, s, h, hk, hv, hn => by have := cnt_pos h.ls hv hn; omega
  | k + 1, v, s, h, hk, hv, hn => by
    have hw := hW v
    have hm := cnt_mark h.ls hv hn
    obtain ⟨b1, b2, b3, b4⟩ := lpF_ok k (fun c t ht hc h1 h2 => visF_ok hW hF k c t ht hc h1 h2) (near v) (s.mark v) 1 (-geti W v) (fun c hc => (hF.bnd v c hc).1) (ok_mark h v) (by omega) (by unfold inM; omega) (by unfold inM; omega)
    exact ⟨ok_put b1 v b3 b4, (le_mark h.ls hv hn).trans (b2.trans ⟨fun _ h => h, Nat.le_refl _, fun h => h⟩)⟩

section
variable {n : Nat} {near : Int → List Int} {r : Int} {o p W : List Int}
/-- What a visit of v has done. -/
structure Done (n : Nat) (near : Int → List Int) (W : List Int) (r : Int) (o p : List Int) (D : Int → Prop) (s t : WS) : Prop where
  sn : ∀ x : Int, 0 ≤ x → (t.sn x = true ↔ s.sn x = true ∨ D x)
  fr : ∀ x : Int, 0 ≤ x → ¬ D x → geti t.f x = geti s.f x ∧ geti t.g x = geti s.g x
  vl : ∀ x : Int, D x → ∀ a b, FG n near W p x = some (a, b) → geti t.f x = b ∧ geti t.g x = a

/-- The visits of the children dn of v, after v was marked. -/
structure LpI (n : Nat) (near : Int → List Int) (W : List Int) (r : Int) (o p : List Int) (v : Int) (s : WS) (dn : List Int) (t : WS) (a b : Int) : Prop where
  sn : ∀ x : Int, 0 ≤ x → (t.sn x = true ↔ s.sn x = true ∨ x = v ∨ ∃ c ∈ dn, c ≠ geti p v ∧ Dsc r o p c x)
  fr : ∀ x : Int, 0 ≤ x → (¬ ∃ c ∈ dn, c ≠ geti p v ∧ Dsc r o p c x) → geti t.f x = geti s.f x ∧ geti t.g x = geti s.g x
  vl : ∀ x : Int, (∃ c ∈ dn, c ≠ geti p v ∧ Dsc r o p c x) → ∀ a b, FG n near W p x = some (a, b) → geti t.f x = b ∧ geti t.g x = a
  lg : t.l = true ↔ s.l = true ∨ (∃ x, (∃ c ∈ dn, c ≠ geti p v ∧ Dsc r o p c x) ∧ FG n near W p x = none) ∨ fO (FG n near W p) (dn.filter fun u => decide (u ≠ geti p v)) (1, -geti W v) = none
  pr : ∀ x y, fO (FG n near W p) (dn.filter fun u => decide (u ≠ geti p v)) (1, -geti W v) = some (x, y) → a = x ∧ b = y
  ok : WOk n t
  le : WLe (s.mark v) t
  ia : inM a
  ib : inM b

theorem lp_run (hF : Fst n near) (hW : ∀ v : Int, -1000 ≤ geti W v ∧ geti W v ≤ 1000) (h : Tr n near r o p) {v : Int} (hv : v ∈ o) {k : Nat} {s : WS} (hs : ∀ x, Dsc r o p v x → s.sn x = false) (hp : v ≠ r → s.sn (geti p v) = true) (hk : (s.mark v).cnt ≤ k)
    (hvis : ∀ c ∈ chl near p v, ∀ t : WS, WOk n t → t.cnt ≤ k → (∀ x, Dsc r o p c x → t.sn x = false) → t.sn v = true →
      Done n near W r o p (Dsc r o p c) t (visF W near k c t) ∧ ((visF W near k c t).l = true ↔ t.l = true ∨ ∃ x, Dsc r o p c x ∧ FG n near W p x = none)) :
    ∀ (rest dn : List Int) (t : WS) (a b : Int), near v = dn ++ rest → LpI n near W r o p v s dn t a b →
      LpI n near W r o p v s (near v) (lpF (visF W near k) rest t a b).1 (lpF (visF W near k) rest t a b).2.1 (lpF (visF W near k) rest t a b).2.2
  | [], dn, t, a, b, e, hI => by rw [List.append_nil] at e; rw [e]; exact hI
  | c :: rest, dn, t, a, b, e, hI => by
    have e' : near v = (dn ++ [c]) ++ rest := by rw [e]; simp
    have hcn : c ∈ near v := by rw [e]; simp
    obtain ⟨⟨c0, c1⟩, ⟨v0, v1⟩, hcv⟩ := hF.bnd v c hcn
    have hnd := hF.nd v
    rw [e] at hnd
    have hcd : c ∉ dn := fun hx => (List.nodup_append.1 hnd).2.2 c hx c (by simp) rfl
    have hdn : ∀ x ∈ dn, x ∈ near v := fun x hx => by rw [e]; simp [hx]
    rw [lpF]
    by_cases hup : c = geti p v
    · have hvr : v ≠ r := fun hh => by rw [hh, h.pr] at hup; omega
      have hseen : t.sn c = true := (hI.sn c c0).2 (.inl (by rw [hup]; exact hp hvr))
      rw [if_pos hseen]
      have hex : ∀ x, (∃ d ∈ dn ++ [c], d ≠ geti p v ∧ Dsc r o p d x) ↔ (∃ d ∈ dn, d ≠ geti p v ∧ Dsc r o p d x) := fun x => by
        constructor
        · rintro ⟨d, hd, h1, h2⟩
          rcases List.mem_append.1 hd with hd | hd
          · exact ⟨d, hd, h1, h2⟩
          · exact absurd ((List.mem_singleton.1 hd).trans hup) h1
        · rintro ⟨d, hd, h1, h2⟩; exact ⟨d, by simp [hd], h1, h2⟩
      have hfl : ((dn ++ [c]).filter fun u => decide (u ≠ geti p v)) = dn.filter fun u => decide (u ≠ geti p v) := by
        rw [List.filter_append, List.filter_cons_of_neg (by simpa using hup)]; simp
      refine lp_run hF hW h hv hs hp hk hvis rest _ t a b e' ⟨fun x hx => ?_, fun x hx hn => ?_, fun x hx => ?_, ?_, ?_, hI.ok, hI.le, hI.ia, hI.ib⟩
      · rw [hI.sn x hx, hex]
      · exact hI.fr x hx fun hh => hn ((hex x).2 hh)
      · exact hI.vl x ((hex x).1 hx)
      · rw [hI.lg, hfl]; simp only [hex]
      · rw [hfl]; exact hI.pr
    · have hc : c ∈ chl near p v := List.mem_filter.2 ⟨hcn, decide_eq_true hup⟩
      obtain ⟨_, _, c3, c4, c5⟩ := chl_mem h hv hc
      have hfree : ∀ x, Dsc r o p c x → t.sn x = false := by
        intro x hx
        have hx0 := h.rng x hx.mem
        cases hh : t.sn x with
        | false => rfl
        | true =>
          rcases (hI.sn x hx0.1).1 hh with h1 | h1 | ⟨d, hd, h1, h2⟩
          · rw [hs x (Dsc.child h hv hc hx)] at h1; cases h1
          · subst h1; exact absurd hx (Dsc.notup h hv hc)
          · have hd' : d ∈ chl near p v := List.mem_filter.2 ⟨hdn d hd, decide_eq_true h1⟩
            exact absurd (Dsc.disj h hv hd' hc h2 hx ▸ hd) hcd
      have hns : ¬ t.sn c = true := by rw [hfree c (.refl c3)]; simp
      rw [if_neg hns]
      have htk : t.cnt ≤ k := Nat.le_trans hI.le.cnt hk
      have htv : t.sn v = true := (hI.sn v v0).2 (.inr (.inl rfl))
      obtain ⟨D, hl⟩ := hvis c hc t hI.ok htk hfree htv
      obtain ⟨o1, o2⟩ := visF_ok hW hF k c t hI.ok htk ⟨c0, c1⟩ (hfree c (.refl c3))
      generalize visF W near k c t = u at *
      have hex : ∀ x, (∃ d ∈ dn ++ [c], d ≠ geti p v ∧ Dsc r o p d x) ↔ (∃ d ∈ dn, d ≠ geti p v ∧ Dsc r o p d x) ∨ Dsc r o p c x := fun x => by
        constructor
        · rintro ⟨d, hd, h1, h2⟩
          rcases List.mem_append.1 hd with hd | hd
          · exact .inl ⟨d, hd, h1, h2⟩
          · rw [List.mem_singleton.1 hd] at h2; exact .inr h2
        · rintro (⟨d, hd, h1, h2⟩ | h2)
          · exact ⟨d, by simp [hd], h1, h2⟩
          · exact ⟨c, by simp, hup, h2⟩
      have hfl : ((dn ++ [c]).filter fun u => decide (u ≠ geti p v)) = (dn.filter fun u => decide (u ≠ geti p v)) ++ [c] := by
        rw [List.filter_append, List.filter_cons_of_pos (by simpa using hup)]; simp
      have hdj : ∀ x, (∃ d ∈ dn, d ≠ geti p v ∧ Dsc r o p d x) → ¬ Dsc r o p c x := by
        rintro x ⟨d, hd, h1, h2⟩ hx
        exact hcd (Dsc.disj h hv (List.mem_filter.2 ⟨hdn d hd, decide_eq_true h1⟩) hc h2 hx ▸ hd)
      have snx : ∀ x : Int, 0 ≤ x → (u.sn x = true ↔ s.sn x = true ∨ x = v ∨ ∃ d ∈ dn ++ [c], d ≠ geti p v ∧ Dsc r o p d x) := fun x hx => by
        rw [D.sn x hx, hI.sn x hx, hex]
        constructor
        · rintro ((h1 | h1 | h1) | h1)
          · exact .inl h1
          · exact .inr (.inl h1)
          · exact .inr (.inr (.inl h1))
          · exact .inr (.inr (.inr h1))
        · rintro (h1 | h1 | h1 | h1)
          · exact .inl (.inl h1)
          · exact .inl (.inr (.inl h1))
          · exact .inl (.inr (.inr h1))
          · exact .inr h1
      have frx : ∀ x : Int, 0 ≤ x → (¬ ∃ d ∈ dn ++ [c], d ≠ geti p v ∧ Dsc r o p d x) → geti u.f x = geti s.f x ∧ geti u.g x = geti s.g x := fun x hx hn => by
        rw [hex] at hn
        have h1 := D.fr x hx fun hh => hn (.inr hh)
        have h2 := hI.fr x hx fun hh => hn (.inl hh)
        exact ⟨h1.1.trans h2.1, h1.2.trans h2.2⟩
      have vlx : ∀ x : Int, (∃ d ∈ dn ++ [c], d ≠ geti p v ∧ Dsc r o p d x) → ∀ a b, FG n near W p x = some (a, b) → geti u.f x = b ∧ geti u.g x = a := fun x hx a b hab => by
        rw [hex] at hx
        rcases hx with hx | hx
        · have h0 : 0 ≤ x := by obtain ⟨d, _, _, h2⟩ := hx; exact (h.rng x h2.mem).1
          have h1 := D.fr x h0 (hdj x hx)
          have h2 := hI.vl x hx a b hab
          exact ⟨h1.1.trans h2.1, h1.2.trans h2.2⟩
        · exact D.vl x hx a b hab
      have lgx : u.l = true ↔ s.l = true ∨ (∃ x, (∃ d ∈ dn ++ [c], d ≠ geti p v ∧ Dsc r o p d x) ∧ FG n near W p x = none) ∨ fO (FG n near W p) (dn.filter fun u => decide (u ≠ geti p v)) (1, -geti W v) = none := by
        rw [hl, hI.lg]
        simp only [hex]
        constructor
        · rintro ((h1 | ⟨x, h1, h2⟩ | h1) | ⟨x, h1, h2⟩)
          · exact .inl h1
          · exact .inr (.inl ⟨x, .inl h1, h2⟩)
          · exact .inr (.inr h1)
          · exact .inr (.inl ⟨x, .inr h1, h2⟩)
        · rintro (h1 | ⟨x, h1 | h1, h2⟩ | h1)
          · exact .inl (.inl h1)
          · exact .inl (.inr (.inl ⟨x, h1, h2⟩))
          · exact .inr ⟨x, h1, h2⟩
          · exact .inl (.inr (.inr h1))
      have fox := fO_app (FG n near W p) (dn.filter fun u => decide (u ≠ geti p v)) [c] (1, -geti W v)
      rw [← hfl] at fox
      by_cases hok : okS a b (geti u.f c) (geti u.g c) = true
      · rw [if_pos hok]
        refine lp_run hF hW h hv hs hp hk hvis rest _ u _ _ e' ⟨snx, frx, vlx, ?_, ?_, o1, hI.le.trans o2, (okS_in hok).1, (okS_in hok).2⟩
        · rw [lgx, fox]
          constructor
          · rintro (h1 | h1 | h1)
            · exact .inl h1
            · exact .inr (.inl h1)
            · exact .inr (.inr (by rw [h1]; rfl))
          · rintro (h1 | h1 | h1)
            · exact .inl h1
            · exact .inr (.inl h1)
            · cases hd : fO (FG n near W p) (dn.filter fun u => decide (u ≠ geti p v)) (1, -geti W v) with
              | none => exact .inr (.inr rfl)
              | some xy =>
                obtain ⟨x, y⟩ := xy
                rw [hd] at h1
                cases hfc : FG n near W p c with
                | none => exact .inr (.inl ⟨c, (hex c).2 (.inr (.refl c3)), hfc⟩)
                | some gf =>
                  obtain ⟨g, f⟩ := gf
                  obtain ⟨q1, q2⟩ := D.vl c (.refl c3) g f hfc
                  obtain ⟨q3, q4⟩ := hI.pr x y hd
                  subst q1 q2 q3 q4
                  simp only [Option.bind_some, fO, hfc, if_pos hok] at h1
                  cases h1
        · intro x y hxy
          rw [fox] at hxy
          cases hd : fO (FG n near W p) (dn.filter fun u => decide (u ≠ geti p v)) (1, -geti W v) with
          | none => rw [hd] at hxy; cases hxy
          | some xy =>
            obtain ⟨x', y'⟩ := xy
            rw [hd] at hxy
            obtain ⟨q3, q4⟩ := hI.pr x' y' hd
            cases hfc : FG n near W p c with
            | none => simp only [Option.bind_some, fO, hfc] at hxy; cases hxy
            | some gf =>
              obtain ⟨g, f⟩ := gf
              obtain ⟨q1, q2⟩ := D.vl c (.refl c3) g f hfc
              subst q1 q2 q3 q4
              simp only [Option.bind_some, fO, hfc, if_pos hok] at hxy
              simpa using hxy
      · rw [if_neg hok]
        have hnone : u.l = true ∨ fO (FG n near W p) ((dn ++ [c]).filter fun u => decide (u ≠ geti p v)) (1, -geti W v) = none := by
          rw [fox]
          cases hd : fO (FG n near W p) (dn.filter fun u => decide (u ≠ geti p v)) (1, -geti W v) with
          | none => exact .inr rfl
          | some xy =>
            obtain ⟨x', y'⟩ := xy
            obtain ⟨q3, q4⟩ := hI.pr x' y' hd
            cases hfc : FG n near W p c with
            | none => right; simp only [Option.bind_some, fO, hfc]
            | some gf =>
              obtain ⟨g, f⟩ := gf
              obtain ⟨q1, q2⟩ := D.vl c (.refl c3) g f hfc
              subst q1 q2 q3 q4
              right
              simp only [Option.bind_some, fO, hfc, if_neg hok]
        have hbn : ∀ x y, fO (FG n near W p) ((dn ++ [c]).filter fun u => decide (u ≠ geti p v)) (1, -geti W v) = some (x, y) → (0 : Int) = x ∧ (0 : Int) = y := by
          intro x y hxy
          exfalso
          rw [fox] at hxy
          cases hd : fO (FG n near W p) (dn.filter fun u => decide (u ≠ geti p v)) (1, -geti W v) with
          | none => rw [hd] at hxy; cases hxy
          | some xy =>
            obtain ⟨x', y'⟩ := xy
            rw [hd] at hxy
            obtain ⟨q3, q4⟩ := hI.pr x' y' hd
            cases hfc : FG n near W p c with
            | none => simp only [Option.bind_some, fO, hfc] at hxy; cases hxy
            | some gf =>
              obtain ⟨g, f⟩ := gf
              obtain ⟨q1, q2⟩ := D.vl c (.refl c3) g f hfc
              subst q1 q2 q3 q4
              simp only [Option.bind_some, fO, hfc, if_neg hok] at hxy
              cases hxy
        refine lp_run hF hW h hv hs hp hk hvis rest _ u.big 0 0 e' ⟨snx, frx, vlx, ?_, hbn, ⟨o1.lf, o1.lg, o1.ls, o1.bf, o1.bg⟩, hI.le.trans (o2.trans ⟨fun _ h => h, Nat.le_refl _, fun _ => rfl⟩), inM0, inM0⟩
        refine ⟨fun _ => ?_, fun _ => rfl⟩
        rcases hnone with h1 | h1
        · rcases lgx.1 h1 with h2 | h2 | h2
          · exact .inl h2
          · exact .inr (.inl h2)
          · exact .inr (.inr (by rw [fox, h2]; rfl))
        · exact .inr (.inr h1)
end
end Go.Proofs.Ytlkhcelodcneiaa
/-
  All trees of a forest, one after the other. No condition.
-/
namespace Go.Proofs.Ytlkhcelodcneiaa
open Go Go.RowKit

theorem geti_st' {p : List Int} {u v x : Int} {n : Nat} (hu : 0 ≤ u ∧ u < n) (hx : 0 ≤ x) (hl : p.length = n) : geti (p.set u.toNat v) x = if x = u then v else geti p x :=
  geti_st hu.1 hx (by rw [hl]; exact hu.2)
section
variable {n : Nat} {near : Int → List Int} {r : Int} {o p W : List Int}
theorem vis_run (hF : Fst n near) (hW : ∀ v : Int, -1000 ≤ geti W v ∧ geti W v ≤ 1000) (h : Tr n near r o p) {rk : Int → Nat} (k1 : ∀ x ∈ o, rk x < n) (k2 : ∀ x ∈ o, x ≠ r → geti p x ∈ o ∧ rk (geti p x) < rk x ∧ x ∈ near (geti p x)) :
    ∀ (m : Nat) (v : Int) (s : WS) (k : Nat), v ∈ o → n ≤ m + rk v → WOk n s → s.cnt ≤ k → (∀ x, Dsc r o p v x → s.sn x = false) → (v ≠ r → s.sn (geti p v) = true) →
      Done n near W r o p (Dsc r o p v) s (visF W near k v s) ∧ ((visF W near k v s).l = true ↔ s.l = true ∨ ∃ x, Dsc r o p v x ∧ FG n near W p x = none)
  | 0, v, s, k, hv, hm, _, _, _, _ => by have := k1 v hv; omega
  | m + 1, v, s, 0, hv, hm, hok, hk, hs, _ => by
    have := cnt_pos hok.ls (h.rng v hv) (hs v (.refl hv)); omega
  | m + 1, v, s, k + 1, hv, hm, hok, hk, hs, hp => by
    have hvr := h.rng v hv
    have hvn := hs v (.refl hv)
    have hcm := cnt_mark hok.ls hvr hvn
    have hw := hW v
    have hvis : ∀ c ∈ chl near p v, ∀ t : WS, WOk n t → t.cnt ≤ k → (∀ x, Dsc r o p c x → t.sn x = false) → t.sn v = true →
        Done n near W r o p (Dsc r o p c) t (visF W near k c t) ∧ ((visF W near k c t).l = true ↔ t.l = true ∨ ∃ x, Dsc r o p c x ∧ FG n near W p x = none) := by
      intro c hc t ht htk hfr htv
      obtain ⟨_, _, c3, c4, c5⟩ := chl_mem h hv hc
      have hr := (k2 c c3 c4).2.1
      rw [c5] at hr
      exact vis_run hF hW h k1 k2 m c t k c3 (by omega) ht htk hfr fun _ => by rw [c5]; exact htv
    have hsn0 : ∀ x : Int, 0 ≤ x → ((s.mark v).sn x = true ↔ s.sn x = true ∨ x = v ∨ ∃ c ∈ ([] : List Int), c ≠ geti p v ∧ Dsc r o p c x) := fun x hx => by
      rw [sn_mark hok.ls hvr hx]
      by_cases e : x = v
      · simp [e]
      · simp [e]
    have hI := lp_run hF hW h hv hs hp (k := k) (by omega) hvis (near v) [] (s.mark v) 1 (-geti W v) rfl
      ⟨hsn0, fun x _ _ => ⟨rfl, rfl⟩, fun x hx => (by obtain ⟨c, hc, _⟩ := hx; cases hc), (by simp [fO, WS.mark]), fun x y hxy => (by simp [fO] at hxy; exact ⟨hxy.1, hxy.2⟩), ok_mark hok v, WLe.refl _, (by unfold inM; omega), (by unfold inM; omega)⟩
    have ech : ((near v).filter fun u => decide (u ≠ geti p v)) = chl near p v := rfl
    have hfg := FG_eq (W := W) h hv
    show Done n near W r o p (Dsc r o p v) s ((lpF (visF W near k) (near v) (s.mark v) 1 (-geti W v)).1.put v (lpF (visF W near k) (near v) (s.mark v) 1 (-geti W v)).2.1 (lpF (visF W near k) (near v) (s.mark v) 1 (-geti W v)).2.2) ∧ ((lpF (visF W near k) (near v) (s.mark v) 1 (-geti W v)).1.l = true ↔ _)
    generalize lpF (visF W near k) (near v) (s.mark v) 1 (-geti W v) = T at *
    obtain ⟨t, a, b⟩ := T
    dsimp only at hI ⊢
    have hex : ∀ x, (∃ c ∈ near v, c ≠ geti p v ∧ Dsc r o p c x) ↔ ∃ c ∈ chl near p v, Dsc r o p c x := fun x => by
      constructor
      · rintro ⟨c, hc, h1, h2⟩; exact ⟨c, List.mem_filter.2 ⟨hc, decide_eq_true h1⟩, h2⟩
      · rintro ⟨c, hc, h2⟩
        obtain ⟨h3, h4⟩ := List.mem_filter.1 hc
        exact ⟨c, h3, of_decide_eq_true h4, h2⟩
    have hd : ∀ x, Dsc r o p v x ↔ x = v ∨ ∃ c ∈ near v, c ≠ geti p v ∧ Dsc r o p c x := fun x => by
      rw [hex]
      constructor
      · exact Dsc.cases h
      · rintro (rfl | ⟨c, hc, h2⟩)
        · exact .refl hv
        · exact Dsc.child h hv hc h2
    have hne : ∀ x, (∃ c ∈ near v, c ≠ geti p v ∧ Dsc r o p c x) → x ≠ v := fun x hx e => by
      subst e
      obtain ⟨c, hc, h2⟩ := (hex x).1 hx
      exact Dsc.notup h hv hc h2
    have pf : ∀ x : Int, 0 ≤ x → geti (t.put v a b).f x = (if x = v then b else geti t.f x) ∧ geti (t.put v a b).g x = (if x = v then a else geti t.g x) := fun x hx =>
      ⟨geti_st' hvr hx hI.ok.lf, geti_st' hvr hx hI.ok.lg⟩
    refine ⟨⟨fun x hx => ?_, fun x hx hn => ?_, fun x hx a' b' hab => ?_⟩, ?_⟩
    · show t.sn x = true ↔ _
      rw [hI.sn x hx, hd]
    · rw [hd] at hn
      obtain ⟨q1, q2⟩ := pf x hx
      rw [q1, q2, if_neg fun e => hn (.inl e), if_neg fun e => hn (.inl e)]
      exact hI.fr x hx fun hh => hn (.inr hh)
    · have hx0 := (h.rng x hx.mem).1
      obtain ⟨q1, q2⟩ := pf x hx0
      rcases (hd x).1 hx with e | hx
      · subst e
        rw [q1, q2, if_pos rfl, if_pos rfl]
        rw [hfg] at hab
        obtain ⟨q3, q4⟩ := hI.pr a' b' hab
        exact ⟨q4, q3⟩
      · rw [q1, q2, if_neg (hne x hx), if_neg (hne x hx)]
        exact hI.vl x hx a' b' hab
    · rw [hI.lg, ech, ← hfg]
      constructor
      · rintro (h1 | ⟨x, h1, h2⟩ | h1)
        · exact .inl h1
        · exact .inr ⟨x, (hd x).2 (.inr h1), h2⟩
        · exact .inr ⟨v, .refl hv, h1⟩
      · rintro (h1 | ⟨x, h1, h2⟩)
        · exact .inl h1
        · rcases (hd x).1 h1 with e | h1
          · subst e; exact .inr (.inr h2)
          · exact .inr (.inl ⟨x, h1, h2⟩)
end

/-! ### All roots -/
noncomputable def trC (n : Nat) (near : Int → List Int) (r : Int) : List Int × List Int :=
  open Classical in if h : ∃ q : List Int × List Int, Tr n near r q.1 q.2 then h.choose else ([], [])
theorem trC_ok {n : Nat} {near : Int → List Int} {r : Int} (hF : Fst n near) (hr : 0 ≤ r ∧ r < n) : Tr n near r (trC n near r).1 (trC n near r).2 := by
  obtain ⟨o, p, h⟩ := tree_ex hF hr
  have he : ∃ q : List Int × List Int, Tr n near r q.1 q.2 := ⟨(o, p), h⟩
  unfold trC
  rw [dif_pos he]
  exact he.choose_spec
/-- The roots among the first i vertices. -/
noncomputable def rts (n : Nat) (near : Int → List Int) : Nat → List Int
  | 0 => []
  | i + 1 => open Classical in if ∃ r ∈ rts n near i, (i : Int) ∈ (trC n near r).1 then rts n near i else rts n near i ++ [(i : Int)]
theorem rts_rng (n : Nat) (near : Int → List Int) : ∀ i, ∀ r ∈ rts n near i, 0 ≤ r ∧ r < i
  | 0, r, h => by cases h
  | i + 1, r, h => by
    rw [rts] at h
    split at h
    · have := rts_rng n near i r h; omega
    · rcases List.mem_append.1 h with h | h
      · have := rts_rng n near i r h; omega
      · rw [List.mem_singleton.1 h]; omega
theorem rts_len (n : Nat) (near : Int → List Int) : ∀ i, (rts n near i).length ≤ i
  | 0 => Nat.le_refl _
  | i + 1 => by
    have := rts_len n near i
    rw [rts]; split
    · omega
    · simp; omega
theorem rts_cov {n : Nat} {near : Int → List Int} (hF : Fst n near) : ∀ i, i ≤ n → ∀ x : Int, 0 ≤ x → x < i → ∃ r ∈ rts n near i, x ∈ (trC n near r).1
  | 0, _, x, h0, h1 => by omega
  | i + 1, hi, x, h0, h1 => by
    rw [rts]
    by_cases hx : x < i
    · obtain ⟨r, hr, hm⟩ := rts_cov hF i (by omega) x h0 hx
      split
      · exact ⟨r, hr, hm⟩
      · exact ⟨r, by simp [hr], hm⟩
    · have e : x = i := by omega
      subst e
      split
      · assumption
      · exact ⟨(i : Int), by simp, (trC_ok hF (r := (i : Int)) ⟨by omega, by omega⟩).rt⟩
theorem rts_dis {n : Nat} {near : Int → List Int} (hF : Fst n near) : ∀ i, i ≤ n → (rts n near i).Pairwise fun r r' => ∀ x, x ∈ (trC n near r).1 → x ∉ (trC n near r').1
  | 0, _ => List.Pairwise.nil
  | i + 1, hi => by
    have ih := rts_dis hF i (by omega)
    rw [rts]; split
    · exact ih
    · rename_i hn
      rw [List.pairwise_append]
      refine ⟨ih, by simp, fun r hr r' hr' x hx hx' => ?_⟩
      rw [List.mem_singleton.1 hr'] at hx'
      have h1 := rts_rng n near i r hr
      exact Tr.disj (trC_ok hF ⟨h1.1, by omega⟩) (trC_ok hF (r := (i : Int)) ⟨by omega, by omega⟩) hF (fun hh => hn ⟨r, hr, hh⟩) x hx' hx
theorem rts_uniq {n : Nat} {near : Int → List Int} (hF : Fst n near) {r r' : Int} (hr : r ∈ rts n near n) (hr' : r' ∈ rts n near n) {x : Int} (hx : x ∈ (trC n near r).1) (hx' : x ∈ (trC n near r').1) : r = r' := by
  have hd := rts_dis hF n (Nat.le_refl _)
  apply Classical.byContradiction
  intro hne
  have key : ∀ l : List Int, (l.Pairwise fun r r' => ∀ x, x ∈ (trC n near r).1 → x ∉ (trC n near r').1) → r ∈ l → r' ∈ l → False := by
    intro l
    induction l with
    | nil => intro _ h _; cases h
    | cons a l ih =>
      intro hp h1 h2
      obtain ⟨p1, p2⟩ := List.pairwise_cons.1 hp
      rcases List.mem_cons.1 h1 with e1 | g1
      · rcases List.mem_cons.1 h2 with e2 | g2
        · exact hne (e1.trans e2.symm)
        · exact p1 r' g2 x (e1 ▸ hx) hx'
      · rcases List.mem_cons.1 h2 with e2 | g2
        · exact p1 r g1 x (e2 ▸ hx') hx
        · exact ih p2 g1 g2
  exact key _ hd hr hr'

/-! ### What all branches have -/
/-- No number is too large. -/
def bdOk (n : Nat) (near : Int → List Int) (W : List Int) : Prop := ∀ r ∈ rts n near n, ∀ x ∈ (trC n near r).1, FG n near W (trC n near r).2 x ≠ none
noncomputable def rootOf (n : Nat) (near : Int → List Int) (x : Int) : Int := open Classical in if h : ∃ r, r ∈ rts n near n ∧ x ∈ (trC n near r).1 then h.choose else 0
theorem rootOf_ok {n : Nat} {near : Int → List Int} (hF : Fst n near) {x : Int} (hx : 0 ≤ x ∧ x < n) : rootOf n near x ∈ rts n near n ∧ x ∈ (trC n near (rootOf n near x)).1 := by
  obtain ⟨r, h1, h2⟩ := rts_cov hF n (Nat.le_refl _) x hx.1 hx.2
  have he : ∃ r, r ∈ rts n near n ∧ x ∈ (trC n near r).1 := ⟨r, h1, h2⟩
  unfold rootOf
  rw [dif_pos he]
  exact he.choose_spec
noncomputable def bdV (n : Nat) (near : Int → List Int) (W : List Int) (x : Int) : Option (Int × Int) := FG n near W (trC n near (rootOf n near x)).2 x
theorem bdV_eq {n : Nat} {near : Int → List Int} {W : List Int} (hF : Fst n near) {r x : Int} (hr : r ∈ rts n near n) (hx : x ∈ (trC n near r).1) : bdV n near W x = FG n near W (trC n near r).2 x := by
  have h1 := rts_rng n near n r hr
  have h2 := (trC_ok hF h1).rng x hx
  obtain ⟨h3, h4⟩ := rootOf_ok hF h2
  have := rts_uniq hF h3 hr h4 hx
  unfold bdV
  rw [this]
noncomputable def bdF (n : Nat) (near : Int → List Int) (W : List Int) : List Int := (List.range n).map fun (x : Nat) => ((bdV n near W (x : Nat)).getD (0, 0)).2
noncomputable def bdG (n : Nat) (near : Int → List Int) (W : List Int) : List Int := (List.range n).map fun (x : Nat) => ((bdV n near W (x : Nat)).getD (0, 0)).1
theorem list_eq {n : Nat} {l : List Int} {F : Int → Int} (hl : l.length = n) (h : ∀ x : Int, 0 ≤ x → x < n → geti l x = F x) : l = (List.range n).map fun (x : Nat) => F (x : Nat) := by
  apply List.ext_getElem (by simp [hl])
  intro i h1 h2
  have := h (i : Nat) (by omega) (by omega)
  simp [geti, List.getD_eq_getElem?_getD, List.getElem?_eq_getElem h1] at this
  simp [this]

/-! ### The program's run -/
def WS.init (n : Nat) : WS := ⟨List.replicate n 0, List.replicate n 0, List.replicate n false, false⟩
def brF (n : Nat) (near : Int → List Int) (W : List Int) : Nat → WS × List Int
  | 0 => (WS.init n, [])
  | i + 1 => if (brF n near W i).1.sn (i : Nat) = true then brF n near W i else (visF W near n (i : Nat) (brF n near W i).1, (brF n near W i).2 ++ [(i : Int)])
structure BrI (n : Nat) (near : Int → List Int) (W : List Int) (i : Nat) (s : WS) (rs : List Int) : Prop where
  rs : rs = rts n near i
  sn : ∀ x : Int, 0 ≤ x → (s.sn x = true ↔ ∃ r ∈ rts n near i, x ∈ (trC n near r).1)
  vl : ∀ r ∈ rts n near i, ∀ x ∈ (trC n near r).1, ∀ a b, FG n near W (trC n near r).2 x = some (a, b) → geti s.f x = b ∧ geti s.g x = a
  lg : s.l = true ↔ ∃ r ∈ rts n near i, ∃ x ∈ (trC n near r).1, FG n near W (trC n near r).2 x = none
  ok : WOk n s
  cnt : s.cnt ≤ n
theorem br_init (n : Nat) (near : Int → List Int) (W : List Int) : BrI n near W 0 (WS.init n) [] := by
  refine ⟨rfl, fun x hx => ?_, fun r hr => (by cases hr), ?_, ⟨(by simp [WS.init]), (by simp [WS.init]), (by simp [WS.init]), fun x hx => ?_, fun x hx => ?_⟩, ?_⟩
  · simp only [WS.sn, WS.init, rts, List.getD_eq_getElem?_getD, List.getElem?_replicate]
    split <;> simp
  · simp [WS.init, rts]
  · simp [WS.init] at hx; rw [hx.2]; exact inM0
  · simp [WS.init] at hx; rw [hx.2]; exact inM0
  · simp [WS.cnt, WS.init]
theorem br_run {n : Nat} {near : Int → List Int} {W : List Int} (hF : Fst n near) (hW : ∀ v : Int, -1000 ≤ geti W v ∧ geti W v ≤ 1000) : ∀ i, i ≤ n → BrI n near W i (brF n near W i).1 (brF n near W i).2
  | 0, _ => br_init n near W
  | i + 1, hi => by
    have ih := br_run hF hW i (by omega)
    have hsi := ih.sn (i : Nat) (by omega)
    rw [brF]
    by_cases hs : (brF n near W i).1.sn (i : Nat) = true
    · rw [if_pos hs]
      have er : rts n near (i + 1) = rts n near i := by rw [rts, if_pos (hsi.1 hs)]
      exact ⟨by rw [er]; exact ih.rs, by rw [er]; exact ih.sn, by rw [er]; exact ih.vl, by rw [er]; exact ih.lg, ih.ok, ih.cnt⟩
    · rw [if_neg hs]
      have hno : ¬ ∃ r ∈ rts n near i, (i : Int) ∈ (trC n near r).1 := fun hh => hs (hsi.2 hh)
      have er : rts n near (i + 1) = rts n near i ++ [(i : Int)] := by rw [rts, if_neg hno]
      have hT := trC_ok hF (r := (i : Int)) ⟨by omega, by omega⟩
      have hfree : ∀ x, Dsc (i : Int) (trC n near (i : Nat)).1 (trC n near (i : Nat)).2 (i : Nat) x → (brF n near W i).1.sn x = false := by
        intro x hx
        have hx0 := (hT.rng x hx.mem).1
        cases hh : (brF n near W i).1.sn x with
        | false => rfl
        | true =>
          obtain ⟨r, hr, hxr⟩ := (ih.sn x hx0).1 hh
          have h1 := rts_rng n near i r hr
          exact absurd hxr (Tr.disj (trC_ok hF ⟨h1.1, by omega⟩) hT hF (fun h2 => hno ⟨r, hr, h2⟩) x hx.mem)
      obtain ⟨k, k1, k2⟩ := hT.rank
      obtain ⟨D, hl⟩ := vis_run hF hW hT k1 k2 n (i : Nat) (brF n near W i).1 n hT.rt (by omega) ih.ok ih.cnt hfree (fun h => absurd rfl h)
      obtain ⟨o1, o2⟩ := visF_ok hW hF n (i : Nat) (brF n near W i).1 ih.ok ih.cnt ⟨by omega, by omega⟩ (by simpa using hs)
      have hall : ∀ x, Dsc (i : Int) (trC n near (i : Nat)).1 (trC n near (i : Nat)).2 (i : Nat) x ↔ x ∈ (trC n near (i : Nat)).1 := fun x => ⟨Dsc.mem, Dsc.all hT⟩
      refine ⟨by rw [er, ih.rs], fun x hx => ?_, fun r hr x hx a b hab => ?_, ?_, o1, Nat.le_trans o2.cnt ih.cnt⟩
      · rw [D.sn x hx, ih.sn x hx, hall, er]
        simp only [List.mem_append, List.mem_singleton]
        constructor
        · rintro (⟨r, h1, h2⟩ | h1)
          · exact ⟨r, .inl h1, h2⟩
          · exact ⟨_, .inr rfl, h1⟩
        · rintro ⟨r, h1 | h1, h2⟩
          · exact .inl ⟨r, h1, h2⟩
          · rw [h1] at h2; exact .inr h2
      · rw [er] at hr
        rcases List.mem_append.1 hr with hr | hr
        · have h1 := rts_rng n near i r hr
          have hxT := trC_ok hF (r := r) ⟨h1.1, by omega⟩
          have hnd : ¬ Dsc (i : Int) (trC n near (i : Nat)).1 (trC n near (i : Nat)).2 (i : Nat) x := fun hh =>
            Tr.disj hxT hT hF (fun h2 => hno ⟨r, hr, h2⟩) x hh.mem hx
          obtain ⟨q1, q2⟩ := D.fr x (hxT.rng x hx).1 hnd
          obtain ⟨q3, q4⟩ := ih.vl r hr x hx a b hab
          exact ⟨q1.trans q3, q2.trans q4⟩
        · rw [List.mem_singleton.1 hr] at hx hab
          exact D.vl x ((hall x).2 hx) a b hab
      · rw [hl, ih.lg, er]
        simp only [List.mem_append, List.mem_singleton, hall]
        constructor
        · rintro (⟨r, h1, h2⟩ | h1)
          · exact ⟨r, .inl h1, h2⟩
          · exact ⟨_, .inr rfl, h1⟩
        · rintro ⟨r, h1 | h1, h2⟩
          · exact .inl ⟨r, h1, h2⟩
          · rw [h1] at h2; exact .inr h2
/-- What the program's run leaves. -/
theorem br_end {n : Nat} {near : Int → List Int} {W : List Int} (hF : Fst n near) (hW : ∀ v : Int, -1000 ≤ geti W v ∧ geti W v ≤ 1000) :
    (brF n near W n).2 = rts n near n ∧ ((brF n near W n).1.l = true ↔ ¬ bdOk n near W) ∧ (bdOk n near W → (brF n near W n).1.f = bdF n near W ∧ (brF n near W n).1.g = bdG n near W) := by
  have h := br_run hF hW n (Nat.le_refl _)
  refine ⟨h.rs, ?_, fun hok => ⟨?_, ?_⟩⟩
  · rw [h.lg]
    unfold bdOk
    constructor
    · rintro ⟨r, hr, x, hx, hn⟩ hh
      exact hh r hr x hx hn
    · intro hn
      apply Classical.byContradiction
      intro h2
      exact hn fun r hr x hx h3 => h2 ⟨r, hr, x, hx, h3⟩
  · refine list_eq (F := fun x => ((bdV n near W x).getD (0, 0)).2) h.ok.lf fun x h0 h1 => ?_
    obtain ⟨h3, h4⟩ := rootOf_ok hF ⟨h0, h1⟩
    rw [bdV_eq hF h3 h4]
    cases hc : FG n near W (trC n near (rootOf n near x)).2 x with
    | none => exact absurd hc (hok _ h3 x h4)
    | some ab => exact (h.vl _ h3 x h4 ab.1 ab.2 hc).1
  · refine list_eq (F := fun x => ((bdV n near W x).getD (0, 0)).1) h.ok.lg fun x h0 h1 => ?_
    obtain ⟨h3, h4⟩ := rootOf_ok hF ⟨h0, h1⟩
    rw [bdV_eq hF h3 h4]
    cases hc : FG n near W (trC n near (rootOf n near x)).2 x with
    | none => exact absurd hc (hok _ h3 x h4)
    | some ab => exact (h.vl _ h3 x h4 ab.1 ab.2 hc).2
end Go.Proofs.Ytlkhcelodcneiaa
/-
  Numbers of components: the first vertex of a number is a root. No condition.
-/
namespace Go.Proofs.Ytlkhcelodcneiaa
open Go Go.RowKit
section
variable {n : Nat} {near : Int → List Int}

def setT (L o : List Int) (m : Int) : List Int := o.foldl (fun L x => L.set x.toNat m) L
theorem setT_snoc (L o : List Int) (x m : Int) : setT L (o ++ [x]) m = (setT L o m).set x.toNat m := by simp [setT]
theorem setT_len (m : Int) : ∀ (o L : List Int), (setT L o m).length = L.length
  | [], _ => rfl
  | x :: o, L => by
    show (setT (L.set x.toNat m) o m).length = _
    rw [setT_len m o, List.length_set]
theorem setT_get (m : Int) : ∀ (o L : List Int), (∀ x ∈ o, 0 ≤ x ∧ x < L.length) → ∀ y : Int, 0 ≤ y → geti (setT L o m) y = if y ∈ o then m else geti L y
  | [], L, _, y, _ => by simp [setT]
  | x :: o, L, h, y, hy => by
    show geti (setT (L.set x.toNat m) o m) y = _
    rw [setT_get m o _ (fun z hz => by rw [List.length_set]; exact h z (by simp [hz])) y hy]
    have hx := h x (by simp)
    by_cases h1 : y ∈ o
    · rw [if_pos h1, if_pos (by simp [h1])]
    · rw [if_neg h1, geti_st hx.1 hy hx.2]
      by_cases e : y = x
      · rw [if_pos e, if_pos (by simp [e])]
      · rw [if_neg e, if_neg (by simp [e, h1])]
/-- What the numbers of the vertices say after i vertices. -/
structure LbI (n : Nat) (near : Int → List Int) (i : Nat) (L : List Int) (m : Int) : Prop where
  len : L.length = n
  num : m = (rts n near i).length
  cov : ∀ x : Int, 0 ≤ x → x < n → (0 ≤ geti L x ↔ ∃ r ∈ rts n near i, x ∈ (trC n near r).1)
  lt : ∀ x : Int, 0 ≤ x → x < n → geti L x < m ∨ m = 0
  lo : ∀ x : Int, 0 ≤ x → x < n → -1 ≤ geti L x ∧ geti L x < n
  same : ∀ x y : Int, 0 ≤ x → x < n → 0 ≤ y → y < n → 0 ≤ geti L x → 0 ≤ geti L y → (geti L x = geti L y ↔ ∃ r ∈ rts n near i, x ∈ (trC n near r).1 ∧ y ∈ (trC n near r).1)
theorem rep_get {x : Int} (h0 : 0 ≤ x) (h1 : x < n) : geti (List.replicate n (-1)) x = -1 := by
  have : x.toNat < n := by omega
  simp [geti, List.getD_eq_getElem?_getD, this]
theorem LbI.start (hn : 0 < n) : LbI n near 0 (List.replicate n (-1)) 0 := by
  refine ⟨by simp, by simp [rts], fun x h0 h1 => ?_, fun x h0 h1 => .inr rfl, fun x h0 h1 => ?_, fun x y h0 h1 h2 h3 h4 => ?_⟩
  · rw [rep_get h0 h1]; simp [rts]
  · rw [rep_get h0 h1]; omega
  · rw [rep_get h0 h1] at h4; omega
theorem LbI.skip {i : Nat} {L : List Int} {m : Int} (h : LbI n near i L m) (hi : i < n) (hc : 0 ≤ geti L (i : Nat)) : LbI n near (i + 1) L m := by
  have hr := (h.cov (i : Nat) (by omega) (by omega)).1 hc
  have er : rts n near (i + 1) = rts n near i := by rw [rts, if_pos hr]
  exact ⟨h.len, by rw [er]; exact h.num, by rw [er]; exact h.cov, h.lt, h.lo, by rw [er]; exact h.same⟩
theorem LbI.new (hF : Fst n near) {i : Nat} {L o p : List Int} {m : Int} (h : LbI n near i L m) (hi : i < n) (hc : ¬ 0 ≤ geti L (i : Nat)) (ht : Tr n near (i : Nat) o p) : LbI n near (i + 1) (setT L o m) (m + 1) ∧ m < n := by
  have hno : ¬ ∃ r ∈ rts n near i, (i : Int) ∈ (trC n near r).1 := fun hh => hc ((h.cov (i : Nat) (by omega) (by omega)).2 hh)
  have er : rts n near (i + 1) = rts n near i ++ [(i : Int)] := by rw [rts, if_neg hno]
  have hT := trC_ok hF (r := (i : Nat)) ⟨by omega, by omega⟩
  have hio := ht.iff hT
  have hg := fun y hy => setT_get m o L (fun x hx => by have := ht.rng x hx; have := h.len; omega) y hy
  have hl := h.len
  have hm := h.num
  have hrl := rts_len n near i
  have hdis : ∀ r ∈ rts n near i, ∀ x, x ∈ o → x ∉ (trC n near r).1 := fun r hr x hx hx' => by
    have h1 := rts_rng n near i r hr
    exact Tr.disj (trC_ok hF ⟨h1.1, by omega⟩) hT hF (fun hh => hno ⟨r, hr, hh⟩) x ((hio x).1 hx) hx'
  refine ⟨⟨by rw [setT_len]; exact hl, by rw [er, List.length_append, List.length_singleton]; omega, fun x h0 h1 => ?_, fun x h0 h1 => ?_, fun x h0 h1 => ?_, fun x y h0 h1 h2 h3 h4 h5 => ?_⟩, by omega⟩
  · rw [hg x h0, er]
    by_cases hx : x ∈ o
    · rw [if_pos hx]
      exact ⟨fun _ => ⟨(i : Nat), by simp, (hio x).1 hx⟩, fun _ => by omega⟩
    · rw [if_neg hx, h.cov x h0 h1]
      constructor
      · rintro ⟨r, hr, hm⟩; exact ⟨r, by simp [hr], hm⟩
      · rintro ⟨r, hr, hm⟩
        rcases List.mem_append.1 hr with hr | hr
        · exact ⟨r, hr, hm⟩
        · rw [List.mem_singleton.1 hr] at hm
          exact absurd ((hio x).2 hm) hx
  · rw [hg x h0]
    left
    by_cases hx : x ∈ o
    · rw [if_pos hx]; omega
    · rw [if_neg hx]
      rcases h.lt x h0 h1 with h6 | h6
      · omega
      · have h7 := h.cov x h0 h1
        have : rts n near i = [] := List.eq_nil_of_length_eq_zero (by omega)
        rw [this] at h7
        have : ¬ 0 ≤ geti L x := fun hh => by obtain ⟨r, hr, _⟩ := h7.1 hh; cases hr
        omega
  · rw [hg x h0]
    by_cases hx : x ∈ o
    · rw [if_pos hx]; omega
    · rw [if_neg hx]; exact h.lo x h0 h1
  · rw [hg x h0] at h4 ⊢
    rw [hg y h2] at h5 ⊢
    rw [er]
    have hlt : ∀ z : Int, 0 ≤ z → z < n → 0 ≤ geti L z → geti L z < m := fun z z0 z1 z2 => by
      rcases h.lt z z0 z1 with h6 | h6
      · exact h6
      · have h7 := (h.cov z z0 z1).1 z2
        have : rts n near i = [] := List.eq_nil_of_length_eq_zero (by omega)
        rw [this] at h7
        obtain ⟨r, hr, _⟩ := h7; cases hr
    by_cases hx : x ∈ o <;> by_cases hy : y ∈ o
    · rw [if_pos hx, if_pos hy]
      exact ⟨fun _ => ⟨(i : Nat), by simp, (hio x).1 hx, (hio y).1 hy⟩, fun _ => rfl⟩
    · rw [if_pos hx, if_neg hy] at *
      have := hlt y h2 h3 h5
      constructor
      · intro h8; omega
      · rintro ⟨r, hr, q1, q2⟩
        rcases List.mem_append.1 hr with hr | hr
        · exact absurd q1 (hdis r hr x hx)
        · rw [List.mem_singleton.1 hr] at q2
          exact absurd ((hio y).2 q2) hy
    · rw [if_neg hx, if_pos hy] at *
      have := hlt x h0 h1 h4
      constructor
      · intro h8; omega
      · rintro ⟨r, hr, q1, q2⟩
        rcases List.mem_append.1 hr with hr | hr
        · exact absurd q2 (hdis r hr y hy)
        · rw [List.mem_singleton.1 hr] at q1
          exact absurd ((hio x).2 q1) hx
    · rw [if_neg hx, if_neg hy] at *
      rw [h.same x y h0 h1 h2 h3 h4 h5]
      constructor
      · rintro ⟨r, hr, q1, q2⟩; exact ⟨r, by simp [hr], q1, q2⟩
      · rintro ⟨r, hr, q1, q2⟩
        rcases List.mem_append.1 hr with hr | hr
        · exact ⟨r, hr, q1, q2⟩
        · rw [List.mem_singleton.1 hr] at q1
          exact absurd ((hio x).2 q1) hx
theorem rts_mono (n : Nat) (near : Int → List Int) {i : Nat} {r : Int} (h : r ∈ rts n near i) : ∀ j, i ≤ j → r ∈ rts n near j := by
  intro j hj
  induction hj with
  | refl => exact h
  | step _ ih =>
    rw [rts]; split
    · exact ih
    · exact List.mem_append.2 (.inl ih)
theorem rts_iff (hF : Fst n near) {v : Nat} (hv : v < n) : ((v : Int) ∈ rts n near n ↔ ¬ ∃ r ∈ rts n near v, (v : Int) ∈ (trC n near r).1) := by
  have hT := trC_ok hF (r := (v : Nat)) ⟨by omega, by omega⟩
  constructor
  · rintro h ⟨r, hr, hm⟩
    have h1 := rts_rng n near v r hr
    have := rts_uniq hF (rts_mono n near hr n (by omega)) h hm hT.rt
    omega
  · intro h
    refine rts_mono n near (i := v + 1) ?_ n (by omega)
    rw [rts, if_neg h]; simp
theorem rts_step (hF : Fst n near) {v : Nat} (hv : v < n) : rts n near (v + 1) = if (v : Int) ∈ rts n near n then rts n near v ++ [(v : Int)] else rts n near v := by
  by_cases h : (v : Int) ∈ rts n near n
  · rw [if_pos h, rts, if_neg ((rts_iff hF hv).1 h)]
  · rw [if_neg h, rts, if_pos]
    exact Classical.byContradiction fun hh => h ((rts_iff hF hv).2 hh)
/-- The first vertex with its number: a root. -/
theorem LbI.first (hF : Fst n near) {L : List Int} {m : Int} (h : LbI n near n L m) {v : Nat} (hv : v < n) : (∀ j : Nat, j < v → geti L (j : Nat) ≠ geti L (v : Nat)) ↔ (v : Int) ∈ rts n near n := by
  have hpos : ∀ x : Nat, x < n → 0 ≤ geti L (x : Nat) := fun x hx => (h.cov (x : Nat) (by omega) (by omega)).2 (rts_cov hF n (Nat.le_refl _) (x : Nat) (by omega) (by omega))
  have hcv : ∀ x : Nat, x < n → ∃ r ∈ rts n near n, (x : Int) ∈ (trC n near r).1 ∧ 0 ≤ r ∧ r ≤ x := fun x hx => by
    obtain ⟨r, hr, hm⟩ := rts_cov hF (x + 1) (by omega) (x : Nat) (by omega) (by omega)
    have := rts_rng n near (x + 1) r hr
    exact ⟨r, rts_mono n near hr n (by omega), hm, this.1, by omega⟩
  constructor
  · intro hj
    obtain ⟨r, hr, hm, r0, r1⟩ := hcv v hv
    by_cases e : r = (v : Int)
    · rw [← e]; exact hr
    · obtain ⟨q, rfl⟩ := Int.eq_ofNat_of_zero_le r0
      exfalso
      refine hj q (by omega) ?_
      refine (h.same (q : Nat) (v : Nat) (by omega) (by omega) (by omega) (by omega) (hpos q (by omega)) (hpos v hv)).2 ⟨(q : Nat), hr, ?_, hm⟩
      exact (trC_ok hF (r := (q : Nat)) ⟨by omega, by omega⟩).rt
  · intro hv' j hj he
    obtain ⟨r, hr, q1, q2⟩ := (h.same (j : Nat) (v : Nat) (by omega) (by omega) (by omega) (by omega) (hpos j (by omega)) (hpos v hv)).1 he
    have e := rts_uniq hF hr hv' q2 (trC_ok hF (r := (v : Nat)) ⟨by omega, by omega⟩).rt
    subst e
    obtain ⟨r', hr', q3, q4, q5⟩ := hcv j (by omega)
    have := rts_uniq hF hr' hv' q3 q1
    omega
/-- The numbers of the components. -/
noncomputable def labS (n : Nat) (near : Int → List Int) : Nat → List Int
  | 0 => List.replicate n (-1)
  | i + 1 => open Classical in if ∃ r ∈ rts n near i, (i : Int) ∈ (trC n near r).1 then labS n near i else setT (labS n near i) (trC n near (i : Nat)).1 (rts n near i).length
theorem setT_same {L o o' : List Int} {m : Int} (h : ∀ x ∈ o, 0 ≤ x ∧ x < L.length) (h' : ∀ x ∈ o', 0 ≤ x ∧ x < L.length) (e : ∀ x, x ∈ o ↔ x ∈ o') : setT L o m = setT L o' m := by
  apply List.ext_getElem (by rw [setT_len, setT_len])
  intro k h1 h2
  have g1 := setT_get m o L h (k : Nat) (by omega)
  have g2 := setT_get m o' L h' (k : Nat) (by omega)
  have e1 : geti (setT L o m) (k : Nat) = (setT L o m)[k] := by simp [geti, List.getD_eq_getElem?_getD, List.getElem?_eq_getElem h1]
  have e2 : geti (setT L o' m) (k : Nat) = (setT L o' m)[k] := by simp [geti, List.getD_eq_getElem?_getD, List.getElem?_eq_getElem h2]
  rw [← e1, ← e2, g1, g2]
  simp only [e]
theorem labS_skip {i : Nat} {L : List Int} {m : Int} (h : LbI n near i L m) (hi : i < n) (hc : 0 ≤ geti L (i : Nat)) (e : L = labS n near i) : L = labS n near (i + 1) := by
  have hr := (h.cov (i : Nat) (by omega) (by omega)).1 hc
  rw [labS, if_pos hr]; exact e
theorem labS_new (hF : Fst n near) {i : Nat} {L o p : List Int} {m : Int} (h : LbI n near i L m) (hi : i < n) (hc : ¬ 0 ≤ geti L (i : Nat)) (ht : Tr n near (i : Nat) o p) (e : L = labS n near i) : setT L o m = labS n near (i + 1) := by
  have hno : ¬ ∃ r ∈ rts n near i, (i : Int) ∈ (trC n near r).1 := fun hh => hc ((h.cov (i : Nat) (by omega) (by omega)).2 hh)
  have hT := trC_ok hF (r := (i : Nat)) ⟨by omega, by omega⟩
  rw [labS, if_neg hno, ← e, h.num]
  exact setT_same (fun x hx => by have := ht.rng x hx; have := h.len; omega) (fun x hx => by have := hT.rng x hx; have := h.len; omega) (ht.iff hT)
end
end Go.Proofs.Ytlkhcelodcneiaa
/-
  Branch determinants by orders that are run backwards. No condition.
-/
namespace Go.Proofs.Ytlkhcelodcneiaa
open Go Go.RowKit
section
variable {n : Nat} {near : Int → List Int} {W : List Int}

def VlAt (n : Nat) (near : Int → List Int) (W p f h : List Int) (x : Int) : Prop := ∃ a b, FG n near W p x = some (a, b) ∧ geti f x = b ∧ geti h x = a
structure OutI (n : Nat) (near : Int → List Int) (W : List Int) (i : Nat) (f h : List Int) : Prop where
  lf : f.length = n
  lh : h.length = n
  bf : ∀ x ∈ f, inM x
  bh : ∀ x ∈ h, inM x
  vl : ∀ r ∈ rts n near i, ∀ x ∈ (trC n near r).1, VlAt n near W (trC n near r).2 f h x
theorem OutI.start : OutI n near W 0 (List.replicate n 0) (List.replicate n 0) :=
  ⟨by simp, by simp, fun x hx => by rw [List.eq_of_mem_replicate hx]; exact inM0, fun x hx => by rw [List.eq_of_mem_replicate hx]; exact inM0, fun r hr => by simp [rts] at hr⟩
structure MidI (n : Nat) (near : Int → List Int) (W o p f0 h0 : List Int) (t : Nat) (f h : List Int) : Prop where
  le : t ≤ o.length
  lf : f.length = n
  lh : h.length = n
  bf : ∀ x ∈ f, inM x
  bh : ∀ x ∈ h, inM x
  vl : ∀ (q : Nat) (x : Int), t ≤ q → o[q]? = some x → VlAt n near W p f h x
  fr : ∀ x : Int, 0 ≤ x → x ∉ o → geti f x = geti f0 x ∧ geti h x = geti h0 x
theorem MidI.start {i : Nat} {o p f h : List Int} (hO : OutI n near W i f h) : MidI n near W o p f h o.length f h :=
  ⟨Nat.le_refl _, hO.lf, hO.lh, hO.bf, hO.bh, fun q x hq hx => (by rw [List.getElem?_eq_none hq] at hx; cases hx), fun _ _ _ => ⟨rfl, rfl⟩⟩
theorem MidI.child {r v c : Int} {o p f0 h0 f h : List Int} {t : Nat} (hT : Tr n near r o p) (hM : MidI n near W o p f0 h0 (t + 1) f h) (hv : o[t]? = some v) (hc : c ∈ near v) (hp : c ≠ geti p v) : VlAt n near W p f h c := by
  obtain ⟨c1, c2, c3⟩ := hT.ch (List.mem_of_getElem? hv) hc hp
  obtain ⟨j, hj⟩ := List.getElem?_of_mem c1
  obtain ⟨m, y, m1, m2, m3, _⟩ := hT.par hj c2
  rw [c3] at m3
  subst m3
  have := nd_get hT.nd m2 hv
  exact hM.vl j c (by omega) hj
theorem mem_set' {l : List Int} {k : Nat} {v : Int} {P : Int → Prop} (h : ∀ x ∈ l, P x) (hv : P v) : ∀ x ∈ l.set k v, P x := fun x hx => by
  rcases List.mem_or_eq_of_mem_set hx with hx | hx
  · exact h x hx
  · rw [hx]; exact hv
theorem MidI.put {r v P R : Int} {o p f0 h0 f h : List Int} {t : Nat} (hT : Tr n near r o p) (hM : MidI n near W o p f0 h0 (t + 1) f h) (hv : o[t]? = some v) (hF : FG n near W p v = some (P, R)) (hP : inM P) (hR : inM R) :
    MidI n near W o p f0 h0 t (f.set v.toNat R) (h.set v.toNat P) := by
  have hvm := List.mem_of_getElem? hv
  have hvr := hT.rng v hvm
  have lf := hM.lf
  have lh := hM.lh
  refine ⟨by have := hM.le; omega, by rw [List.length_set]; exact lf, by rw [List.length_set]; exact lh, mem_set' hM.bf hR, mem_set' hM.bh hP, fun q x hq hx => ?_, fun x hx hno => ?_⟩
  · have hxr := hT.rng x (List.mem_of_getElem? hx)
    by_cases e : x = v
    · subst e
      exact ⟨P, R, hF, by rw [geti_st hvr.1 hxr.1 (by omega), if_pos rfl], by rw [geti_st hvr.1 hxr.1 (by omega), if_pos rfl]⟩
    · have hqt : t + 1 ≤ q := by
        have : q ≠ t := fun hh => by subst hh; rw [hv] at hx; exact e (Option.some.inj hx).symm
        omega
      obtain ⟨a, b, q1, q2, q3⟩ := hM.vl q x hqt hx
      exact ⟨a, b, q1, by rw [geti_st hvr.1 hxr.1 (by omega), if_neg e]; exact q2, by rw [geti_st hvr.1 hxr.1 (by omega), if_neg e]; exact q3⟩
  · have e : x ≠ v := fun hh => hno (hh ▸ hvm)
    obtain ⟨q1, q2⟩ := hM.fr x hx hno
    exact ⟨by rw [geti_st hvr.1 hx (by omega), if_neg e]; exact q1, by rw [geti_st hvr.1 hx (by omega), if_neg e]; exact q2⟩
theorem MidI.done (hF : Fst n near) {i : Nat} {o p f0 h0 f h : List Int} (hi : i < n) (hT : Tr n near (i : Nat) o p) (hO : OutI n near W i f0 h0) (hM : MidI n near W o p f0 h0 0 f h) (hr : (i : Int) ∈ rts n near n) : OutI n near W (i + 1) f h := by
  have hno := (rts_iff hF hi).1 hr
  have hC := trC_ok hF (r := (i : Nat)) ⟨by omega, by omega⟩
  have hio := hT.iff hC
  refine ⟨hM.lf, hM.lh, hM.bf, hM.bh, fun r hr' x hx => ?_⟩
  rw [rts_step hF hi, if_pos hr] at hr'
  rcases List.mem_append.1 hr' with hr' | hr'
  · have h1 := rts_rng n near i r hr'
    have hxo : x ∉ o := fun hh => Tr.disj (trC_ok hF (r := r) ⟨h1.1, by omega⟩) hC hF (fun hh => hno ⟨r, hr', hh⟩) x ((hio x).1 hh) hx
    have hx0 := ((trC_ok hF (r := r) ⟨h1.1, by omega⟩).rng x hx).1
    obtain ⟨a, b, q1, q2, q3⟩ := hO.vl r hr' x hx
    obtain ⟨q4, q5⟩ := hM.fr x hx0 hxo
    exact ⟨a, b, q1, by rw [q4]; exact q2, by rw [q5]; exact q3⟩
  · rw [List.mem_singleton.1 hr'] at hx ⊢
    have hxo := (hio x).2 hx
    obtain ⟨j, hj⟩ := List.getElem?_of_mem hxo
    obtain ⟨a, b, q1, q2, q3⟩ := hM.vl j x (Nat.zero_le _) hj
    exact ⟨a, b, by rw [← FG_uniq hT hC x hxo]; exact q1, q2, q3⟩
theorem OutI.skip (hF : Fst n near) {i : Nat} {f h : List Int} (hi : i < n) (hO : OutI n near W i f h) (hr : ¬ (i : Int) ∈ rts n near n) : OutI n near W (i + 1) f h :=
  ⟨hO.lf, hO.lh, hO.bf, hO.bh, by rw [rts_step hF hi, if_neg hr]; exact hO.vl⟩
theorem OutI.fin (hF : Fst n near) {f h : List Int} (hO : OutI n near W n f h) : bdOk n near W ∧ f = bdF n near W ∧ h = bdG n near W := by
  have hx : ∀ x : Int, 0 ≤ x → x < n → VlAt n near W (trC n near (rootOf n near x)).2 f h x := fun x h0 h1 => by
    obtain ⟨h3, h4⟩ := rootOf_ok hF ⟨h0, h1⟩
    exact hO.vl _ h3 x h4
  refine ⟨fun r hr x hx => ?_, list_eq (F := fun x => ((bdV n near W x).getD (0, 0)).2) hO.lf fun x h0 h1 => ?_, list_eq (F := fun x => ((bdV n near W x).getD (0, 0)).1) hO.lh fun x h0 h1 => ?_⟩
  · obtain ⟨a, b, q1, _⟩ := hO.vl r hr x hx
    rw [q1]; simp
  · obtain ⟨a, b, q1, q2, q3⟩ := hx x h0 h1
    show geti f x = ((bdV n near W x).getD (0, 0)).2
    unfold bdV; rw [q1]; exact q2
  · obtain ⟨a, b, q1, q2, q3⟩ := hx x h0 h1
    show geti h x = ((bdV n near W x).getD (0, 0)).1
    unfold bdV; rw [q1]; exact q3
/-- The children seen so far. -/
def InV (n : Nat) (near : Int → List Int) (W p : List Int) (v : Int) (k : Nat) (P R : Int) : Prop := fO (FG n near W p) (((near v).take k).filter fun u => decide (u ≠ geti p v)) (1, -geti W v) = some (P, R)
theorem InV.start {p : List Int} {v : Int} : InV n near W p v 0 1 (-geti W v) := by simp [InV, fO]
theorem take_in {l : List Int} {k : Nat} {u : Int} (hu : l[k]? = some u) : l.take (k + 1) = l.take k ++ [u] := by rw [List.take_add_one, hu]; rfl
theorem InV.skip {p : List Int} {v u P R : Int} {k : Nat} (h : InV n near W p v k P R) (hu : (near v)[k]? = some u) (he : u = geti p v) : InV n near W p v (k + 1) P R := by
  unfold InV at *
  rw [take_in hu, List.filter_append, List.filter_cons_of_neg (by simp [he])]
  simpa using h
theorem InV.one {p : List Int} {v u P R : Int} {k : Nat} (h : InV n near W p v k P R) (hu : (near v)[k]? = some u) (he : u ≠ geti p v) :
    fO (FG n near W p) (((near v).take (k + 1)).filter fun u => decide (u ≠ geti p v)) (1, -geti W v) = fO (FG n near W p) [u] (P, R) := by
  unfold InV at h
  rw [take_in hu, List.filter_append, List.filter_cons_of_pos (by simpa using he), fO_app, h]
  rfl
theorem InV.step {p f h : List Int} {v u P R : Int} {k : Nat} (hI : InV n near W p v k P R) (hu : (near v)[k]? = some u) (he : u ≠ geti p v) (hV : VlAt n near W p f h u) (hk : okS P R (geti f u) (geti h u) = true) :
    InV n near W p v (k + 1) (P * geti f u) (R * geti f u - P * geti h u) := by
  obtain ⟨a, b, q1, rfl, rfl⟩ := hV
  unfold InV
  rw [hI.one hu he, fO, q1]
  simp only
  rw [if_pos hk]; rfl
theorem InV.bad {r : Int} {o p f h : List Int} {v u P R : Int} {k : Nat} (hT : Tr n near r o p) (hv : v ∈ o) (hI : InV n near W p v k P R) (hu : (near v)[k]? = some u) (he : u ≠ geti p v) (hV : VlAt n near W p f h u) (hk : ¬ okS P R (geti f u) (geti h u) = true) : FG n near W p v = none := by
  obtain ⟨a, b, q1, rfl, rfl⟩ := hV
  rw [FG_eq hT hv]
  unfold chl
  rw [show (near v) = (near v).take (k + 1) ++ (near v).drop (k + 1) from (List.take_append_drop _ _).symm, List.filter_append, fO_app, hI.one hu he, fO, q1]
  simp only
  rw [if_neg hk]; rfl
theorem InV.fin {r : Int} {o p : List Int} {v P R : Int} (hT : Tr n near r o p) (hv : v ∈ o) (hI : InV n near W p v (near v).length P R) : FG n near W p v = some (P, R) := by
  unfold InV at hI
  rw [List.take_length] at hI
  rw [FG_eq hT hv]; exact hI
theorem bd_bad (hF : Fst n near) {i : Nat} {o p : List Int} {v : Int} (hi : i < n) (hr : (i : Int) ∈ rts n near n) (hT : Tr n near (i : Nat) o p) (hv : v ∈ o) (hn : FG n near W p v = none) : ¬ bdOk n near W := by
  have hC := trC_ok hF (r := (i : Nat)) ⟨by omega, by omega⟩
  intro hb
  refine hb _ hr v ((hT.iff hC v).1 hv) ?_
  rw [← FG_uniq hT hC v hv]; exact hn
end
end Go.Proofs.Ytlkhcelodcneiaa
/-
  Neighbours and trees, walked: the reference. Condition: a forest of at most 40 vertices.
-/
namespace Go.Proofs.Ytlkhcelodcneiaa
open Go Go.RowKit
attribute [local irreducible] AWp AOps ResIs Ret1 QOp LOp COp AFnV AFn Imms LeE LeO
set_option maxHeartbeats 1000000
set_option linter.unusedSimpArgs false
set_option linter.unusedVariables false

theorem all_nil' {α : Type} {p : α → Prop} : ∀ x ∈ ([] : List α), p x := fun _ h => by cases h
theorem all_cons' {α : Type} {p : α → Prop} {a : α} {l : List α} (h : p a) (hs : ∀ x ∈ l, p x) : ∀ x ∈ a :: l, p x := fun x hx => by
  rcases List.mem_cons.1 hx with rfl | hx
  · exact h
  · exact hs x hx
def nr1 (E : List (List Int)) (v : Int) : List Int := (E.filter fun e => decide (geti e 1 = v)).map fun e => geti e 0
def nr0 (E : List (List Int)) (v : Int) : List Int := (E.filter fun e => decide (geti e 0 = v)).map fun e => geti e 1
theorem near_cut (E : List (List Int)) (v : Int) : nearL E v = nr1 E v ++ nr0 E v := rfl
theorem nr1_len (E : List (List Int)) (v : Int) : (nr1 E v).length ≤ E.length := by
  unfold nr1; rw [List.length_map]; exact List.length_filter_le _ _
theorem nr0_len (E : List (List Int)) (v : Int) : (nr0 E v).length ≤ E.length := by
  unfold nr0; rw [List.length_map]; exact List.length_filter_le _ _
theorem nr1_snoc {E : List (List Int)} {k : Nat} (h : k < E.length) (v : Int) : nr1 (E.take (k + 1)) v = nr1 (E.take k) v ++ (if geti (gets E (k : Nat)) 1 = v then [geti (gets E (k : Nat)) 0] else []) := by
  have e : E[k] = gets E (k : Nat) := by simp [gets, h]
  unfold nr1
  rw [List.take_succ_eq_append_getElem h, List.filter_append, List.map_append, e]
  congr 1
  by_cases hc : geti (gets E (k : Nat)) 1 = v
  · rw [if_pos hc, List.filter_cons_of_pos (by exact decide_eq_true hc)]; rfl
  · rw [if_neg hc, List.filter_cons_of_neg (by simpa using hc)]; rfl
theorem nr0_snoc {E : List (List Int)} {k : Nat} (h : k < E.length) (v : Int) : nr0 (E.take (k + 1)) v = nr0 (E.take k) v ++ (if geti (gets E (k : Nat)) 0 = v then [geti (gets E (k : Nat)) 1] else []) := by
  have e : E[k] = gets E (k : Nat) := by simp [gets, h]
  unfold nr0
  rw [List.take_succ_eq_append_getElem h, List.filter_append, List.map_append, e]
  congr 1
  by_cases hc : geti (gets E (k : Nat)) 0 = v
  · rw [if_pos hc, List.filter_cons_of_pos (by exact decide_eq_true hc)]; rfl
  · rw [if_neg hc, List.filter_cons_of_neg (by simpa using hc)]; rfl

set_option maxHeartbeats 16000000 in
theorem l11Near_c (W : List Int) (E : List (List Int)) (h : GrF W E) (v : Int) : AFn Try.prog 13 [.agg [.ints W, .intss E], .i v] (IsInts 2 (nearL E v)) := by
  have hn := h.n
  have hE := h.e
  have hat := h.at
  (refine AFn.start Try.func13 Try.ntmps13 rfl (by kernel_rfl) fun hk => ?_; simp only [Env.start, enumF, List.length_cons, List.length_nil, Nat.reduceAdd, Nat.reduceSub, List.cons_append, List.nil_append])
  repeat' (first | (apply AOps.nil; try simp only [List.nil_append, List.cons_append, List.set_cons_zero, List.set_cons_succ, List.length_cons, List.length_nil, Nat.reduceAdd, AV.sh, AV.sh1, AV.sh0, AO.sh, List.map_cons, List.map_nil, Nat.zero_add, Nat.add_zero, setAll]) | (apply w_assign; exact rfl; exact rfl) | apply AWp.seq | apply AWp.region | apply AWp.block | ((apply w_boxa); iterate 2 exact rfl) | (apply w_bs0; iterate 1 exact rfl))
  refine AWp.loop (ι := Nat) (fun k => ⟨62, [(1, .i v), (2, .optr 0 0), (5, .own 1), (6, .i k)]⟩) (fun k => [.bx 29 [.ints W, .intss E], .sli 2 (nr1 (E.take k) v)]) (fun k => k ≤ E.length) (fun k => E.length - k) 0 (by omega) ⟨lee rfl (by (repeat (first | exact le_nil | refine le_eq rfl rfl ?_))), by (repeat (first | exact lo_nil | refine lo_eq rfl ?_)), rfl, rfl⟩ ?_
  intro k k0
  have hl := nr1_len (E.take k) v
  rw [List.length_take] at hl
  by_cases hk : k < E.length
  · obtain ⟨a1, a2, a3, a4⟩ := hat k hk
    have hs := nr1_snoc hk v
    have hbl : ((nr1 (E.take k) v).length + [geti (gets E (k : Nat)) 0].length) * 8 ≤ 140737488355328 := by
      simp only [List.length_cons, List.length_nil]; omega
    generalize nr1 (E.take k) v = L at *
    by_cases hc : geti (gets E (k : Nat)) 1 = v
    · rw [if_pos hc] at hs
      repeat' (first | (apply AOps.nil; try simp only [List.nil_append, List.cons_append, List.set_cons_zero, List.set_cons_succ, List.length_cons, List.length_nil, Nat.reduceAdd, AV.sh, AV.sh1, AV.sh0, AO.sh, List.map_cons, List.map_nil, Nat.zero_add, Nat.add_zero, setAll]) | (apply w_move; exact rfl; exact rfl) | (apply w_assign; exact rfl; exact rfl) | apply AWp.seq | apply AWp.region | ((apply AWp.condP; exact rfl) <;> intro h) | apply AWp.block | apply AWp.exit | apply AWp.skip | (apply w_len; exact rfl; exact rfl; first | exact .ints _ | exact .intss _ | exact .sli rfl | exact .sls rfl | exact .slr rfl | exact .orow rfl | exact .nil) | omega | ((first | apply w_lss | apply w_eql | apply w_add | apply w_idx | apply w_ld | apply w_fa); iterate 3 exact rfl) | ((first | apply w_idxs | apply w_lds); iterate 3 exact rfl) | ((apply w_bs1); iterate 2 exact rfl) | (apply w_ldb; iterate 5 exact rfl) | (apply w_app; exact rfl; exact rfl; exact rfl; exact rfl; (exact .sli rfl); rotate_left 1; simp only [Env.mp, List.map_cons, List.map_nil, List.set_cons_zero, List.set_cons_succ, AV.kill, AV.kill1, AO.kill, AV.noRow, AV.noRow1, AO.via, reduceIte, Nat.reduceEqDiff, Nat.reduceLT, Env.up, Nat.zero_ne_one, Nat.one_ne_zero, Nat.reduceAdd, List.cons_append, List.nil_append]; rotate_left 1) | (apply inI_of <;> omega))
      exact ⟨k + 1, by omega, by omega, ⟨lee rfl (by (repeat (first | exact le_nil | refine le_eq rfl rfl ?_))), by (repeat (first | exact lo_nil | refine lo_eq rfl ?_ | refine lo_eq (congrArg (AO.sli _) (hs.symm)) ?_)), rfl, rfl⟩⟩
    · rw [if_neg hc, List.append_nil] at hs
      repeat' (first | (apply AOps.nil; try simp only [List.nil_append, List.cons_append, List.set_cons_zero, List.set_cons_succ, List.length_cons, List.length_nil, Nat.reduceAdd, AV.sh, AV.sh1, AV.sh0, AO.sh, List.map_cons, List.map_nil, Nat.zero_add, Nat.add_zero, setAll]) | (apply w_move; exact rfl; exact rfl) | (apply w_assign; exact rfl; exact rfl) | apply AWp.seq | apply AWp.region | ((apply AWp.condP; exact rfl) <;> intro h) | apply AWp.block | apply AWp.exit | apply AWp.skip | (apply w_len; exact rfl; exact rfl; first | exact .ints _ | exact .intss _ | exact .sli rfl | exact .sls rfl | exact .slr rfl | exact .orow rfl | exact .nil) | omega | ((first | apply w_lss | apply w_eql | apply w_add | apply w_idx | apply w_ld | apply w_fa); iterate 3 exact rfl) | ((first | apply w_idxs | apply w_lds); iterate 3 exact rfl) | (apply w_ldb; iterate 5 exact rfl) | (apply inI_of <;> omega))
      exact ⟨k + 1, by omega, by omega, ⟨lee rfl (by (repeat (first | exact le_nil | refine le_eq rfl rfl ?_))), by (repeat (first | exact lo_nil | refine lo_eq rfl ?_ | refine lo_eq (congrArg (AO.sli _) (hs.symm)) ?_)), rfl, rfl⟩⟩
  have ek : k = E.length := by omega
  subst ek
  rw [List.take_length] at hl ⊢
  repeat' (first | (apply AOps.nil; try simp only [List.nil_append, List.cons_append, List.set_cons_zero, List.set_cons_succ, List.length_cons, List.length_nil, Nat.reduceAdd, AV.sh, AV.sh1, AV.sh0, AO.sh, List.map_cons, List.map_nil, Nat.zero_add, Nat.add_zero, setAll]) | (apply w_move; exact rfl; exact rfl) | (apply w_assign; exact rfl; exact rfl) | apply AWp.seq | apply AWp.region | ((apply AWp.condP; exact rfl) <;> intro h) | apply AWp.block | apply AWp.exit | apply AWp.skip | (apply w_len; exact rfl; exact rfl; first | exact .ints _ | exact .intss _ | exact .sli rfl | exact .sls rfl | exact .slr rfl | exact .orow rfl | exact .nil) | omega | ((first | apply w_lss | apply w_ld | apply w_fa); iterate 3 exact rfl) | (apply w_ldb; iterate 5 exact rfl))
  refine AWp.loop (ι := Nat) (fun k => ⟨62, [(1, .i v), (2, .optr 0 0), (5, .own 1), (7, .i k)]⟩) (fun k => [.bx 29 [.ints W, .intss E], .sli 2 (nr1 E v ++ nr0 (E.take k) v)]) (fun k => k ≤ E.length) (fun k => E.length - k) 0 (by omega) ⟨lee rfl (by (repeat (first | exact le_nil | refine le_eq rfl rfl ?_))), by (repeat (first | exact lo_nil | refine lo_eq rfl ?_ | refine lo_eq (congrArg (AO.sli _) ((List.append_nil _).symm)) ?_)), rfl, rfl⟩ ?_
  intro k k0
  have hl0 := nr0_len (E.take k) v
  rw [List.length_take] at hl0
  by_cases hk : k < E.length
  · obtain ⟨a1, a2, a3, a4⟩ := hat k hk
    have hs : nr1 E v ++ nr0 (E.take (k + 1)) v = (nr1 E v ++ nr0 (E.take k) v) ++ (if geti (gets E (k : Nat)) 0 = v then [geti (gets E (k : Nat)) 1] else []) := by rw [nr0_snoc hk, List.append_assoc]
    have hbl : ((nr1 E v ++ nr0 (E.take k) v).length + [geti (gets E (k : Nat)) 1].length) * 8 ≤ 140737488355328 := by
      simp only [List.length_cons, List.length_nil, List.length_append]; omega
    generalize nr1 E v ++ nr0 (E.take k) v = L at *
    by_cases hc : geti (gets E (k : Nat)) 0 = v
    · rw [if_pos hc] at hs
      repeat' (first | (apply AOps.nil; try simp only [List.nil_append, List.cons_append, List.set_cons_zero, List.set_cons_succ, List.length_cons, List.length_nil, Nat.reduceAdd, AV.sh, AV.sh1, AV.sh0, AO.sh, List.map_cons, List.map_nil, Nat.zero_add, Nat.add_zero, setAll]) | (apply w_move; exact rfl; exact rfl) | (apply w_assign; exact rfl; exact rfl) | apply AWp.seq | apply AWp.region | ((apply AWp.condP; exact rfl) <;> intro h) | apply AWp.block | apply AWp.ret | apply AWp.exit | apply AWp.skip | (apply w_len; exact rfl; exact rfl; first | exact .ints _ | exact .intss _ | exact .sli rfl | exact .sls rfl | exact .slr rfl | exact .orow rfl | exact .nil) | omega | ((first | apply w_lss | apply w_eql | apply w_add | apply w_idx | apply w_ld | apply w_fa); iterate 3 exact rfl) | ((first | apply w_idxs | apply w_lds); iterate 3 exact rfl) | ((apply w_bs1); iterate 2 exact rfl) | (apply w_ldb; iterate 5 exact rfl) | (apply w_app; exact rfl; exact rfl; exact rfl; exact rfl; (exact .sli rfl); rotate_left 1; simp only [Env.mp, List.map_cons, List.map_nil, List.set_cons_zero, List.set_cons_succ, AV.kill, AV.kill1, AO.kill, AV.noRow, AV.noRow1, AO.via, reduceIte, Nat.reduceEqDiff, Nat.reduceLT, Env.up, Nat.zero_ne_one, Nat.one_ne_zero, Nat.reduceAdd, List.cons_append, List.nil_append]; rotate_left 1) | (apply inI_of <;> omega))
      exact ⟨k + 1, by omega, by omega, ⟨lee rfl (by (repeat (first | exact le_nil | refine le_eq rfl rfl ?_))), by (repeat (first | exact lo_nil | refine lo_eq rfl ?_ | refine lo_eq (congrArg (AO.sli _) (hs.symm)) ?_)), rfl, rfl⟩⟩
    · rw [if_neg hc, List.append_nil] at hs
      repeat' (first | (apply AOps.nil; try simp only [List.nil_append, List.cons_append, List.set_cons_zero, List.set_cons_succ, List.length_cons, List.length_nil, Nat.reduceAdd, AV.sh, AV.sh1, AV.sh0, AO.sh, List.map_cons, List.map_nil, Nat.zero_add, Nat.add_zero, setAll]) | (apply w_move; exact rfl; exact rfl) | (apply w_assign; exact rfl; exact rfl) | apply AWp.seq | apply AWp.region | ((apply AWp.condP; exact rfl) <;> intro h) | apply AWp.block | apply AWp.ret | apply AWp.exit | apply AWp.skip | (apply w_len; exact rfl; exact rfl; first | exact .ints _ | exact .intss _ | exact .sli rfl | exact .sls rfl | exact .slr rfl | exact .orow rfl | exact .nil) | omega | ((first | apply w_lss | apply w_eql | apply w_add | apply w_idx | apply w_ld | apply w_fa); iterate 3 exact rfl) | ((first | apply w_idxs | apply w_lds); iterate 3 exact rfl) | (apply w_ldb; iterate 5 exact rfl) | (apply inI_of <;> omega))
      exact ⟨k + 1, by omega, by omega, ⟨lee rfl (by (repeat (first | exact le_nil | refine le_eq rfl rfl ?_))), by (repeat (first | exact lo_nil | refine lo_eq rfl ?_ | refine lo_eq (congrArg (AO.sli _) (hs.symm)) ?_)), rfl, rfl⟩⟩
  have ek : k = E.length := by omega
  subst ek
  rw [List.take_length, ← near_cut]
  repeat' (first | (apply AOps.nil; try simp only [List.nil_append, List.cons_append, List.set_cons_zero, List.set_cons_succ, List.length_cons, List.length_nil, Nat.reduceAdd, AV.sh, AV.sh1, AV.sh0, AO.sh, List.map_cons, List.map_nil, Nat.zero_add, Nat.add_zero, setAll]) | (apply w_move; exact rfl; exact rfl) | (apply w_assign; exact rfl; exact rfl) | apply AWp.seq | apply AWp.region | ((apply AWp.condP; exact rfl) <;> intro h) | apply AWp.block | apply AWp.ret | apply AWp.exit | apply AWp.skip | (apply w_len; exact rfl; exact rfl; first | exact .ints _ | exact .intss _ | exact .sli rfl | exact .sls rfl | exact .slr rfl | exact .orow rfl | exact .nil) | omega | ((first | apply w_lss | apply w_ld | apply w_fa); iterate 3 exact rfl) | (apply w_ldb; iterate 5 exact rfl))
  exact ⟨_, _, _, .v1 Try.results13 rfl, .sli rfl, rfl, rfl⟩

set_option maxHeartbeats 16000000 in
theorem l11Order_c (W : List Int) (E : List (List Int)) (h : GrF W E) (r : Int) (hr : 0 ≤ r ∧ r < W.length) :
    AFnC Try.prog 41 [.agg [.ints W, .intss E], .i r] [] (fun v os => v = .tup [.own 0, .own 1] ∧ ∃ o p, Tr W.length (nearL E) r o p ∧ os = [.sli 2 o, .sli 2 p]) := by
  have hn := h.n
  have hF := h.fo.fst
  have hstart := Inv.start (near := nearL E) hr
  have hnear := l11Near_c W E h
  (refine AFnC.start Try.func41 Try.ntmps41 rfl (by kernel_rfl) fun K => ?_; simp only [Env.start, enumF, List.map_cons, List.map_nil, AV.sh, List.length_cons, List.length_nil, Nat.reduceAdd, Nat.reduceSub, List.cons_append, List.nil_append])
  repeat' (first | (apply AOps.nil; try simp only [List.nil_append, List.cons_append, List.set_cons_zero, List.set_cons_succ, List.length_cons, List.length_nil, Nat.reduceAdd, AV.sh, AV.sh1, AV.sh0, AO.sh, List.map_cons, List.map_nil, Nat.zero_add, Nat.add_zero, setAll]) | (apply w_assign; exact rfl; exact rfl) | apply AWp.seq | apply AWp.region | apply AWp.block | ((apply w_boxa); iterate 2 exact rfl) | (apply w_bs0; iterate 1 exact rfl))
  refine AWp.loop (ι := Nat) (fun i => ⟨74, [(1, .i r), (2, .optr 1 0), (6, .own 2), (7, .i i)]⟩) (fun i => [.keep 1 K, .bx 29 [.ints W, .intss E], .sli 2 (List.replicate i (-1))]) (fun i => i ≤ W.length) (fun i => W.length - i) 0 (by omega) ⟨lee rfl (by (repeat (first | exact le_nil | refine le_eq rfl rfl ?_))), by (repeat (first | exact lo_nil | refine lo_eq rfl ?_)), rfl, rfl⟩ ?_
  intro i i0
  have hrl : (List.replicate i (-1 : Int)).length = i := List.length_replicate
  have hrs : List.replicate (i + 1) (-1 : Int) = List.replicate i (-1) ++ [-1] := List.replicate_succ'
  by_cases hi : i < W.length
  · have hbl : ((List.replicate i (-1 : Int)).length + [(-1 : Int)].length) * 8 ≤ 140737488355328 := by
      simp only [List.length_cons, List.length_nil]; omega
    generalize List.replicate i (-1 : Int) = L at *
    repeat' (first | (apply AOps.nil; try simp only [List.nil_append, List.cons_append, List.set_cons_zero, List.set_cons_succ, List.length_cons, List.length_nil, Nat.reduceAdd, AV.sh, AV.sh1, AV.sh0, AO.sh, List.map_cons, List.map_nil, Nat.zero_add, Nat.add_zero, setAll]) | (apply w_move; exact rfl; exact rfl) | (apply w_assign; exact rfl; exact rfl) | apply AWp.seq | apply AWp.region | ((apply AWp.condP; exact rfl) <;> intro h) | apply AWp.block | apply AWp.exit | apply AWp.skip | (apply w_len; exact rfl; exact rfl; first | exact .ints _ | exact .intss _ | exact .sli rfl | exact .sls rfl | exact .slr rfl | exact .orow rfl | exact .nil) | omega | ((first | apply w_lss | apply w_add | apply w_ld | apply w_fa); iterate 3 exact rfl) | ((apply w_bs1); iterate 2 exact rfl) | (apply w_ldb; iterate 5 exact rfl) | (apply w_app; exact rfl; exact rfl; exact rfl; exact rfl; (exact .sli rfl); rotate_left 1; simp only [Env.mp, List.map_cons, List.map_nil, List.set_cons_zero, List.set_cons_succ, AV.kill, AV.kill1, AO.kill, AV.noRow, AV.noRow1, AO.via, reduceIte, Nat.reduceEqDiff, Nat.reduceLT, Env.up, Nat.zero_ne_one, Nat.one_ne_zero, Nat.reduceAdd, List.cons_append, List.nil_append]; rotate_left 1) | (apply inI_of <;> omega))
    exact ⟨i + 1, by omega, by omega, ⟨lee rfl (by (repeat (first | exact le_nil | refine le_eq rfl rfl ?_))), by (repeat (first | exact lo_nil | refine lo_eq rfl ?_ | refine lo_eq (congrArg (AO.sli _) (hrs.symm)) ?_)), rfl, rfl⟩⟩
  have ei : i = W.length := by omega
  subst ei
  repeat' (first | (apply AOps.nil; try simp only [List.nil_append, List.cons_append, List.set_cons_zero, List.set_cons_succ, List.length_cons, List.length_nil, Nat.reduceAdd, AV.sh, AV.sh1, AV.sh0, AO.sh, List.map_cons, List.map_nil, Nat.zero_add, Nat.add_zero, setAll]) | (apply w_move; exact rfl; exact rfl) | (apply w_assign; exact rfl; exact rfl) | apply AWp.seq | apply AWp.region | ((apply AWp.condP; exact rfl) <;> intro h) | apply AWp.block | apply AWp.exit | apply AWp.skip | (apply w_len; exact rfl; exact rfl; first | exact .ints _ | exact .intss _ | exact .sli rfl | exact .sls rfl | exact .slr rfl | exact .orow rfl | exact .nil) | omega | ((first | apply w_lss | apply w_ld | apply w_fa); iterate 3 exact rfl) | ((apply w_bs1); iterate 2 exact rfl) | (apply w_ldb; iterate 5 exact rfl) | (apply inI_of <;> omega))
  refine AWp.loop (ι := Nat × List Int × List Int) (fun x => ⟨74, [(2, .optr 1 0), (6, .own 2), (8, .own 3), (9, .i x.1)]⟩) (fun x => [.keep 1 K, .bx 29 [.ints W, .intss E], .sli 2 x.2.2, .sli 2 x.2.1]) (fun x => Inv W.length (nearL E) r x.1 x.2.1 x.2.2) (fun x => W.length - x.1) (0, [r], List.replicate W.length (-1)) hstart ⟨lee rfl (by (repeat (first | exact le_nil | refine le_eq rfl rfl ?_))), by (repeat (first | exact lo_nil | refine lo_eq rfl ?_)), rfl, rfl⟩ ?_
  rintro ⟨i, o, p⟩ hI
  have hob := hI.bd
  have hle := hI.le
  simp only at hI hob hle
  have hpl := hI.len
  by_cases hi2 : i < o.length
  · obtain ⟨v, ev⟩ : ∃ v, v = geti o (((i : Nat) : Int).toNat : Nat) := ⟨_, rfl⟩
    have ev2 : o[i]? = some v := by
      rw [ev, Int.toNat_natCast]; simp [geti, List.getD_eq_getElem?_getD, List.getElem?_eq_getElem hi2]
    have hvm : v ∈ o := List.mem_of_getElem? ev2
    have hvr := hI.rng v hvm
    have hnv := hnear v
    have hnl := fun u => hF.bnd v u
    have hnd := hF.nd v
    have hin := hI.into ev2
    have hlen : (nearL E v).length ≤ W.length := nd_len hnd (fun x hx => (hF.bnd v x hx).1)
    repeat' (first | (apply AOps.nil; try simp only [List.nil_append, List.cons_append, List.set_cons_zero, List.set_cons_succ, List.length_cons, List.length_nil, Nat.reduceAdd, AV.sh, AV.sh1, AV.sh0, AO.sh, List.map_cons, List.map_nil, Nat.zero_add, Nat.add_zero, setAll]) | (apply w_move; exact rfl; exact rfl) | (apply w_assign; exact rfl; exact rfl) | apply AWp.seq | apply AWp.region | ((apply AWp.condP; exact rfl) <;> intro h) | apply AWp.block | apply AWp.ret | apply AWp.exit | apply AWp.skip | (apply w_len; exact rfl; exact rfl; first | exact .ints _ | exact .intss _ | exact .sli rfl | exact .sls rfl | exact .slr rfl | exact .orow rfl | exact .nil) | omega | ((apply w_lss); iterate 3 exact rfl))
    refine AWp.regionG [] (by kernel_rfl) (envC := ⟨74, [(2, .optr 1 0), (6, .own 2), (8, .own 3), (9, .i i), (10, .own 4)]⟩) (osC := [.keep 1 K, .bx 29 [.ints W, .intss E], .sli 2 p, .sli 2 o, .sli 2 (nearL E v)]) rfl (by first | exact rfl | (simp [AO.lim, AV.lim, bL_lim]; done)) ?_ ?_
    · rw [ev] at hnv ⊢
      repeat' (first | (apply AOps.nil; try simp only [List.nil_append, List.cons_append, List.set_cons_zero, List.set_cons_succ, List.length_cons, List.length_nil, Nat.reduceAdd, AV.sh, AV.sh1, AV.sh0, AO.sh, List.map_cons, List.map_nil, Nat.zero_add, Nat.add_zero, setAll]) | (apply w_move; exact rfl; exact rfl) | (apply w_assign; exact rfl; exact rfl) | apply AllOfG.nil | (apply AllOfG.consS; exact rfl; exact rfl) | (apply AAnyG.takeW; exact rfl; exact rfl; kernel_rfl; kernel_rfl) | (apply AAnyG.takeL; exact rfl; exact rfl; kernel_rfl) | (apply AAnyG.all; exact rfl) | (apply AAnyG.done; exact rfl) | (apply w_callm (hnv); (focus ((repeat (first | exact im_nil | refine im_cons rfl (im_agg2 (.ints _) (.intss _)) ?_ | refine im_cons rfl (.val _) ?_)); done)); rintro r os0 ⟨rfl, rfl⟩; try simp only [List.nil_append, List.cons_append, List.set_cons_zero, List.set_cons_succ, List.length_cons, List.length_nil, Nat.reduceAdd, AV.sh, AV.sh1, AV.sh0, AO.sh, List.map_cons, List.map_nil, Nat.zero_add, Nat.add_zero, setAll]) | omega | (apply w_idxo; exact rfl; exact rfl; (exact .sli rfl); exact rfl) | (apply w_ldo; iterate 4 exact rfl) | (apply w_ldst; iterate 5 exact rfl))
      all_goals (apply Or.inl; refine ⟨lee rfl ?_, ?_, rfl, (by first | exact rfl | (simp [AO.lim, AV.lim, bL_lim]; done))⟩; (focus ((repeat (first | exact le_nil | refine le_eq rfl rfl ?_)); done)); (focus ((repeat (first | exact lo_nil | refine lo_eq rfl ?_)); done)))
    clear hnv
    repeat' (first | (apply AOps.nil; try simp only [List.nil_append, List.cons_append, List.set_cons_zero, List.set_cons_succ, List.length_cons, List.length_nil, Nat.reduceAdd, AV.sh, AV.sh1, AV.sh0, AO.sh, List.map_cons, List.map_nil, Nat.zero_add, Nat.add_zero, setAll]) | (apply w_assign; exact rfl; exact rfl) | apply AWp.seq | apply AWp.region | apply AWp.block)
    refine AWp.loop (ι := Nat × List Int × List Int) (fun x => ⟨74, [(2, .optr 1 0), (6, .own 2), (8, .own 3), (9, .i i), (10, .own 4), (11, .i x.1)]⟩) (fun x => [.keep 1 K, .bx 29 [.ints W, .intss E], .sli 2 x.2.2, .sli 2 x.2.1, .sli 2 (nearL E v)]) (fun x => x.1 ≤ (nearL E v).length ∧ InvK W.length (nearL E) r i v ((nearL E v).take x.1) x.2.1 x.2.2) (fun x => (nearL E v).length - x.1) (0, o, p) ⟨by simp only; omega, hin⟩ ⟨lee rfl (by (repeat (first | exact le_nil | refine le_eq rfl rfl ?_))), by (repeat (first | exact lo_nil | refine lo_eq rfl ?_)), rfl, (by first | exact rfl | (simp [AO.lim, AV.lim, bL_lim]; done))⟩ ?_
    rintro ⟨k, o, p⟩ ⟨k0, hK⟩
    simp only at k0 hK
    have hob2 := hK.bd
    have hpl2 := hK.len
    have hat := hK.at_
    have hio : i < o.length := (List.getElem?_eq_some_iff.1 hat).1
    have hgv : geti o (((i : Nat) : Int).toNat : Nat) = v := by
      rw [Int.toNat_natCast]; simp [geti, List.getD_eq_getElem?_getD, hat]
    by_cases hk : k < (nearL E v).length
    · obtain ⟨u, eu⟩ : ∃ u, u = geti (nearL E v) (((k : Nat) : Int).toNat : Nat) := ⟨_, rfl⟩
      have eu2 : (nearL E v)[k]? = some u := by
        rw [eu, Int.toNat_natCast]; simp [geti, List.getD_eq_getElem?_getD, List.getElem?_eq_getElem hk]
      have hum : u ∈ nearL E v := List.mem_of_getElem? eu2
      obtain ⟨u0, _, _⟩ := hnl u hum
      have et : (nearL E v).take (k + 1) = (nearL E v).take k ++ [u] := by rw [List.take_add_one, eu2]; rfl
      have hdn : ∀ x ∈ (nearL E v).take k, x ∈ nearL E v := fun x hx => List.mem_of_mem_take hx
      have hud : u ∉ (nearL E v).take k := fun hx => by
        obtain ⟨j, hj, ej⟩ := List.mem_take_iff_getElem.1 hx
        have e1 : (nearL E v)[j]? = some u := by rw [List.getElem?_eq_getElem (by omega), ej]
        have := nd_get hnd e1 eu2
        omega
      have hskip := fun hu => hK.skip (u := u) hu
      have hpush := fun hu => hK.push hF hdn hum hud hu
      rw [← et] at hskip hpush
      generalize nearL E v = nv at *
      by_cases hup : u = geti p v
      · have hq := hskip hup
        have hup' : geti nv (((k : Nat) : Int).toNat : Nat) = geti p ((geti o (((i : Nat) : Int).toNat : Nat)).toNat : Nat) := by rw [hgv, Int.toNat_of_nonneg hvr.1, ← eu]; exact hup
        repeat' (first | (apply AOps.nil; try simp only [List.nil_append, List.cons_append, List.set_cons_zero, List.set_cons_succ, List.length_cons, List.length_nil, Nat.reduceAdd, AV.sh, AV.sh1, AV.sh0, AO.sh, List.map_cons, List.map_nil, Nat.zero_add, Nat.add_zero, setAll]) | (apply w_move; exact rfl; exact rfl) | apply AWp.seq | apply AWp.region | ((apply AWp.condP; exact rfl) <;> intro h) | apply AWp.block | apply AWp.exit | apply AWp.skip | (apply w_len; exact rfl; exact rfl; first | exact .ints _ | exact .intss _ | exact .sli rfl | exact .sls rfl | exact .slr rfl | exact .orow rfl | exact .nil) | omega | ((apply w_lss); iterate 3 exact rfl))
        refine AWp.regionQ (by kernel_rfl) (by kernel_rfl) ?_
        repeat' (first | (apply AOps.nil; try simp only [List.nil_append, List.cons_append, List.set_cons_zero, List.set_cons_succ, List.length_cons, List.length_nil, Nat.reduceAdd, AV.sh, AV.sh1, AV.sh0, AO.sh, List.map_cons, List.map_nil, Nat.zero_add, Nat.add_zero, setAll]) | (apply w_move; exact rfl; exact rfl) | (apply w_assign; exact rfl; exact rfl) | apply AWp.seq | apply AWp.region | ((apply AWp.condP; exact rfl) <;> intro h) | apply AWp.skip | omega | ((first | apply w_neq | apply w_add | apply w_idx | apply w_ld); iterate 3 exact rfl) | (apply w_idxo; exact rfl; exact rfl; (exact .sli rfl); exact rfl) | (apply w_ldo; iterate 4 exact rfl) | (apply inI_of <;> omega))
        all_goals try (exfalso; first | exact absurd hup' (by assumption) | exact absurd (by assumption) hup')
        exact ⟨(k + 1, o, p), ⟨by simp only; omega, hq⟩, by simp only; omega, ⟨lee rfl (by (repeat (first | exact le_nil | refine le_eq rfl rfl ?_))), by (repeat (first | exact lo_nil | refine lo_eq rfl ?_)), rfl, (by first | exact rfl | (simp [AO.lim, AV.lim, bL_lim]; done))⟩⟩
      · have hq := hpush hup
        have hup' : ¬ geti nv (((k : Nat) : Int).toNat : Nat) = geti p ((geti o (((i : Nat) : Int).toNat : Nat)).toNat : Nat) := by rw [hgv, Int.toNat_of_nonneg hvr.1, ← eu]; exact hup
        have hbl : (o.length + [u].length) * 8 ≤ 140737488355328 := by
          simp only [List.length_cons, List.length_nil]; omega
        repeat' (first | (apply AOps.nil; try simp only [List.nil_append, List.cons_append, List.set_cons_zero, List.set_cons_succ, List.length_cons, List.length_nil, Nat.reduceAdd, AV.sh, AV.sh1, AV.sh0, AO.sh, List.map_cons, List.map_nil, Nat.zero_add, Nat.add_zero, setAll]) | (apply w_move; exact rfl; exact rfl) | apply AWp.seq | apply AWp.region | ((apply AWp.condP; exact rfl) <;> intro h) | apply AWp.block | apply AWp.exit | apply AWp.skip | (apply w_len; exact rfl; exact rfl; first | exact .ints _ | exact .intss _ | exact .sli rfl | exact .sls rfl | exact .slr rfl | exact .orow rfl | exact .nil) | omega | ((apply w_lss); iterate 3 exact rfl))
        refine AWp.regionQ (by kernel_rfl) (by kernel_rfl) ?_
        repeat' (first | (apply AOps.nil; try simp only [List.nil_append, List.cons_append, List.set_cons_zero, List.set_cons_succ, List.length_cons, List.length_nil, Nat.reduceAdd, AV.sh, AV.sh1, AV.sh0, AO.sh, List.map_cons, List.map_nil, Nat.zero_add, Nat.add_zero, setAll]) | (apply w_move; exact rfl; exact rfl) | apply AWp.seq | apply AWp.region | ((apply AWp.condP; exact rfl) <;> intro h) | apply AWp.skip | omega | ((first | apply w_neq | apply w_idx | apply w_ld); iterate 3 exact rfl) | (apply w_idxo; exact rfl; exact rfl; (exact .sli rfl); exact rfl) | (apply w_ldo; iterate 4 exact rfl))
        all_goals try (exfalso; first | exact absurd hup' (by assumption) | exact absurd (by assumption) hup')
        refine AWp.regionG [] (by kernel_rfl) (envC := ⟨74, [(2, .optr 1 0), (6, .own 2), (8, .own 3), (9, .i i), (10, .own 4), (11, .i k)]⟩) (osC := [.keep 1 K, .bx 29 [.ints W, .intss E], .sli 2 (p.set u.toNat v), .sli 2 o, .sli 2 nv]) rfl (by first | exact rfl | (simp [AO.lim, AV.lim, bL_lim]; done)) ?_ ?_
        · rw [eu] at u0 ⊢
          rw [← hgv] at hvr ⊢
          repeat' (first | (apply AOps.nil; try simp only [List.nil_append, List.cons_append, List.set_cons_zero, List.set_cons_succ, List.length_cons, List.length_nil, Nat.reduceAdd, AV.sh, AV.sh1, AV.sh0, AO.sh, List.map_cons, List.map_nil, Nat.zero_add, Nat.add_zero, setAll]) | (apply w_move; exact rfl; exact rfl) | apply AllOfG.nil | (apply AllOfG.consS; exact rfl; exact rfl) | (apply AAnyG.takeW; exact rfl; exact rfl; kernel_rfl; kernel_rfl) | (apply AAnyG.takeL; exact rfl; exact rfl; kernel_rfl) | (apply AAnyG.all; exact rfl) | (apply AAnyG.done; exact rfl) | omega | (apply w_idxo; exact rfl; exact rfl; (exact .sli rfl); exact rfl) | (apply w_ldo; iterate 4 exact rfl) | (apply w_sti; exact rfl; exact rfl; rotate_left 1; exact rfl; rotate_left 2) | (apply inI_of <;> omega))
          all_goals (apply Or.inl; refine ⟨lee rfl ?_, ?_, rfl, (by first | exact rfl | (simp [AO.lim, AV.lim, bL_lim]; done))⟩; (focus ((repeat (first | exact le_nil | refine le_eq rfl rfl ?_)); done)); (focus ((repeat (first | exact lo_nil | refine lo_eq rfl ?_)); done)))
        generalize p.set u.toNat v = p' at *
        repeat' (first | (apply AOps.nil; try simp only [List.nil_append, List.cons_append, List.set_cons_zero, List.set_cons_succ, List.length_cons, List.length_nil, Nat.reduceAdd, AV.sh, AV.sh1, AV.sh0, AO.sh, List.map_cons, List.map_nil, Nat.zero_add, Nat.add_zero, setAll]) | (apply w_move; exact rfl; exact rfl) | (apply w_assign; exact rfl; exact rfl) | apply AWp.region | omega | ((first | apply w_add | apply w_idx | apply w_ld); iterate 3 exact rfl) | ((apply w_bs1); iterate 2 exact rfl) | (apply w_idxo; exact rfl; exact rfl; (exact .sli rfl); exact rfl) | (apply w_ldo; iterate 4 exact rfl) | (apply w_app; exact rfl; exact rfl; exact rfl; exact rfl; (exact .sli rfl); rotate_left 1; simp only [Env.mp, List.map_cons, List.map_nil, List.set_cons_zero, List.set_cons_succ, AV.kill, AV.kill1, AO.kill, AV.noRow, AV.noRow1, AO.via, reduceIte, Nat.reduceEqDiff, Nat.reduceLT, Env.up, Nat.zero_ne_one, Nat.one_ne_zero, Nat.reduceAdd, List.cons_append, List.nil_append]; rotate_left 1) | (apply inI_of <;> omega))
        rw [eu] at hbl u0
        repeat' (apply AOps.nil; try simp only [List.nil_append, List.cons_append, List.set_cons_zero, List.set_cons_succ, List.length_cons, List.length_nil, Nat.reduceAdd, AV.sh, AV.sh1, AV.sh0, AO.sh, List.map_cons, List.map_nil, Nat.zero_add, Nat.add_zero, setAll])
        exact ⟨(k + 1, o ++ [u], p'), ⟨by simp only; omega, hq⟩, by simp only; omega, by rw [eu]; exact ⟨lee rfl (by (repeat (first | exact le_nil | refine le_eq rfl rfl ?_))), by (repeat (first | exact lo_nil | refine lo_eq rfl ?_)), rfl, (by first | exact rfl | (simp [AO.lim, AV.lim, bL_lim]; done))⟩⟩
    · have ek : k = (nearL E v).length := by omega
      subst ek
      rw [List.take_length] at hK
      have hout := hK.out
      repeat' (first | (apply AOps.nil; try simp only [List.nil_append, List.cons_append, List.set_cons_zero, List.set_cons_succ, List.length_cons, List.length_nil, Nat.reduceAdd, AV.sh, AV.sh1, AV.sh0, AO.sh, List.map_cons, List.map_nil, Nat.zero_add, Nat.add_zero, setAll]) | (apply w_move; exact rfl; exact rfl) | (apply w_assign; exact rfl; exact rfl) | apply AWp.seq | apply AWp.region | ((apply AWp.condP; exact rfl) <;> intro h) | apply AWp.block | apply AWp.exit | apply AWp.skip | (apply w_len; exact rfl; exact rfl; first | exact .ints _ | exact .intss _ | exact .sli rfl | exact .sls rfl | exact .slr rfl | exact .orow rfl | exact .nil) | omega | ((first | apply w_lss | apply w_add); iterate 3 exact rfl) | (apply inI_of <;> omega))
      exact ⟨(i + 1, o, p), hout, by simp only; omega, ⟨lee rfl (by (repeat (first | exact le_nil | refine le_eq rfl rfl ?_))), by (repeat (first | exact lo_nil | refine lo_eq rfl ?_)), rfl, (by first | exact rfl | (simp [AO.lim, AV.lim, bL_lim]; done))⟩⟩
  · have ei : i = o.length := by omega
    subst ei
    repeat' (first | (apply AOps.nil; try simp only [List.nil_append, List.cons_append, List.set_cons_zero, List.set_cons_succ, List.length_cons, List.length_nil, Nat.reduceAdd, AV.sh, AV.sh1, AV.sh0, AO.sh, List.map_cons, List.map_nil, Nat.zero_add, Nat.add_zero, setAll]) | (apply w_move; exact rfl; exact rfl) | (apply w_assign; exact rfl; exact rfl) | apply AWp.seq | apply AWp.region | ((apply AWp.condP; exact rfl) <;> intro h) | apply AWp.block | apply AWp.ret | apply AWp.exit | apply AWp.skip | (apply w_len; exact rfl; exact rfl; first | exact .ints _ | exact .intss _ | exact .sli rfl | exact .sls rfl | exact .slr rfl | exact .orow rfl | exact .nil) | omega | ((apply w_lss); iterate 3 exact rfl))
    refine ⟨⟨74, [(4, .own 1), (5, .own 2)]⟩, [.sli 2 o, .sli 2 p], .tup [.own 0, .own 1], Turns.or ?_, ResIs.a2 rfl rfl rfl, all_cons' trivial (all_cons' trivial all_nil'), ⟨rfl, o, p, hI, rfl⟩, all_cons' trivial (all_cons' trivial all_nil')⟩
    (apply Or.inr; refine ⟨[0, 3, 2], ⟨by decide, fun x hx => Nat.lt_of_lt_of_le ((by decide : ∀ x ∈ ([0, 3, 2] : List Nat), x < 4) x hx) (Nat.le_of_ble_eq_true rfl)⟩, lee rfl ?_, ?_, rfl, (by first | exact rfl | (simp [AO.lim, AV.lim, bL_lim]; done))⟩; (focus ((repeat (first | exact le_nil | refine le_eq rfl rfl ?_)); done)); (focus ((repeat (first | exact lo_nil | refine lo_eq rfl ?_)); done)))
end Go.Proofs.Ytlkhcelodcneiaa
/-
  Numbers of components, walked: the reference. Condition: a forest of at most 40 vertices.
-/
namespace Go.Proofs.Ytlkhcelodcneiaa
open Go Go.RowKit
attribute [local irreducible] AWp AOps ResIs Ret1 QOp LOp COp AFnV AFn Imms LeE LeO
set_option maxHeartbeats 1000000
set_option linter.unusedSimpArgs false
set_option linter.unusedVariables false

theorem l01Index_at (L : List Int) (p : Int) (j0 : Nat) (hl : L.length ≤ 1000000) (h0 : j0 < L.length) (h1 : geti L (j0 : Nat) = p) (h2 : ∀ j : Nat, j < j0 → geti L (j : Nat) ≠ p) : AFnV Try.prog 26 [.ints L, .i p] (.int .i64 j0) := by
  (refine AFnV.start Try.func26 Try.ntmps26 rfl (by kernel_rfl) fun hk => ?_; simp only [Env.start, enumF, List.length_cons, List.length_nil, Nat.reduceAdd, Nat.reduceSub, List.cons_append, List.nil_append])
  repeat' (first | (apply AOps.nil; try simp only [List.nil_append, List.cons_append, List.set_cons_zero, List.set_cons_succ, List.length_cons, List.length_nil, Nat.reduceAdd, AV.sh, AV.sh1, AV.sh0, AO.sh, List.map_cons, List.map_nil, Nat.zero_add, Nat.add_zero, setAll]) | (apply w_assign; exact rfl; exact rfl) | apply AWp.seq | apply AWp.region | apply AWp.block)
  refine AWp.loop (ι := Nat) (fun i => ⟨19, [(0, .ints L), (1, .i p), (5, .i i)]⟩) (fun _ => []) (fun i => i ≤ j0) (fun i => j0 - i) 0 (by omega) ⟨lee rfl (by (repeat (first | exact le_nil | refine le_eq rfl rfl ?_))), by (repeat (exact lo_nil)), rfl, rfl⟩ ?_
  intro i i0
  by_cases e : i = j0
  · subst e
    repeat' (first | (apply AOps.nil; try simp only [List.nil_append, List.cons_append, List.set_cons_zero, List.set_cons_succ, List.length_cons, List.length_nil, Nat.reduceAdd, AV.sh, AV.sh1, AV.sh0, AO.sh, List.map_cons, List.map_nil, Nat.zero_add, Nat.add_zero, setAll]) | (apply w_move; exact rfl; exact rfl) | (apply w_assign; exact rfl; exact rfl) | apply AWp.seq | apply AWp.region | ((apply AWp.condP; exact rfl) <;> intro h) | apply AWp.block | apply AWp.ret | apply AWp.exit | apply AWp.skip | (apply w_len; exact rfl; exact rfl; first | exact .ints _ | exact .intss _ | exact .sli rfl | exact .sls rfl | exact .slr rfl | exact .orow rfl | exact .nil) | omega | ((first | apply w_lss | apply w_eql | apply w_idx | apply w_ld); iterate 3 exact rfl))
    exact .int Try.results26 rfl rfl
  · have := h2 i (by omega)
    repeat' (first | (apply AOps.nil; try simp only [List.nil_append, List.cons_append, List.set_cons_zero, List.set_cons_succ, List.length_cons, List.length_nil, Nat.reduceAdd, AV.sh, AV.sh1, AV.sh0, AO.sh, List.map_cons, List.map_nil, Nat.zero_add, Nat.add_zero, setAll]) | (apply w_move; exact rfl; exact rfl) | (apply w_assign; exact rfl; exact rfl) | apply AWp.seq | apply AWp.region | ((apply AWp.condP; exact rfl) <;> intro h) | apply AWp.block | apply AWp.ret | apply AWp.exit | apply AWp.skip | (apply w_len; exact rfl; exact rfl; first | exact .ints _ | exact .intss _ | exact .sli rfl | exact .sls rfl | exact .slr rfl | exact .orow rfl | exact .nil) | omega | ((first | apply w_lss | apply w_eql | apply w_add | apply w_idx | apply w_ld); iterate 3 exact rfl) | (apply inI_of <;> omega))
    exact ⟨i + 1, by omega, by omega, ⟨lee rfl (by (repeat (first | exact le_nil | refine le_eq rfl rfl ?_))), by (repeat (exact lo_nil)), rfl, rfl⟩⟩

set_option maxHeartbeats 16000000 in
theorem l11Labels_c (W : List Int) (E : List (List Int)) (h : GrF W E) : AFn Try.prog 25 [.agg [.ints W, .intss E]] (IsInts 2 (labS W.length (nearL E) W.length)) := by
  have hn := h.n
  have hF := h.fo.fst
  have hord := l11Order_c W E h
  have hstart := LbI.start (near := nearL E) (n := W.length) (by omega)
  (refine AFn.start Try.func25 Try.ntmps25 rfl (by kernel_rfl) fun hk => ?_; simp only [Env.start, enumF, List.length_cons, List.length_nil, Nat.reduceAdd, Nat.reduceSub, List.cons_append, List.nil_append])
  repeat' (first | (apply AOps.nil; try simp only [List.nil_append, List.cons_append, List.set_cons_zero, List.set_cons_succ, List.length_cons, List.length_nil, Nat.reduceAdd, AV.sh, AV.sh1, AV.sh0, AO.sh, List.map_cons, List.map_nil, Nat.zero_add, Nat.add_zero, setAll]) | (apply w_assign; exact rfl; exact rfl) | apply AWp.seq | apply AWp.region | apply AWp.block | ((apply w_boxa); iterate 2 exact rfl) | (apply w_bs0; iterate 1 exact rfl))
  refine AWp.loop (ι := Nat) (fun i => ⟨54, [(1, .optr 0 0), (3, .own 1), (4, .i 0), (5, .i i)]⟩) (fun i => [.bx 29 [.ints W, .intss E], .sli 2 (List.replicate i (-1))]) (fun i => i ≤ W.length) (fun i => W.length - i) 0 (by omega) ⟨lee rfl (by (repeat (first | exact le_nil | refine le_eq rfl rfl ?_))), by (repeat (first | exact lo_nil | refine lo_eq rfl ?_)), rfl, rfl⟩ ?_
  intro i i0
  have hrl : (List.replicate i (-1 : Int)).length = i := List.length_replicate
  have hrs : List.replicate (i + 1) (-1 : Int) = List.replicate i (-1) ++ [-1] := List.replicate_succ'
  by_cases hi : i < W.length
  · have hbl : ((List.replicate i (-1 : Int)).length + [(-1 : Int)].length) * 8 ≤ 140737488355328 := by
      simp only [List.length_cons, List.length_nil]; omega
    generalize List.replicate i (-1 : Int) = L at *
    repeat' (first | (apply AOps.nil; try simp only [List.nil_append, List.cons_append, List.set_cons_zero, List.set_cons_succ, List.length_cons, List.length_nil, Nat.reduceAdd, AV.sh, AV.sh1, AV.sh0, AO.sh, List.map_cons, List.map_nil, Nat.zero_add, Nat.add_zero, setAll]) | (apply w_move; exact rfl; exact rfl) | (apply w_assign; exact rfl; exact rfl) | apply AWp.seq | apply AWp.region | ((apply AWp.condP; exact rfl) <;> intro h) | apply AWp.block | apply AWp.exit | apply AWp.skip | (apply w_len; exact rfl; exact rfl; first | exact .ints _ | exact .intss _ | exact .sli rfl | exact .sls rfl | exact .slr rfl | exact .orow rfl | exact .nil) | omega | ((first | apply w_lss | apply w_add | apply w_ld | apply w_fa); iterate 3 exact rfl) | ((apply w_bs1); iterate 2 exact rfl) | (apply w_ldb; iterate 5 exact rfl) | (apply w_app; exact rfl; exact rfl; exact rfl; exact rfl; (exact .sli rfl); rotate_left 1; simp only [Env.mp, List.map_cons, List.map_nil, List.set_cons_zero, List.set_cons_succ, AV.kill, AV.kill1, AO.kill, AV.noRow, AV.noRow1, AO.via, reduceIte, Nat.reduceEqDiff, Nat.reduceLT, Env.up, Nat.zero_ne_one, Nat.one_ne_zero, Nat.reduceAdd, List.cons_append, List.nil_append]; rotate_left 1) | (apply inI_of <;> omega))
    exact ⟨i + 1, by omega, by omega, ⟨lee rfl (by (repeat (first | exact le_nil | refine le_eq rfl rfl ?_))), by (repeat (first | exact lo_nil | refine lo_eq rfl ?_ | refine lo_eq (congrArg (AO.sli _) (hrs.symm)) ?_)), rfl, rfl⟩⟩
  have ei : i = W.length := by omega
  subst ei
  repeat' (first | (apply AOps.nil; try simp only [List.nil_append, List.cons_append, List.set_cons_zero, List.set_cons_succ, List.length_cons, List.length_nil, Nat.reduceAdd, AV.sh, AV.sh1, AV.sh0, AO.sh, List.map_cons, List.map_nil, Nat.zero_add, Nat.add_zero, setAll]) | (apply w_move; exact rfl; exact rfl) | (apply w_assign; exact rfl; exact rfl) | apply AWp.seq | apply AWp.region | ((apply AWp.condP; exact rfl) <;> intro h) | apply AWp.block | apply AWp.exit | apply AWp.skip | (apply w_len; exact rfl; exact rfl; first | exact .ints _ | exact .intss _ | exact .sli rfl | exact .sls rfl | exact .slr rfl | exact .orow rfl | exact .nil) | omega | ((first | apply w_lss | apply w_ld | apply w_fa); iterate 3 exact rfl) | (apply w_ldb; iterate 5 exact rfl))
  refine AWp.loop (ι := Nat × List Int × Int) (fun x => ⟨54, [(1, .optr 0 0), (3, .own 1), (4, .i x.2.2), (6, .i x.1)]⟩) (fun x => [.bx 29 [.ints W, .intss E], .sli 2 x.2.1]) (fun x => x.1 ≤ W.length ∧ LbI W.length (nearL E) x.1 x.2.1 x.2.2 ∧ x.2.1 = labS W.length (nearL E) x.1) (fun x => W.length - x.1) (0, List.replicate W.length (-1), 0) ⟨by simp only; omega, hstart, rfl⟩ ⟨lee rfl (by (repeat (first | exact le_nil | refine le_eq rfl rfl ?_))), by (repeat (first | exact lo_nil | refine lo_eq rfl ?_)), rfl, rfl⟩ ?_
  rintro ⟨i, L, m⟩ ⟨i1, hI, hS⟩
  simp only at i1 hI hS
  have hl := hI.len
  by_cases hi2 : i < W.length
  · have hmn : 0 ≤ m := by rw [hI.num]; omega
    by_cases hc : 0 ≤ geti L (i : Nat)
    · have hsk := hI.skip hi2 hc
      have hsk2 := labS_skip hI hi2 hc hS
      have hc' : 0 ≤ geti L (((i : Nat) : Int).toNat : Nat) := by rw [Int.toNat_natCast]; exact hc
      repeat' (first | (apply AOps.nil; try simp only [List.nil_append, List.cons_append, List.set_cons_zero, List.set_cons_succ, List.length_cons, List.length_nil, Nat.reduceAdd, AV.sh, AV.sh1, AV.sh0, AO.sh, List.map_cons, List.map_nil, Nat.zero_add, Nat.add_zero, setAll]) | (apply w_move; exact rfl; exact rfl) | (apply w_assign; exact rfl; exact rfl) | apply AWp.seq | apply AWp.region | ((apply AWp.condP; exact rfl) <;> intro h) | apply AWp.block | apply AWp.ret | apply AWp.exit | apply AWp.skip | (apply w_len; exact rfl; exact rfl; first | exact .ints _ | exact .intss _ | exact .sli rfl | exact .sls rfl | exact .slr rfl | exact .orow rfl | exact .nil) | omega | ((first | apply w_lss | apply w_geq | apply w_add | apply w_idx | apply w_ld); iterate 3 exact rfl) | (apply w_idxo; exact rfl; exact rfl; (exact .sli rfl); exact rfl) | (apply w_ldo; iterate 4 exact rfl) | (apply inI_of <;> omega))
      all_goals try (exfalso; omega)
      exact ⟨(i + 1, L, m), ⟨by simp only; omega, hsk, hsk2⟩, by simp only; omega, ⟨lee rfl (by (repeat (first | exact le_nil | refine le_eq rfl rfl ?_))), by (repeat (first | exact lo_nil | refine lo_eq rfl ?_)), rfl, rfl⟩⟩
    · have hc' : ¬ 0 ≤ geti L (((i : Nat) : Int).toNat : Nat) := by rw [Int.toNat_natCast]; exact hc
      have hor := hord (i : Nat) ⟨by omega, by omega⟩
      repeat' (first | (apply AOps.nil; try simp only [List.nil_append, List.cons_append, List.set_cons_zero, List.set_cons_succ, List.length_cons, List.length_nil, Nat.reduceAdd, AV.sh, AV.sh1, AV.sh0, AO.sh, List.map_cons, List.map_nil, Nat.zero_add, Nat.add_zero, setAll]) | (apply w_move; exact rfl; exact rfl) | (apply w_assign; exact rfl; exact rfl) | apply AWp.seq | apply AWp.region | ((apply AWp.condP; exact rfl) <;> intro h) | apply AWp.block | apply AWp.ret | apply AWp.exit | apply AWp.skip | (apply w_len; exact rfl; exact rfl; first | exact .ints _ | exact .intss _ | exact .sli rfl | exact .sls rfl | exact .slr rfl | exact .orow rfl | exact .nil) | (apply w_callc [] (hor); exact rfl; (exact handed0); (focus ((repeat (first | exact imu_nil | refine imu_cons rfl (imu_agg2 (.ints _) (.intss _)) ?_ | refine imu_cons rfl (.val _) ?_)); done)); rintro r os0 ⟨rfl, o, p, htr, rfl⟩; try simp only [List.nil_append, List.cons_append, List.set_cons_zero, List.set_cons_succ, List.length_cons, List.length_nil, Nat.reduceAdd, AV.sh, AV.sh1, AV.sh0, AO.sh, List.map_cons, List.map_nil, Nat.zero_add, Nat.add_zero, setAll]) | omega | ((first | apply w_lss | apply w_geq | apply w_idx | apply w_ld | apply w_extv); iterate 3 exact rfl) | ((first | apply w_idxs | apply w_lds | apply w_ext); iterate 3 exact rfl) | (apply w_idxo; exact rfl; exact rfl; (exact .sli rfl); exact rfl) | (apply w_ldo; iterate 4 exact rfl) | (apply w_ldst; iterate 5 exact rfl))
      all_goals try (exfalso; omega)
      obtain ⟨hnew, hmlt⟩ := hI.new hF hi2 hc htr
      have hnew2 := labS_new hF hI hi2 hc htr hS
      have hol := htr.bd
      have hor' := htr.rng
      refine AWp.loop (ι := Nat) (fun j => ⟨54, [(1, .optr 0 0), (3, .own 1), (4, .i m), (6, .i i), (7, .own 2), (9, .i j)]⟩) (fun j => [.bx 29 [.ints W, .intss E], .sli 2 (setT L (o.take j) m), .sli 2 o]) (fun j => j ≤ o.length) (fun j => o.length - j) 0 (by omega) ⟨lee rfl (by (repeat (first | exact le_nil | refine le_eq rfl rfl ?_))), by (repeat (first | exact lo_nil | refine lo_eq rfl ?_)), rfl, rfl⟩ ?_
      intro j j0
      have hsl := setT_len m (o.take j) L
      by_cases hj : j < o.length
      · obtain ⟨x, ex⟩ : ∃ x, x = geti o (((j : Nat) : Int).toNat : Nat) := ⟨_, rfl⟩
        have ex2 : o[j]? = some x := by
          rw [ex, Int.toNat_natCast]; simp [geti, List.getD_eq_getElem?_getD, List.getElem?_eq_getElem hj]
        have hxr := hor' x (List.mem_of_getElem? ex2)
        have et : setT L (o.take (j + 1)) m = (setT L (o.take j) m).set x.toNat m := by
          rw [List.take_add_one, ex2]; exact setT_snoc L (o.take j) x m
        generalize setT L (o.take j) m = M at *
        rw [ex] at hxr et
        repeat' (first | (apply AOps.nil; try simp only [List.nil_append, List.cons_append, List.set_cons_zero, List.set_cons_succ, List.length_cons, List.length_nil, Nat.reduceAdd, AV.sh, AV.sh1, AV.sh0, AO.sh, List.map_cons, List.map_nil, Nat.zero_add, Nat.add_zero, setAll]) | (apply w_move; exact rfl; exact rfl) | (apply w_assign; exact rfl; exact rfl) | apply AWp.seq | apply AWp.region | ((apply AWp.condP; exact rfl) <;> intro h) | apply AWp.block | apply AWp.exit | apply AWp.skip | (apply w_len; exact rfl; exact rfl; first | exact .ints _ | exact .intss _ | exact .sli rfl | exact .sls rfl | exact .slr rfl | exact .orow rfl | exact .nil) | omega | ((first | apply w_lss | apply w_add | apply w_idx | apply w_ld); iterate 3 exact rfl) | (apply w_idxo; exact rfl; exact rfl; (exact .sli rfl); exact rfl) | (apply w_ldo; iterate 4 exact rfl) | (apply w_sti; exact rfl; exact rfl; rotate_left 1; exact rfl; rotate_left 2) | (apply inI_of <;> omega))
        exact ⟨j + 1, by omega, by omega, ⟨lee rfl (by (repeat (first | exact le_nil | refine le_eq rfl rfl ?_))), by (repeat (first | exact lo_nil | refine lo_eq rfl ?_ | refine lo_eq (congrArg (AO.sli _) (et.symm)) ?_)), rfl, rfl⟩⟩
      · have ej : j = o.length := by omega
        subst ej
        rw [List.take_length]
        repeat' (first | (apply AOps.nil; try simp only [List.nil_append, List.cons_append, List.set_cons_zero, List.set_cons_succ, List.length_cons, List.length_nil, Nat.reduceAdd, AV.sh, AV.sh1, AV.sh0, AO.sh, List.map_cons, List.map_nil, Nat.zero_add, Nat.add_zero, setAll]) | (apply w_move; exact rfl; exact rfl) | (apply w_assign; exact rfl; exact rfl) | apply AWp.seq | apply AWp.region | ((apply AWp.condP; exact rfl) <;> intro h) | apply AWp.block | apply AWp.exit | apply AWp.skip | (apply w_len; exact rfl; exact rfl; first | exact .ints _ | exact .intss _ | exact .sli rfl | exact .sls rfl | exact .slr rfl | exact .orow rfl | exact .nil) | omega | ((first | apply w_lss | apply w_add); iterate 3 exact rfl) | (apply inI_of <;> omega))
        exact ⟨(i + 1, setT L o m, m + 1), ⟨by simp only; omega, hnew, hnew2⟩, by simp only; omega, ⟨lee rfl (by (repeat (first | exact le_nil | refine le_eq rfl rfl ?_))), by (repeat (first | exact lo_nil | refine lo_eq rfl ?_)), rfl, rfl⟩⟩
  · have ei : i = W.length := by omega
    subst ei
    repeat' (first | (apply AOps.nil; try simp only [List.nil_append, List.cons_append, List.set_cons_zero, List.set_cons_succ, List.length_cons, List.length_nil, Nat.reduceAdd, AV.sh, AV.sh1, AV.sh0, AO.sh, List.map_cons, List.map_nil, Nat.zero_add, Nat.add_zero, setAll]) | (apply w_move; exact rfl; exact rfl) | (apply w_assign; exact rfl; exact rfl) | apply AWp.seq | apply AWp.region | ((apply AWp.condP; exact rfl) <;> intro h) | apply AWp.block | apply AWp.ret | apply AWp.exit | apply AWp.skip | (apply w_len; exact rfl; exact rfl; first | exact .ints _ | exact .intss _ | exact .sli rfl | exact .sls rfl | exact .slr rfl | exact .orow rfl | exact .nil) | omega | ((apply w_lss); iterate 3 exact rfl))
    exact ⟨_, _, _, .v1 Try.results25 rfl, .sli rfl, rfl, by rw [hS]⟩
theorem labS_ok {n : Nat} {near : Int → List Int} (hF : Fst n near) (hn : 0 < n) : ∀ i, i ≤ n → ∃ m, LbI n near i (labS n near i) m
  | 0, _ => ⟨0, LbI.start hn⟩
  | i + 1, hi => by
    obtain ⟨m, h⟩ := labS_ok hF hn i (by omega)
    by_cases hc : 0 ≤ geti (labS n near i) (i : Nat)
    · rw [← labS_skip h (by omega) hc rfl]; exact ⟨m, h.skip (by omega) hc⟩
    · have hT := trC_ok hF (r := (i : Nat)) ⟨by omega, by omega⟩
      rw [← labS_new hF h (by omega) hc hT rfl]; exact ⟨m + 1, (h.new hF (by omega) hc hT).1⟩
/-- The index of a number: that of the root. -/
theorem index_root (W : List Int) (E : List (List Int)) (h : GrF W E) (v : Nat) (hv : v < W.length) :
    ∃ j : Nat, j ≤ v ∧ (j = v ↔ (v : Int) ∈ rts W.length (nearL E) W.length) ∧ AFnV Try.prog 26 [.ints (labS W.length (nearL E) W.length), .i (geti (labS W.length (nearL E) W.length) (v : Nat))] (.int .i64 j) := by
  obtain ⟨m, hL⟩ := labS_ok h.fo.fst (by have := h.n; omega) W.length (Nat.le_refl _)
  have hn := h.n
  have hlen := hL.len
  have hf := hL.first h.fo.fst hv
  by_cases hr : (v : Int) ∈ rts W.length (nearL E) W.length
  · exact ⟨v, Nat.le_refl _, ⟨fun _ => hr, fun _ => rfl⟩, l01Index_at _ _ v (by omega) (by omega) rfl (hf.2 hr)⟩
  · have hex : ∃ j : Nat, j < v ∧ geti (labS W.length (nearL E) W.length) (j : Nat) = geti (labS W.length (nearL E) W.length) (v : Nat) := by
      apply Classical.byContradiction
      intro hn2
      exact hr (hf.1 fun j hj he => hn2 ⟨j, hj, he⟩)
    have key : ∀ k : Nat, k ≤ v → (∃ j : Nat, j < k ∧ geti (labS W.length (nearL E) W.length) (j : Nat) = geti (labS W.length (nearL E) W.length) (v : Nat)) → ∃ j : Nat, j < k ∧ geti (labS W.length (nearL E) W.length) (j : Nat) = geti (labS W.length (nearL E) W.length) (v : Nat) ∧ ∀ q : Nat, q < j → geti (labS W.length (nearL E) W.length) (q : Nat) ≠ geti (labS W.length (nearL E) W.length) (v : Nat) := by
      intro k
      induction k with
      | zero => rintro _ ⟨j, hj, _⟩; omega
      | succ k ih =>
        intro hk hex
        by_cases h2 : ∃ j : Nat, j < k ∧ geti (labS W.length (nearL E) W.length) (j : Nat) = geti (labS W.length (nearL E) W.length) (v : Nat)
        · obtain ⟨j, j1, j2, j3⟩ := ih (by omega) h2
          exact ⟨j, by omega, j2, j3⟩
        · obtain ⟨j, j1, j2⟩ := hex
          have : j = k := Classical.byContradiction fun hne => h2 ⟨j, by omega, j2⟩
          subst this
          exact ⟨j, by omega, j2, fun q hq he => h2 ⟨q, hq, he⟩⟩
    obtain ⟨j, j1, j2, j3⟩ := key v (Nat.le_refl _) hex
    exact ⟨j, by omega, ⟨fun e => by omega, fun e => absurd e hr⟩, l01Index_at _ _ j (by omega) (by omega) j2 j3⟩
end Go.Proofs.Ytlkhcelodcneiaa
/-
  The search in depth, walked. Condition: a forest of at most 40 vertices.
-/
namespace Go.Proofs.Ytlkhcelodcneiaa
open Go Go.RowKit
attribute [local irreducible] AWp AOps ResIs Ret1 QOp LOp COp AFnV AFn Imms LeE LeO
set_option maxHeartbeats 1000000
set_option linter.unusedSimpArgs false
set_option linter.unusedVariables false

def stV (p r f g : Int) : Value := if okS p r f g = true then .tuple #[.int .i64 (p * f), .int .i64 (r * f - p * g)] else .tuple #[.int .i64 0, .int .i64 0]
def stS (s : WS) (p r f g : Int) : WS := if okS p r f g = true then s else s.big
theorem okS_iff (p r f g : Int) : okS p r f g = (tok r f && tok p g && tok p f && decide (-1000000000000 ≤ tmV r f - tmV p g ∧ tmV r f - tmV p g ≤ 1000000000000)) := by
  unfold okS
  cases h1 : tok r f
  · rfl
  · cases h2 : tok p g
    · rfl
    · have e1 : tmV r f = r * f := by unfold tmV; rw [if_pos h1]
      have e2 : tmV p g = p * g := by unfold tmV; rw [if_pos h2]
      rw [e1, e2]
theorem step_c (W : List Int) (N : List (List Int)) (s : WS) (p r f g : Int) (hp : inM p) (hr : inM r) (hf : inM f) (hg : inM g) :
    AFnB Try.prog 79 98 2 4 W N [.int .i64 p, .int .i64 r, .int .i64 f, .int .i64 g] s (stS s p r f g) (stV p r f g) := by
  have c1 := times_c r f hr hf
  have c2 := times_c p g hp hg
  have c3 := times_c p f hp hf
  have b1 := tmV_in r f
  have b2 := tmV_in p g
  have cv := isValue_c (tmV r f - tmV p g)
  have hok := okS_iff p r f g
  unfold inM at b1 b2
  have e1 : tok r f = true → tmV r f = r * f := fun h => by unfold tmV; rw [if_pos h]
  have e2 : tok p g = true → tmV p g = p * g := fun h => by unfold tmV; rw [if_pos h]
  have e3 : tok p f = true → tmV p f = p * f := fun h => by unfold tmV; rw [if_pos h]
  (refine AFnB.start Try.func79 Try.ntmps79 rfl (by kernel_rfl) fun K vW vN => ?_; simp only [wkL, Env.start, enumF, List.map_cons, List.map_nil, List.length_cons, List.length_nil, Nat.reduceAdd, Nat.reduceSub, Nat.zero_add, List.cons_append, List.nil_append])
  cases h1 : tok r f with
  | false =>
    rw [h1] at c1 hok
    have hk : okS p r f g = false := by rw [hok]; rfl
    have es : stS s p r f g = s.big := by unfold stS; rw [hk]; rfl
    have ev : stV p r f g = .tuple #[.int .i64 0, .int .i64 0] := by unfold stV; rw [hk]; rfl
    rw [es, ev]
    repeat' (first | (apply AOps.nil; try simp only [List.nil_append, List.cons_append, List.set_cons_zero, List.set_cons_succ, List.length_cons, List.length_nil, Nat.reduceAdd, AV.sh, AV.sh1, AV.sh0, AO.sh, List.map_cons, List.map_nil, Nat.zero_add, Nat.add_zero, setAll]) | (apply w_move; exact rfl; exact rfl) | (apply w_assign; exact rfl; exact rfl) | apply AWp.seq | apply AWp.region | (apply AWp.condT; exact rfl) | apply AWp.ret | (apply w_skip; exact rfl) | (apply w_pickT; exact rfl; exact rfl; exact rfl) | ((first | apply w_nilck | apply w_not); iterate 2 exact rfl) | ((first | apply w_fa | apply w_extv); iterate 3 exact rfl) | (apply w_call (c1); exact rfl; exact rfl; focus ((repeat (first | exact im_nil | refine im_cons rfl (.val _) ?_)); done)) | (apply w_call (c2); exact rfl; exact rfl; focus ((repeat (first | exact im_nil | refine im_cons rfl (.val _) ?_)); done)) | (apply w_call (c3); exact rfl; exact rfl; focus ((repeat (first | exact im_nil | refine im_cons rfl (.val _) ?_)); done)) | (apply w_stbv; iterate 6 exact rfl))
    all_goals first | exact ⟨.intint Try.results79 rfl rfl rfl rfl, [], rfl⟩ | (exfalso; simp_all; done)
  | true =>
    rw [h1] at c1 hok
    cases h2 : tok p g with
    | false =>
      rw [h2] at c2 hok
      have hk : okS p r f g = false := by rw [hok]; rfl
      have es : stS s p r f g = s.big := by unfold stS; rw [hk]; rfl
      have ev : stV p r f g = .tuple #[.int .i64 0, .int .i64 0] := by unfold stV; rw [hk]; rfl
      rw [es, ev]
      repeat' (first | (apply AOps.nil; try simp only [List.nil_append, List.cons_append, List.set_cons_zero, List.set_cons_succ, List.length_cons, List.length_nil, Nat.reduceAdd, AV.sh, AV.sh1, AV.sh0, AO.sh, List.map_cons, List.map_nil, Nat.zero_add, Nat.add_zero, setAll]) | (apply w_move; exact rfl; exact rfl) | (apply w_assign; exact rfl; exact rfl) | apply AWp.seq | apply AWp.region | (apply AWp.condT; exact rfl) | apply AWp.ret | (apply w_skip; exact rfl) | (apply w_pickT; exact rfl; exact rfl; exact rfl) | (apply w_pickF; exact rfl; exact rfl; exact rfl) | ((first | apply w_nilck | apply w_not); iterate 2 exact rfl) | ((first | apply w_fa | apply w_extv); iterate 3 exact rfl) | (apply w_call (c1); exact rfl; exact rfl; focus ((repeat (first | exact im_nil | refine im_cons rfl (.val _) ?_)); done)) | (apply w_call (c2); exact rfl; exact rfl; focus ((repeat (first | exact im_nil | refine im_cons rfl (.val _) ?_)); done)) | (apply w_call (c3); exact rfl; exact rfl; focus ((repeat (first | exact im_nil | refine im_cons rfl (.val _) ?_)); done)) | (apply w_stbv; iterate 6 exact rfl))
      all_goals first | exact ⟨.intint Try.results79 rfl rfl rfl rfl, [], rfl⟩ | (exfalso; simp_all; done)
    | true =>
      rw [h2] at c2 hok
      cases h3 : tok p f with
      | false =>
        rw [h3] at c3 hok
        have hk : okS p r f g = false := by rw [hok]; rfl
        have es : stS s p r f g = s.big := by unfold stS; rw [hk]; rfl
        have ev : stV p r f g = .tuple #[.int .i64 0, .int .i64 0] := by unfold stV; rw [hk]; rfl
        rw [es, ev]
        repeat' (first | (apply AOps.nil; try simp only [List.nil_append, List.cons_append, List.set_cons_zero, List.set_cons_succ, List.length_cons, List.length_nil, Nat.reduceAdd, AV.sh, AV.sh1, AV.sh0, AO.sh, List.map_cons, List.map_nil, Nat.zero_add, Nat.add_zero, setAll]) | (apply w_move; exact rfl; exact rfl) | (apply w_assign; exact rfl; exact rfl) | apply AWp.seq | apply AWp.region | (apply AWp.condT; exact rfl) | apply AWp.ret | (apply w_skip; exact rfl) | (apply w_pickT; exact rfl; exact rfl; exact rfl) | (apply w_pickF; exact rfl; exact rfl; exact rfl) | ((first | apply w_nilck | apply w_not); iterate 2 exact rfl) | ((first | apply w_fa | apply w_extv); iterate 3 exact rfl) | (apply w_call (c1); exact rfl; exact rfl; focus ((repeat (first | exact im_nil | refine im_cons rfl (.val _) ?_)); done)) | (apply w_call (c2); exact rfl; exact rfl; focus ((repeat (first | exact im_nil | refine im_cons rfl (.val _) ?_)); done)) | (apply w_call (c3); exact rfl; exact rfl; focus ((repeat (first | exact im_nil | refine im_cons rfl (.val _) ?_)); done)) | (apply w_stbv; iterate 6 exact rfl))
        all_goals first | exact ⟨.intint Try.results79 rfl rfl rfl rfl, [], rfl⟩ | (exfalso; simp_all; done)
      | true =>
        rw [h3] at c3 hok
        cases h4 : decide (-1000000000000 ≤ tmV r f - tmV p g ∧ tmV r f - tmV p g ≤ 1000000000000) with
        | false =>
          rw [h4] at cv hok
          have hk : okS p r f g = false := by rw [hok]; rfl
          have es : stS s p r f g = s.big := by unfold stS; rw [hk]; rfl
          have ev : stV p r f g = .tuple #[.int .i64 0, .int .i64 0] := by unfold stV; rw [hk]; rfl
          rw [es, ev]
          repeat' (first | (apply AOps.nil; try simp only [List.nil_append, List.cons_append, List.set_cons_zero, List.set_cons_succ, List.length_cons, List.length_nil, Nat.reduceAdd, AV.sh, AV.sh1, AV.sh0, AO.sh, List.map_cons, List.map_nil, Nat.zero_add, Nat.add_zero, setAll]) | (apply w_move; exact rfl; exact rfl) | (apply w_assign; exact rfl; exact rfl) | apply AWp.seq | apply AWp.region | (apply AWp.condT; exact rfl) | apply AWp.ret | (apply w_pickF; exact rfl; exact rfl; exact rfl) | ((first | apply w_nilck | apply w_not); iterate 2 exact rfl) | ((first | apply w_sub | apply w_fa | apply w_extv); iterate 3 exact rfl) | (apply w_call (c1); exact rfl; exact rfl; focus ((repeat (first | exact im_nil | refine im_cons rfl (.val _) ?_)); done)) | (apply w_call (c2); exact rfl; exact rfl; focus ((repeat (first | exact im_nil | refine im_cons rfl (.val _) ?_)); done)) | (apply w_call (c3); exact rfl; exact rfl; focus ((repeat (first | exact im_nil | refine im_cons rfl (.val _) ?_)); done)) | (apply w_call (cv); exact rfl; exact rfl; focus ((repeat (first | exact im_nil | refine im_cons rfl (.val _) ?_)); done)) | (apply w_stbv; iterate 6 exact rfl) | (apply inI_of <;> omega))
          all_goals first | exact ⟨.intint Try.results79 rfl rfl rfl rfl, [], rfl⟩ | (exfalso; simp_all; done)
        | true =>
          rw [h4] at cv hok
          have hk : okS p r f g = true := by rw [hok]; rfl
          have es : stS s p r f g = s := by unfold stS; rw [if_pos hk]
          have ev : stV p r f g = .tuple #[.int .i64 (tmV p f), .int .i64 (tmV r f - tmV p g)] := by unfold stV; rw [if_pos hk, e1 h1, e2 h2, e3 h3]
          rw [es, ev]
          repeat' (first | (apply AOps.nil; try simp only [List.nil_append, List.cons_append, List.set_cons_zero, List.set_cons_succ, List.length_cons, List.length_nil, Nat.reduceAdd, AV.sh, AV.sh1, AV.sh0, AO.sh, List.map_cons, List.map_nil, Nat.zero_add, Nat.add_zero, setAll]) | (apply w_move; exact rfl; exact rfl) | (apply w_assign; exact rfl; exact rfl) | apply AWp.seq | apply AWp.region | (apply AWp.condF; exact rfl) | apply AWp.ret | apply AWp.skip | (apply w_pickF; exact rfl; exact rfl; exact rfl) | ((apply w_not); iterate 2 exact rfl) | ((first | apply w_sub | apply w_extv); iterate 3 exact rfl) | (apply w_call (c1); exact rfl; exact rfl; focus ((repeat (first | exact im_nil | refine im_cons rfl (.val _) ?_)); done)) | (apply w_call (c2); exact rfl; exact rfl; focus ((repeat (first | exact im_nil | refine im_cons rfl (.val _) ?_)); done)) | (apply w_call (c3); exact rfl; exact rfl; focus ((repeat (first | exact im_nil | refine im_cons rfl (.val _) ?_)); done)) | (apply w_call (cv); exact rfl; exact rfl; focus ((repeat (first | exact im_nil | refine im_cons rfl (.val _) ?_)); done)) | (apply inI_of <;> omega))
          all_goals first | exact ⟨.intint Try.results79 rfl rfl rfl rfl, [], rfl⟩ | (exfalso; simp_all; done)
end Go.Proofs.Ytlkhcelodcneiaa
/-
  Functions with three results, the first of them new memory. No condition.
-/
namespace Go.Proofs.Ytlkhcelodcneiaa
open Go Go.RowKit
theorem ResIs.a3 {P : Program} {fn : Func} {env : Env} {os : List AO} {t u s : Tmp} (h : fn.results = #[.tmp t, .tmp u, .tmp s]) {a b c : AV} (ha : env.fd t = some a) (hb : env.fd u = some b) (hc : env.fd s = some c) : ResIs P fn env os (.tup [a, b, c]) :=
  fun _ _ _ tm hr => ⟨_, results_tmp3 h tm P _, .tup (vs := [tm.getD t undef, tm.getD u undef, tm.getD s undef]) rfl fun i => by
    match i with
    | 0 => have := hr.he t; rw [gd_of ha] at this; exact this
    | 1 => have := hr.he u; rw [gd_of hb] at this; exact this
    | 2 => have := hr.he s; rw [gd_of hc] at this; exact this
    | i + 3 => exact .any _⟩
end Go.Proofs.Ytlkhcelodcneiaa
/-
  Branch determinants, walked: the reference. Condition: a forest of at most 40 vertices.
-/
namespace Go.Proofs.Ytlkhcelodcneiaa
open Go Go.RowKit
attribute [local irreducible] AWp AOps ResIs Ret1 QOp LOp COp AFnV AFn Imms LeE LeO
set_option maxHeartbeats 1000000
set_option linter.unusedSimpArgs false
set_option linter.unusedVariables false

set_option maxHeartbeats 32000000 in
theorem l11Branches_q (W : List Int) (E : List (List Int)) (h : GrF W E) : AFnC Try.prog 53 [.agg [.ints W, .intss E]] [] (fun r os => (bdOk W.length (nearL E) W ∧ r = .tup [.own 0, .own 1, .b true] ∧ os = [.sli 2 (bdF W.length (nearL E) W), .sli 2 (bdG W.length (nearL E) W)]) ∨
      (¬ bdOk W.length (nearL E) W ∧ r = .tup [.val (.slice none 0 0), .val (.slice none 0 0), .b false] ∧ os = [])) := by
  have hn := h.n
  have hF := h.fo.fst
  have hw := h.w
  have hlab := l11Labels_c W E h
  have hord := l11Order_c W E h
  have hnear := l11Near_c W E h
  have hidx := index_root W E h
  have hlen : (labS W.length (nearL E) W.length).length = W.length := by
    obtain ⟨m, hL⟩ := labS_ok hF (by omega) W.length (Nat.le_refl _)
    exact hL.len
  have hstart := OutI.start (n := W.length) (near := nearL E) (W := W)
  generalize labS W.length (nearL E) W.length = Lb at *
  (refine AFnC.start Try.func53 Try.ntmps53 rfl (by kernel_rfl) fun K => ?_; simp only [Env.start, enumF, List.map_cons, List.map_nil, AV.sh, List.length_cons, List.length_nil, Nat.reduceAdd, Nat.reduceSub, List.cons_append, List.nil_append])
  repeat' (first | (apply AOps.nil; try simp only [List.nil_append, List.cons_append, List.set_cons_zero, List.set_cons_succ, List.length_cons, List.length_nil, Nat.reduceAdd, AV.sh, AV.sh1, AV.sh0, AO.sh, List.map_cons, List.map_nil, Nat.zero_add, Nat.add_zero, setAll]) | (apply w_assign; exact rfl; exact rfl) | apply AWp.seq | apply AWp.region | (apply w_len; exact rfl; exact rfl; first | exact .ints _ | exact .intss _ | exact .sli rfl | exact .sls rfl | exact .slr rfl | exact .orow rfl | exact .nil) | ((first | apply w_ld | apply w_fa); iterate 3 exact rfl) | ((apply w_boxa); iterate 2 exact rfl) | (apply w_ldb; iterate 5 exact rfl))
  refine AWp.regionG [] (by kernel_rfl) (envC := ⟨145, [(1, .optr 1 0), (5, .i W.length), (6, .own 2), (7, .own 3), (8, .own 4)]⟩) (osC := [.keep 1 K, .bx 29 [.ints W, .intss E], .sli 2 (List.replicate W.length 0), .sli 2 (List.replicate W.length 0), .sli 2 Lb]) rfl (by first | exact rfl | (simp [AO.lim, AV.lim, bL_lim]; done)) ?_ ?_
  · repeat' (first | (apply AOps.nil; try simp only [List.nil_append, List.cons_append, List.set_cons_zero, List.set_cons_succ, List.length_cons, List.length_nil, Nat.reduceAdd, AV.sh, AV.sh1, AV.sh0, AO.sh, List.map_cons, List.map_nil, Nat.zero_add, Nat.add_zero, setAll]) | (apply w_move; exact rfl; exact rfl) | (apply w_assign; exact rfl; exact rfl) | apply AllOfG.nil | (apply AllOfG.consQ; exact rfl; exact rfl) | (apply AllOfG.consS; exact rfl; exact rfl) | (apply AAnyG.takeW; exact rfl; exact rfl; kernel_rfl; kernel_rfl) | (apply AAnyG.takeL; exact rfl; exact rfl; kernel_rfl) | (apply AAnyG.all; exact rfl) | (apply AAnyG.done; exact rfl) | (apply w_callm (hlab); (focus ((repeat (first | exact im_nil | refine im_cons rfl (im_agg2 (.ints _) (.intss _)) ?_)); done)); rintro r os0 ⟨rfl, rfl⟩; try simp only [List.nil_append, List.cons_append, List.set_cons_zero, List.set_cons_succ, List.length_cons, List.length_nil, Nat.reduceAdd, AV.sh, AV.sh1, AV.sh0, AO.sh, List.map_cons, List.map_nil, Nat.zero_add, Nat.add_zero, setAll]) | omega | (apply w_ldst; iterate 5 exact rfl) | (apply w_mki; exact rfl; exact rfl; rotate_left 3; exact rfl; rotate_left 1))
    all_goals first | (apply Or.inl; refine ⟨lee rfl ?_, ?_, rfl, (by first | exact rfl | (simp [AO.lim, AV.lim, bL_lim]; done))⟩; (focus ((repeat (first | exact le_nil | refine le_eq rfl rfl ?_)); done)); (focus ((repeat (first | exact lo_nil | refine lo_eq rfl ?_)); done))) | (apply Or.inr; refine ⟨[0, 1, 3, 2, 4], ⟨by decide, fun x hx => Nat.lt_of_lt_of_le ((by decide : ∀ x ∈ ([0, 1, 3, 2, 4] : List Nat), x < 5) x hx) (Nat.le_of_ble_eq_true rfl)⟩, lee rfl ?_, ?_, rfl, (by first | exact rfl | (simp [AO.lim, AV.lim, bL_lim]; done))⟩; (focus ((repeat (first | exact le_nil | refine le_eq rfl rfl ?_)); done)); (focus ((repeat (first | exact lo_nil | refine lo_eq rfl ?_)); done))) | (apply Or.inr; refine ⟨[0, 1, 2, 4, 3], ⟨by decide, fun x hx => Nat.lt_of_lt_of_le ((by decide : ∀ x ∈ ([0, 1, 2, 4, 3] : List Nat), x < 5) x hx) (Nat.le_of_ble_eq_true rfl)⟩, lee rfl ?_, ?_, rfl, (by first | exact rfl | (simp [AO.lim, AV.lim, bL_lim]; done))⟩; (focus ((repeat (first | exact le_nil | refine le_eq rfl rfl ?_)); done)); (focus ((repeat (first | exact lo_nil | refine lo_eq rfl ?_)); done))) | (apply Or.inr; refine ⟨[0, 1, 4, 2, 3], ⟨by decide, fun x hx => Nat.lt_of_lt_of_le ((by decide : ∀ x ∈ ([0, 1, 4, 2, 3] : List Nat), x < 5) x hx) (Nat.le_of_ble_eq_true rfl)⟩, lee rfl ?_, ?_, rfl, (by first | exact rfl | (simp [AO.lim, AV.lim, bL_lim]; done))⟩; (focus ((repeat (first | exact le_nil | refine le_eq rfl rfl ?_)); done)); (focus ((repeat (first | exact lo_nil | refine lo_eq rfl ?_)); done))) | (apply Or.inr; refine ⟨[0, 1, 3, 4, 2], ⟨by decide, fun x hx => Nat.lt_of_lt_of_le ((by decide : ∀ x ∈ ([0, 1, 3, 4, 2] : List Nat), x < 5) x hx) (Nat.le_of_ble_eq_true rfl)⟩, lee rfl ?_, ?_, rfl, (by first | exact rfl | (simp [AO.lim, AV.lim, bL_lim]; done))⟩; (focus ((repeat (first | exact le_nil | refine le_eq rfl rfl ?_)); done)); (focus ((repeat (first | exact lo_nil | refine lo_eq rfl ?_)); done))) | (apply Or.inr; refine ⟨[0, 1, 4, 3, 2], ⟨by decide, fun x hx => Nat.lt_of_lt_of_le ((by decide : ∀ x ∈ ([0, 1, 4, 3, 2] : List Nat), x < 5) x hx) (Nat.le_of_ble_eq_true rfl)⟩, lee rfl ?_, ?_, rfl, (by first | exact rfl | (simp [AO.lim, AV.lim, bL_lim]; done))⟩; (focus ((repeat (first | exact le_nil | refine le_eq rfl rfl ?_)); done)); (focus ((repeat (first | exact lo_nil | refine lo_eq rfl ?_)); done)))
  repeat' (first | (apply AOps.nil; try simp only [List.nil_append, List.cons_append, List.set_cons_zero, List.set_cons_succ, List.length_cons, List.length_nil, Nat.reduceAdd, AV.sh, AV.sh1, AV.sh0, AO.sh, List.map_cons, List.map_nil, Nat.zero_add, Nat.add_zero, setAll]) | (apply w_assign; exact rfl; exact rfl) | apply AWp.seq | apply AWp.region | apply AWp.block)
  refine AWp.loop (ι := Nat × List Int × List Int) (fun x => ⟨145, [(1, .optr 1 0), (5, .i W.length), (6, .own 2), (7, .own 3), (8, .own 4), (9, .i x.1)]⟩) (fun x => [.keep 1 K, .bx 29 [.ints W, .intss E], .sli 2 x.2.1, .sli 2 x.2.2, .sli 2 Lb]) (fun x => x.1 ≤ W.length ∧ OutI W.length (nearL E) W x.1 x.2.1 x.2.2) (fun x => W.length - x.1) (0, List.replicate W.length 0, List.replicate W.length 0) ⟨by simp only; omega, hstart⟩ ⟨lee rfl (by (repeat (first | exact le_nil | refine le_eq rfl rfl ?_))), by (repeat (first | exact lo_nil | refine lo_eq rfl ?_)), rfl, (by first | exact rfl | (simp [AO.lim, AV.lim, bL_lim]; done))⟩ ?_
  rintro ⟨i, f0, h0⟩ ⟨i1, hO⟩
  simp only at i1 hO
  by_cases hi : i < W.length
  · obtain ⟨jx, jx1, jx2, hix⟩ := hidx i hi
    have e7 : geti Lb (((i : Nat) : Int).toNat : Nat) = geti Lb (i : Nat) := by rw [Int.toNat_natCast]
    rw [← e7] at hix
    by_cases hr : (i : Int) ∈ rts W.length (nearL E) W.length
    · have hor := hord (i : Nat) ⟨by omega, by omega⟩
      have ejx := jx2.2 hr
      repeat' (first | (apply AOps.nil; try simp only [List.nil_append, List.cons_append, List.set_cons_zero, List.set_cons_succ, List.length_cons, List.length_nil, Nat.reduceAdd, AV.sh, AV.sh1, AV.sh0, AO.sh, List.map_cons, List.map_nil, Nat.zero_add, Nat.add_zero, setAll]) | (apply w_move; exact rfl; exact rfl) | (apply w_assign; exact rfl; exact rfl) | apply AWp.seq | apply AWp.region | ((apply AWp.condP; exact rfl) <;> intro h) | apply AWp.block | apply AWp.ret | apply AWp.exit | apply AWp.skip | (apply w_len; exact rfl; exact rfl; first | exact .ints _ | exact .intss _ | exact .sli rfl | exact .sls rfl | exact .slr rfl | exact .orow rfl | exact .nil) | (apply w_call (hix); exact rfl; exact rfl; focus ((repeat (first | exact im_nil | refine im_cons rfl (.val _) ?_ | refine im_cons rfl (.sli rfl) ?_)); done)) | (apply w_callc [] (hor); exact rfl; (exact handed0); (focus ((repeat (first | exact imu_nil | refine imu_cons rfl (imu_agg2 (.ints _) (.intss _)) ?_ | refine imu_cons rfl (.val _) ?_)); done)); rintro r os0 ⟨rfl, o, p, htr, rfl⟩; try simp only [List.nil_append, List.cons_append, List.set_cons_zero, List.set_cons_succ, List.length_cons, List.length_nil, Nat.reduceAdd, AV.sh, AV.sh1, AV.sh0, AO.sh, List.map_cons, List.map_nil, Nat.zero_add, Nat.add_zero, setAll]) | omega | ((first | apply w_lss | apply w_neq | apply w_sub | apply w_idx | apply w_ld | apply w_extv); iterate 3 exact rfl) | ((first | apply w_idxs | apply w_lds | apply w_ext); iterate 3 exact rfl) | (apply w_idxo; exact rfl; exact rfl; (exact .sli rfl); exact rfl) | (apply w_ldo; iterate 4 exact rfl) | (apply w_ldst; iterate 5 exact rfl))
      all_goals try (exfalso; omega)
      case _ => have := htr.bd; (apply inI_of <;> omega)
      have hol := htr.bd
      have hrg := htr.rng
      have hpl := htr.len
      refine AWp.loop (ι := Nat × List Int × List Int) (fun x => ⟨145, [(1, .optr 1 0), (5, .i W.length), (6, .own 2), (7, .own 3), (8, .own 4), (9, .i i), (10, .own 5), (11, .own 6), (12, .i ((x.1 : Int) - 1))]⟩) (fun x => [.keep 1 K, .bx 29 [.ints W, .intss E], .sli 2 x.2.1, .sli 2 x.2.2, .sli 2 Lb, .sli 2 o, .sli 2 p]) (fun x => MidI W.length (nearL E) W o p f0 h0 x.1 x.2.1 x.2.2) (fun x => x.1) (o.length, f0, h0) (MidI.start hO) ⟨lee rfl (by (repeat (first | exact le_nil | refine le_eq rfl rfl ?_))), by (repeat (first | exact lo_nil | refine lo_eq rfl ?_)), rfl, (by first | exact rfl | (simp [AO.lim, AV.lim, bL_lim]; done))⟩ ?_
      rintro ⟨t, f, g⟩ hM
      simp only at hM
      have lf := hM.lf
      have lg := hM.lh
      have hle := hM.le
      by_cases ht : t = 0
      · subst ht
        have hdone := hM.done hF hi htr hO hr
        repeat' (first | (apply AOps.nil; try simp only [List.nil_append, List.cons_append, List.set_cons_zero, List.set_cons_succ, List.length_cons, List.length_nil, Nat.reduceAdd, AV.sh, AV.sh1, AV.sh0, AO.sh, List.map_cons, List.map_nil, Nat.zero_add, Nat.add_zero, setAll]) | (apply w_move; exact rfl; exact rfl) | (apply w_assign; exact rfl; exact rfl) | apply AWp.seq | apply AWp.region | ((apply AWp.condP; exact rfl) <;> intro h) | apply AWp.block | apply AWp.exit | apply AWp.skip | omega | ((first | apply w_geq | apply w_add); iterate 3 exact rfl) | (apply inI_of <;> omega))
        all_goals try (exfalso; omega)
        exact ⟨(i + 1, f, g), ⟨by simp only; omega, hdone⟩, by simp only; omega, ⟨lee rfl (by (repeat (first | exact le_nil | refine le_eq rfl rfl ?_))), by (repeat (first | exact lo_nil | refine lo_eq rfl ?_)), rfl, (by first | exact rfl | (simp [AO.lim, AV.lim, bL_lim]; done))⟩⟩
      obtain ⟨s, rfl⟩ : ∃ s, t = s + 1 := ⟨t - 1, by omega⟩
      rw [show (((s + 1 : Nat) : Int) - 1) = (s : Nat) by omega]
      obtain ⟨v, ev⟩ : ∃ v, v = geti o (((s : Nat) : Int).toNat : Nat) := ⟨_, rfl⟩
      have hso : s < o.length := by omega
      have ev2 : o[s]? = some v := by
        rw [ev, Int.toNat_natCast]; simp [geti, List.getD_eq_getElem?_getD, List.getElem?_eq_getElem hso]
      have hvm := List.mem_of_getElem? ev2
      have hvr := hrg v hvm
      have hwv := hw v
      have hnv := hnear v
      have hnl := fun u => hF.bnd v u
      have hput := fun P R q1 q2 q3 => hM.put (P := P) (R := R) htr ev2 q1 q2 q3
      repeat' (first | (apply AOps.nil; try simp only [List.nil_append, List.cons_append, List.set_cons_zero, List.set_cons_succ, List.length_cons, List.length_nil, Nat.reduceAdd, AV.sh, AV.sh1, AV.sh0, AO.sh, List.map_cons, List.map_nil, Nat.zero_add, Nat.add_zero, setAll]) | (apply w_move; exact rfl; exact rfl) | (apply w_assign; exact rfl; exact rfl) | apply AWp.seq | apply AWp.region | ((apply AWp.condP; exact rfl) <;> intro h) | apply AWp.block | apply AWp.exit | apply AWp.skip | omega | ((first | apply w_geq | apply w_idx | apply w_ld); iterate 3 exact rfl) | (apply w_idxo; exact rfl; exact rfl; (exact .sli rfl); exact rfl) | (apply w_ldo; iterate 4 exact rfl))
      all_goals try (exfalso; omega)
      rw [← ev]
      refine AWp.regionG [] (by kernel_rfl) (envC := ⟨145, [(1, .optr 1 0), (5, .i W.length), (6, .own 2), (7, .own 3), (8, .own 4), (9, .i i), (10, .own 5), (11, .own 6), (12, .i s), (13, .i v), (14, .i 1), (15, .i (-geti W v))]⟩) (osC := [.keep 1 K, .bx 29 [.ints W, .intss E], .sli 2 f, .sli 2 g, .sli 2 Lb, .sli 2 o, .sli 2 p]) rfl (by first | exact rfl | (simp [AO.lim, AV.lim, bL_lim]; done)) ?_ ?_
      · repeat' (first | (apply AOps.nil; try simp only [List.nil_append, List.cons_append, List.set_cons_zero, List.set_cons_succ, List.length_cons, List.length_nil, Nat.reduceAdd, AV.sh, AV.sh1, AV.sh0, AO.sh, List.map_cons, List.map_nil, Nat.zero_add, Nat.add_zero, setAll]) | (apply w_move; exact rfl; exact rfl) | (apply w_assign; exact rfl; exact rfl) | (apply AAnyG.takeW; exact rfl; exact rfl; kernel_rfl; kernel_rfl) | (apply AAnyG.takeL; exact rfl; exact rfl; kernel_rfl) | (apply AAnyG.done; exact rfl) | omega | ((first | apply w_idx | apply w_ld | apply w_fa); iterate 3 exact rfl) | ((apply w_neg); iterate 2 exact rfl) | (apply w_ldb; iterate 5 exact rfl) | (apply inI_of <;> omega))
        all_goals (apply Or.inl; refine ⟨lee rfl ?_, ?_, rfl, (by first | exact rfl | (simp [AO.lim, AV.lim, bL_lim]; done))⟩; (focus ((repeat (first | exact le_nil | refine le_eq rfl rfl ?_ | (refine le_eq rfl (congrArg AV.i ?_) ?_; (focus (omega; done))))); done)); (focus ((repeat (first | exact lo_nil | refine lo_eq rfl ?_)); done)))
      repeat' (first | (apply AOps.nil; try simp only [List.nil_append, List.cons_append, List.set_cons_zero, List.set_cons_succ, List.length_cons, List.length_nil, Nat.reduceAdd, AV.sh, AV.sh1, AV.sh0, AO.sh, List.map_cons, List.map_nil, Nat.zero_add, Nat.add_zero, setAll]) | (apply w_move; exact rfl; exact rfl) | (apply w_assign; exact rfl; exact rfl) | apply AWp.seq | apply AWp.region | apply AWp.block | (apply w_callm (hnv); (focus ((repeat (first | exact im_nil | refine im_cons rfl (im_agg2 (.ints _) (.intss _)) ?_ | refine im_cons rfl (.val _) ?_)); done)); rintro r os0 ⟨rfl, rfl⟩; try simp only [List.nil_append, List.cons_append, List.set_cons_zero, List.set_cons_succ, List.length_cons, List.length_nil, Nat.reduceAdd, AV.sh, AV.sh1, AV.sh0, AO.sh, List.map_cons, List.map_nil, Nat.zero_add, Nat.add_zero, setAll]) | (apply w_ldst; iterate 5 exact rfl))
      have hstI := InV.start (n := W.length) (near := nearL E) (W := W) (p := p) (v := v)
      have hfin := fun P R q => InV.fin (n := W.length) (W := W) (P := P) (R := R) htr hvm q
      have hch := fun c q1 q2 => hM.child (c := c) htr ev2 q1 q2
      have hskip := fun k u P R => @InV.skip W.length (nearL E) W p v u P R k
      have hstep := fun k u P R => @InV.step W.length (nearL E) W p f g v u P R k
      have hbad := fun k u P R => @InV.bad W.length (nearL E) W (i : Nat) o p f g v u P R k htr hvm
      have hbdd := bd_bad (W := W) hF hi hr htr hvm
      have hnvl : (nearL E v).length ≤ W.length := nd_len (hF.nd v) (fun x hx => (hF.bnd v x hx).1)
      generalize hNV : nearL E v = nv at *
      refine AWp.loop (ι := Nat × Int × Int) (fun x => ⟨145, [(1, .optr 1 0), (5, .i W.length), (6, .own 2), (7, .own 3), (8, .own 4), (9, .i i), (10, .own 5), (11, .own 6), (12, .i s), (13, .i v), (14, .i x.2.1), (15, .i x.2.2), (16, .own 7), (17, .i x.1)]⟩) (fun _ => [.keep 1 K, .bx 29 [.ints W, .intss E], .sli 2 f, .sli 2 g, .sli 2 Lb, .sli 2 o, .sli 2 p, .sli 2 nv]) (fun x => x.1 ≤ nv.length ∧ InV W.length (nearL E) W p v x.1 x.2.1 x.2.2 ∧ inM x.2.1 ∧ inM x.2.2) (fun x => nv.length - x.1) (0, 1, -geti W v) ⟨by simp only; omega, hstI, by simp only [inM]; omega, by simp only [inM]; omega⟩ ⟨lee rfl (by (repeat (first | exact le_nil | refine le_eq rfl rfl ?_))), by (repeat (first | exact lo_nil | refine lo_eq rfl ?_)), rfl, (by first | exact rfl | (simp [AO.lim, AV.lim, bL_lim]; done))⟩ ?_
      rintro ⟨k, P, R⟩ ⟨k0, hI, hP, hR⟩
      simp only at k0 hI hP hR
      by_cases hk : k < nv.length
      · obtain ⟨u, eu⟩ : ∃ u, u = geti nv (((k : Nat) : Int).toNat : Nat) := ⟨_, rfl⟩
        have eu2 : nv[k]? = some u := by
          rw [eu, Int.toNat_natCast]; simp [geti, List.getD_eq_getElem?_getD, List.getElem?_eq_getElem hk]
        have hum : u ∈ nv := List.mem_of_getElem? eu2
        obtain ⟨ur, _, _⟩ := hnl u hum
        by_cases hup : u = geti p v
        · have hI2 := hskip k u P R hI eu2 hup
          have hup' : geti nv (((k : Nat) : Int).toNat : Nat) = geti p (v.toNat : Nat) := by rw [← eu, Int.toNat_of_nonneg hvr.1]; exact hup
          repeat' (first | (apply AOps.nil; try simp only [List.nil_append, List.cons_append, List.set_cons_zero, List.set_cons_succ, List.length_cons, List.length_nil, Nat.reduceAdd, AV.sh, AV.sh1, AV.sh0, AO.sh, List.map_cons, List.map_nil, Nat.zero_add, Nat.add_zero, setAll]) | (apply w_move; exact rfl; exact rfl) | (apply w_assign; exact rfl; exact rfl) | apply AWp.seq | apply AWp.region | ((apply AWp.condP; exact rfl) <;> intro h) | apply AWp.block | apply AWp.exit | apply AWp.skip | (apply w_len; exact rfl; exact rfl; first | exact .ints _ | exact .intss _ | exact .sli rfl | exact .sls rfl | exact .slr rfl | exact .orow rfl | exact .nil) | omega | ((first | apply w_lss | apply w_eql | apply w_add | apply w_idx | apply w_ld); iterate 3 exact rfl) | (apply w_idxo; exact rfl; exact rfl; (exact .sli rfl); exact rfl) | (apply w_ldo; iterate 4 exact rfl) | (apply inI_of <;> omega))
          all_goals try (exfalso; first | exact absurd hup' (by assumption) | exact absurd (by assumption) hup')
          exact ⟨(k + 1, P, R), ⟨by simp only; omega, hI2, hP, hR⟩, by simp only; omega, ⟨lee rfl (by (repeat (first | exact le_nil | refine le_eq rfl rfl ?_))), by (repeat (first | exact lo_nil | refine lo_eq rfl ?_)), rfl, (by first | exact rfl | (simp [AO.lim, AV.lim, bL_lim]; done))⟩⟩
        · have hup' : ¬ geti nv (((k : Nat) : Int).toNat : Nat) = geti p (v.toNat : Nat) := by rw [← eu, Int.toNat_of_nonneg hvr.1]; exact hup
          have hV := hch u hum hup
          have hI2 := hstep k u P R hI eu2 hup hV
          have hB := fun hn => hbdd (hbad k u P R hI eu2 hup hV hn)
          have hmf : inM (geti f u) := hM.bf _ (geti_mem ur.1 (by omega))
          have hmg : inM (geti g u) := hM.bh _ (geti_mem ur.1 (by omega))
          have eF : geti f (u.toNat : Nat) = geti f u := by rw [Int.toNat_of_nonneg ur.1]
          have eG : geti g (u.toNat : Nat) = geti g u := by rw [Int.toNat_of_nonneg ur.1]
          rw [← eF] at hmf hI2 hB
          rw [← eG] at hmg hI2 hB
          have c1 := l11Times_c R (geti f (u.toNat : Nat)) hR hmf
          have c2 := l11Times_c P (geti g (u.toNat : Nat)) hP hmg
          have c3 := l11Times_c P (geti f (u.toNat : Nat)) hP hmf
          have b1 := tmV_in R (geti f (u.toNat : Nat))
          have b2 := tmV_in P (geti g (u.toNat : Nat))
          have b3 := tmV_in P (geti f (u.toNat : Nat))
          have cv := l01In_c (tmV R (geti f (u.toNat : Nat)) - tmV P (geti g (u.toNat : Nat))) (-1000000000000) 1000000000000
          have hok := okS_iff P R (geti f (u.toNat : Nat)) (geti g (u.toNat : Nat))
          have e1 : tok R (geti f (u.toNat : Nat)) = true → tmV R (geti f (u.toNat : Nat)) = R * geti f (u.toNat : Nat) := fun h => by unfold tmV; rw [if_pos h]
          have e2 : tok P (geti g (u.toNat : Nat)) = true → tmV P (geti g (u.toNat : Nat)) = P * geti g (u.toNat : Nat) := fun h => by unfold tmV; rw [if_pos h]
          have e3 : tok P (geti f (u.toNat : Nat)) = true → tmV P (geti f (u.toNat : Nat)) = P * geti f (u.toNat : Nat) := fun h => by unfold tmV; rw [if_pos h]
          have b1' := b1
          have b2' := b2
          unfold inM at b1' b2'
          repeat' (first | (apply AOps.nil; try simp only [List.nil_append, List.cons_append, List.set_cons_zero, List.set_cons_succ, List.length_cons, List.length_nil, Nat.reduceAdd, AV.sh, AV.sh1, AV.sh0, AO.sh, List.map_cons, List.map_nil, Nat.zero_add, Nat.add_zero, setAll]) | (apply w_move; exact rfl; exact rfl) | (apply w_assign; exact rfl; exact rfl) | apply AWp.seq | apply AWp.region | ((apply AWp.condP; exact rfl) <;> intro h) | apply AWp.block | apply AWp.exit | apply AWp.skip | (apply w_len; exact rfl; exact rfl; first | exact .ints _ | exact .intss _ | exact .sli rfl | exact .sls rfl | exact .slr rfl | exact .orow rfl | exact .nil) | omega | ((first | apply w_lss | apply w_eql | apply w_idx | apply w_ld); iterate 3 exact rfl) | (apply w_idxo; exact rfl; exact rfl; (exact .sli rfl); exact rfl) | (apply w_ldo; iterate 4 exact rfl))
          all_goals try (exfalso; first | exact absurd hup' (by assumption) | exact absurd (by assumption) hup')
          rw [← eu]
          cases h1 : tok R (geti f (u.toNat : Nat)) with
          | false =>
            rw [h1] at c1 hok
            have hbd := hB (by rw [hok]; simp)
            repeat' (first | (apply AOps.nil; try simp only [List.nil_append, List.cons_append, List.set_cons_zero, List.set_cons_succ, List.length_cons, List.length_nil, Nat.reduceAdd, AV.sh, AV.sh1, AV.sh0, AO.sh, List.map_cons, List.map_nil, Nat.zero_add, Nat.add_zero, setAll]) | (apply w_move; exact rfl; exact rfl) | (apply w_assign; exact rfl; exact rfl) | apply AWp.seq | apply AWp.region | (apply AWp.condT; exact rfl) | apply AWp.ret | (apply w_skip; exact rfl) | (apply w_pickT; exact rfl; exact rfl; exact rfl) | (apply w_call (c1); exact rfl; exact rfl; focus ((repeat (first | exact im_nil | refine im_cons rfl (.val _) ?_)); done)) | (apply w_call (c2); exact rfl; exact rfl; focus ((repeat (first | exact im_nil | refine im_cons rfl (.val _) ?_)); done)) | (apply w_call (c3); exact rfl; exact rfl; focus ((repeat (first | exact im_nil | refine im_cons rfl (.val _) ?_)); done)) | omega | ((first | apply w_sub | apply w_idx | apply w_ld | apply w_extv); iterate 3 exact rfl) | ((apply w_not); iterate 2 exact rfl) | (apply w_idxo; exact rfl; exact rfl; (exact .sli rfl); exact rfl) | (apply w_ldo; iterate 4 exact rfl) | (apply inI_of <;> omega))
            all_goals try (exfalso; omega)
            refine ⟨⟨145, [(2, .val (.slice none 0 0)), (3, .val (.slice none 0 0)), (4, .b false)]⟩, [], .tup [.val (.slice none 0 0), .val (.slice none 0 0), .b false], Turns.or ?_, ResIs.a3 rfl rfl rfl rfl, all_cons' trivial (all_cons' trivial (all_cons' trivial all_nil')), .inr ⟨hbd, rfl, rfl⟩, all_nil'⟩
            (apply Or.inl; refine ⟨lee rfl ?_, ?_, rfl, (by first | exact rfl | (simp [AO.lim, AV.lim, bL_lim]; done))⟩; (focus ((repeat (first | exact le_nil | refine le_eq rfl rfl ?_)); done)); (focus ((repeat (first | exact lo_nil | refine lo_eq rfl ?_)); done)))
          | true =>
          rw [h1] at c1 hok
          cases h2 : tok P (geti g (u.toNat : Nat)) with
          | false =>
            rw [h2] at c2 hok
            have hbd := hB (by rw [hok]; simp)
            repeat' (first | (apply AOps.nil; try simp only [List.nil_append, List.cons_append, List.set_cons_zero, List.set_cons_succ, List.length_cons, List.length_nil, Nat.reduceAdd, AV.sh, AV.sh1, AV.sh0, AO.sh, List.map_cons, List.map_nil, Nat.zero_add, Nat.add_zero, setAll]) | (apply w_move; exact rfl; exact rfl) | (apply w_assign; exact rfl; exact rfl) | apply AWp.seq | apply AWp.region | (apply AWp.condT; exact rfl) | apply AWp.ret | (apply w_skip; exact rfl) | (apply w_pickT; exact rfl; exact rfl; exact rfl) | (apply w_pickF; exact rfl; exact rfl; exact rfl) | (apply w_call (c1); exact rfl; exact rfl; focus ((repeat (first | exact im_nil | refine im_cons rfl (.val _) ?_)); done)) | (apply w_call (c2); exact rfl; exact rfl; focus ((repeat (first | exact im_nil | refine im_cons rfl (.val _) ?_)); done)) | (apply w_call (c3); exact rfl; exact rfl; focus ((repeat (first | exact im_nil | refine im_cons rfl (.val _) ?_)); done)) | omega | ((first | apply w_sub | apply w_idx | apply w_ld | apply w_extv); iterate 3 exact rfl) | ((apply w_not); iterate 2 exact rfl) | (apply w_idxo; exact rfl; exact rfl; (exact .sli rfl); exact rfl) | (apply w_ldo; iterate 4 exact rfl) | (apply inI_of <;> omega))
            all_goals try (exfalso; omega)
            refine ⟨⟨145, [(2, .val (.slice none 0 0)), (3, .val (.slice none 0 0)), (4, .b false)]⟩, [], .tup [.val (.slice none 0 0), .val (.slice none 0 0), .b false], Turns.or ?_, ResIs.a3 rfl rfl rfl rfl, all_cons' trivial (all_cons' trivial (all_cons' trivial all_nil')), .inr ⟨hbd, rfl, rfl⟩, all_nil'⟩
            (apply Or.inl; refine ⟨lee rfl ?_, ?_, rfl, (by first | exact rfl | (simp [AO.lim, AV.lim, bL_lim]; done))⟩; (focus ((repeat (first | exact le_nil | refine le_eq rfl rfl ?_)); done)); (focus ((repeat (first | exact lo_nil | refine lo_eq rfl ?_)); done)))
          | true =>
          rw [h2] at c2 hok
          cases h3 : tok P (geti f (u.toNat : Nat)) with
          | false =>
            rw [h3] at c3 hok
            have hbd := hB (by rw [hok]; simp)
            repeat' (first | (apply AOps.nil; try simp only [List.nil_append, List.cons_append, List.set_cons_zero, List.set_cons_succ, List.length_cons, List.length_nil, Nat.reduceAdd, AV.sh, AV.sh1, AV.sh0, AO.sh, List.map_cons, List.map_nil, Nat.zero_add, Nat.add_zero, setAll]) | (apply w_move; exact rfl; exact rfl) | (apply w_assign; exact rfl; exact rfl) | apply AWp.seq | apply AWp.region | (apply AWp.condT; exact rfl) | apply AWp.ret | (apply w_skip; exact rfl) | (apply w_pickT; exact rfl; exact rfl; exact rfl) | (apply w_pickF; exact rfl; exact rfl; exact rfl) | (apply w_call (c1); exact rfl; exact rfl; focus ((repeat (first | exact im_nil | refine im_cons rfl (.val _) ?_)); done)) | (apply w_call (c2); exact rfl; exact rfl; focus ((repeat (first | exact im_nil | refine im_cons rfl (.val _) ?_)); done)) | (apply w_call (c3); exact rfl; exact rfl; focus ((repeat (first | exact im_nil | refine im_cons rfl (.val _) ?_)); done)) | omega | ((first | apply w_sub | apply w_idx | apply w_ld | apply w_extv); iterate 3 exact rfl) | ((apply w_not); iterate 2 exact rfl) | (apply w_idxo; exact rfl; exact rfl; (exact .sli rfl); exact rfl) | (apply w_ldo; iterate 4 exact rfl) | (apply inI_of <;> omega))
            all_goals try (exfalso; omega)
            refine ⟨⟨145, [(2, .val (.slice none 0 0)), (3, .val (.slice none 0 0)), (4, .b false)]⟩, [], .tup [.val (.slice none 0 0), .val (.slice none 0 0), .b false], Turns.or ?_, ResIs.a3 rfl rfl rfl rfl, all_cons' trivial (all_cons' trivial (all_cons' trivial all_nil')), .inr ⟨hbd, rfl, rfl⟩, all_nil'⟩
            (apply Or.inl; refine ⟨lee rfl ?_, ?_, rfl, (by first | exact rfl | (simp [AO.lim, AV.lim, bL_lim]; done))⟩; (focus ((repeat (first | exact le_nil | refine le_eq rfl rfl ?_)); done)); (focus ((repeat (first | exact lo_nil | refine lo_eq rfl ?_)); done)))
          | true =>
          rw [h3] at c3 hok
          cases h4 : decide (-1000000000000 ≤ tmV R (geti f (u.toNat : Nat)) - tmV P (geti g (u.toNat : Nat)) ∧ tmV R (geti f (u.toNat : Nat)) - tmV P (geti g (u.toNat : Nat)) ≤ 1000000000000) with
          | false =>
            rw [h4] at cv hok
            have hbd := hB (by rw [hok]; simp)
            repeat' (first | (apply AOps.nil; try simp only [List.nil_append, List.cons_append, List.set_cons_zero, List.set_cons_succ, List.length_cons, List.length_nil, Nat.reduceAdd, AV.sh, AV.sh1, AV.sh0, AO.sh, List.map_cons, List.map_nil, Nat.zero_add, Nat.add_zero, setAll]) | (apply w_move; exact rfl; exact rfl) | (apply w_assign; exact rfl; exact rfl) | apply AWp.seq | apply AWp.region | (apply AWp.condT; exact rfl) | apply AWp.ret | (apply w_pickF; exact rfl; exact rfl; exact rfl) | (apply w_call (c1); exact rfl; exact rfl; focus ((repeat (first | exact im_nil | refine im_cons rfl (.val _) ?_)); done)) | (apply w_call (c2); exact rfl; exact rfl; focus ((repeat (first | exact im_nil | refine im_cons rfl (.val _) ?_)); done)) | (apply w_call (c3); exact rfl; exact rfl; focus ((repeat (first | exact im_nil | refine im_cons rfl (.val _) ?_)); done)) | (apply w_call (cv); exact rfl; exact rfl; focus ((repeat (first | exact im_nil | refine im_cons rfl (.val _) ?_)); done)) | omega | ((first | apply w_sub | apply w_idx | apply w_ld | apply w_extv); iterate 3 exact rfl) | ((apply w_not); iterate 2 exact rfl) | (apply w_idxo; exact rfl; exact rfl; (exact .sli rfl); exact rfl) | (apply w_ldo; iterate 4 exact rfl) | (apply inI_of <;> omega))
            all_goals try (exfalso; omega)
            refine ⟨⟨145, [(2, .val (.slice none 0 0)), (3, .val (.slice none 0 0)), (4, .b false)]⟩, [], .tup [.val (.slice none 0 0), .val (.slice none 0 0), .b false], Turns.or ?_, ResIs.a3 rfl rfl rfl rfl, all_cons' trivial (all_cons' trivial (all_cons' trivial all_nil')), .inr ⟨hbd, rfl, rfl⟩, all_nil'⟩
            (apply Or.inl; refine ⟨lee rfl ?_, ?_, rfl, (by first | exact rfl | (simp [AO.lim, AV.lim, bL_lim]; done))⟩; (focus ((repeat (first | exact le_nil | refine le_eq rfl rfl ?_)); done)); (focus ((repeat (first | exact lo_nil | refine lo_eq rfl ?_)); done)))
          | true =>
            rw [h4] at cv hok
            have hr4 := of_decide_eq_true h4
            have hI3 := hI2 (by rw [hok]; rfl)
            rw [← e1 h1, ← e2 h2, ← e3 h3] at hI3
            repeat' (first | (apply AOps.nil; try simp only [List.nil_append, List.cons_append, List.set_cons_zero, List.set_cons_succ, List.length_cons, List.length_nil, Nat.reduceAdd, AV.sh, AV.sh1, AV.sh0, AO.sh, List.map_cons, List.map_nil, Nat.zero_add, Nat.add_zero, setAll]) | (apply w_move; exact rfl; exact rfl) | (apply w_assign; exact rfl; exact rfl) | apply AWp.seq | apply AWp.region | (apply AWp.condF; exact rfl) | apply AWp.skip | (apply w_pickF; exact rfl; exact rfl; exact rfl) | (apply w_call (c1); exact rfl; exact rfl; focus ((repeat (first | exact im_nil | refine im_cons rfl (.val _) ?_)); done)) | (apply w_call (c2); exact rfl; exact rfl; focus ((repeat (first | exact im_nil | refine im_cons rfl (.val _) ?_)); done)) | (apply w_call (c3); exact rfl; exact rfl; focus ((repeat (first | exact im_nil | refine im_cons rfl (.val _) ?_)); done)) | (apply w_call (cv); exact rfl; exact rfl; focus ((repeat (first | exact im_nil | refine im_cons rfl (.val _) ?_)); done)) | omega | ((first | apply w_add | apply w_sub | apply w_idx | apply w_ld | apply w_extv); iterate 3 exact rfl) | ((apply w_not); iterate 2 exact rfl) | (apply w_idxo; exact rfl; exact rfl; (exact .sli rfl); exact rfl) | (apply w_ldo; iterate 4 exact rfl) | (apply inI_of <;> omega))
            all_goals try (exfalso; omega)
            exact ⟨(k + 1, tmV P (geti f (u.toNat : Nat)), tmV R (geti f (u.toNat : Nat)) - tmV P (geti g (u.toNat : Nat))), ⟨by simp only; omega, hI3, b3, hr4⟩, by simp only; omega, ⟨lee rfl (by (repeat (first | exact le_nil | refine le_eq rfl rfl ?_))), by (repeat (first | exact lo_nil | refine lo_eq rfl ?_)), rfl, (by first | exact rfl | (simp [AO.lim, AV.lim, bL_lim]; done))⟩⟩
      · have ek : k = nv.length := by omega
        subst ek
        have hFG := hfin P R hI
        have hp2 := hput P R hFG hP hR
        unfold inM at hP hR
        repeat' (first | (apply AOps.nil; try simp only [List.nil_append, List.cons_append, List.set_cons_zero, List.set_cons_succ, List.length_cons, List.length_nil, Nat.reduceAdd, AV.sh, AV.sh1, AV.sh0, AO.sh, List.map_cons, List.map_nil, Nat.zero_add, Nat.add_zero, setAll]) | (apply w_move; exact rfl; exact rfl) | (apply w_assign; exact rfl; exact rfl) | apply AWp.seq | apply AWp.region | ((apply AWp.condP; exact rfl) <;> intro h) | apply AWp.block | apply AWp.exit | apply AWp.skip | (apply w_len; exact rfl; exact rfl; first | exact .ints _ | exact .intss _ | exact .sli rfl | exact .sls rfl | exact .slr rfl | exact .orow rfl | exact .nil) | omega | ((first | apply w_lss | apply w_sub | apply w_idx); iterate 3 exact rfl) | (apply w_idxo; exact rfl; exact rfl; (exact .sli rfl); exact rfl) | (apply w_sti; exact rfl; exact rfl; rotate_left 1; exact rfl; rotate_left 2) | (apply inI_of <;> omega))
        exact ⟨(s, f.set v.toNat R, g.set v.toNat P), hp2, by simp only; omega, ⟨lee rfl (by (repeat (first | exact le_nil | refine le_eq rfl rfl ?_))), by (repeat (first | exact lo_nil | refine lo_eq rfl ?_)), rfl, (by first | exact rfl | (simp [AO.lim, AV.lim, bL_lim]; done))⟩⟩
    · have ejx : ¬ jx = i := fun hh => hr (jx2.1 hh)
      have hsk := hO.skip hF hi hr
      repeat' (first | (apply AOps.nil; try simp only [List.nil_append, List.cons_append, List.set_cons_zero, List.set_cons_succ, List.length_cons, List.length_nil, Nat.reduceAdd, AV.sh, AV.sh1, AV.sh0, AO.sh, List.map_cons, List.map_nil, Nat.zero_add, Nat.add_zero, setAll]) | (apply w_move; exact rfl; exact rfl) | (apply w_assign; exact rfl; exact rfl) | apply AWp.seq | apply AWp.region | ((apply AWp.condP; exact rfl) <;> intro h) | apply AWp.block | apply AWp.ret | apply AWp.exit | apply AWp.skip | (apply w_call (hix); exact rfl; exact rfl; focus ((repeat (first | exact im_nil | refine im_cons rfl (.val _) ?_ | refine im_cons rfl (.sli rfl) ?_)); done)) | omega | ((first | apply w_lss | apply w_neq | apply w_add | apply w_idx | apply w_ld); iterate 3 exact rfl) | (apply w_idxo; exact rfl; exact rfl; (exact .sli rfl); exact rfl) | (apply w_ldo; iterate 4 exact rfl) | (apply inI_of <;> omega))
      all_goals try (exfalso; omega)
      exact ⟨(i + 1, f0, h0), ⟨by simp only; omega, hsk⟩, by simp only; omega, ⟨lee rfl (by (repeat (first | exact le_nil | refine le_eq rfl rfl ?_))), by (repeat (first | exact lo_nil | refine lo_eq rfl ?_)), rfl, (by first | exact rfl | (simp [AO.lim, AV.lim, bL_lim]; done))⟩⟩
  · have ei : i = W.length := by omega
    subst ei
    obtain ⟨q1, q2, q3⟩ := hO.fin hF
    repeat' (first | (apply AOps.nil; try simp only [List.nil_append, List.cons_append, List.set_cons_zero, List.set_cons_succ, List.length_cons, List.length_nil, Nat.reduceAdd, AV.sh, AV.sh1, AV.sh0, AO.sh, List.map_cons, List.map_nil, Nat.zero_add, Nat.add_zero, setAll]) | (apply w_move; exact rfl; exact rfl) | (apply w_assign; exact rfl; exact rfl) | apply AWp.seq | apply AWp.region | ((apply AWp.condP; exact rfl) <;> intro h) | apply AWp.block | apply AWp.ret | apply AWp.exit | apply AWp.skip | omega | ((apply w_lss); iterate 3 exact rfl))
    refine ⟨⟨145, [(2, .own 1), (3, .own 2), (4, .b true)]⟩, [.sli 2 f0, .sli 2 h0], .tup [.own 0, .own 1, .b true], Turns.or ?_, ResIs.a3 rfl rfl rfl rfl, all_cons' trivial (all_cons' trivial (all_cons' trivial all_nil')), .inl ⟨q1, rfl, by rw [q2, q3]⟩, all_cons' trivial (all_cons' trivial all_nil')⟩
    (apply Or.inr; refine ⟨[0, 2, 3], ⟨by decide, fun x hx => Nat.lt_of_lt_of_le ((by decide : ∀ x ∈ ([0, 2, 3] : List Nat), x < 4) x hx) (Nat.le_of_ble_eq_true rfl)⟩, lee rfl ?_, ?_, rfl, (by first | exact rfl | (simp [AO.lim, AV.lim, bL_lim]; done))⟩; (focus ((repeat (first | exact le_nil | refine le_eq rfl rfl ?_)); done)); (focus ((repeat (first | exact lo_nil | refine lo_eq rfl ?_)); done)))
end Go.Proofs.Ytlkhcelodcneiaa
/-
  Components by labels: the number of roots tells whether all edges join two components. No condition.
-/
set_option linter.unusedSimpArgs false
set_option linter.unusedVariables false
namespace Go.Proofs.Ytlkhcelodcneiaa
open Go Go.RowKit

theorem geti_set0 {p : List Int} {u v x : Int} (h0 : 0 ≤ u) (hx : 0 ≤ x) (h1 : u < p.length) : geti (p.set u.toNat v) x = if x = u then v else geti p x := by
  simp only [geti, List.getD_eq_getElem?_getD, List.getElem?_set]
  by_cases e : x = u
  · subst e; rw [if_pos rfl, if_pos (by omega), if_pos rfl]; rfl
  · rw [if_neg (by omega), if_neg e]
def idL (n : Nat) : List Int := (List.range n).map fun (i : Nat) => (i : Int)
theorem idL_len (n : Nat) : (idL n).length = n := by simp [idL]
theorem idL_get {n : Nat} {x : Int} (h : 0 ≤ x ∧ x < n) : geti (idL n) x = x := by
  obtain ⟨m, rfl⟩ := Int.eq_ofNat_of_zero_le h.1
  have : m < n := by omega
  simp [geti, idL, List.getD_eq_getElem?_getD, this]
/-- The lesser label stays. -/
def mmL (L : List Int) (e : List Int) : List Int := mgL L (min (geti L (geti e 0)) (geti L (geti e 1))) (max (geti L (geti e 0)) (geti L (geti e 1)))
def lbR : List Int → List (List Int) → List Int
  | L, [] => L
  | L, e :: E => lbR (mmL L e) E
theorem lbR_app : ∀ (A B : List (List Int)) (L : List Int), lbR L (A ++ B) = lbR (lbR L A) B
  | [], _, _ => rfl
  | _ :: A, B, L => lbR_app A B _
structure RI (n : Nat) (L : List Int) : Prop where
  len : L.length = n
  lo : ∀ x : Int, 0 ≤ x → x < n → 0 ≤ geti L x
  hi : ∀ x : Int, 0 ≤ x → x < n → geti L x ≤ x
  idem : ∀ x : Int, 0 ≤ x → x < n → geti L (geti L x) = geti L x
theorem RI.id (n : Nat) : RI n (idL n) := ⟨idL_len n, fun x h0 h1 => by rw [idL_get ⟨h0, h1⟩]; exact h0, fun x h0 h1 => by rw [idL_get ⟨h0, h1⟩]; exact Int.le_refl _, fun x h0 h1 => by rw [idL_get ⟨h0, h1⟩, idL_get ⟨h0, h1⟩]⟩
def rcL (L : List Int) (i : Nat) : Nat := ((List.range i).filter fun x => decide (geti L (x : Nat) = (x : Nat))).length
theorem rc_id (n : Nat) : ∀ i, i ≤ n → rcL (idL n) i = i := fun i hi => by
  unfold rcL
  rw [List.filter_eq_self.2, List.length_range]
  intro x hx
  have := List.mem_range.1 hx
  exact decide_eq_true (idL_get ⟨by omega, by omega⟩)
theorem rc_succ (L : List Int) (i : Nat) : rcL L (i + 1) = rcL L i + if geti L (i : Nat) = (i : Nat) then 1 else 0 := by
  unfold rcL
  rw [List.range_succ, List.filter_append, List.length_append]
  congr 1
  by_cases h : geti L (i : Nat) = (i : Nat)
  · rw [if_pos h, List.filter_cons_of_pos (by exact decide_eq_true h)]; rfl
  · rw [if_neg h, List.filter_cons_of_neg (by simpa using h)]; rfl
/-- A merge of two roots. -/
theorem RI.merge {n : Nat} {L : List Int} (h : RI n L) {a b : Int} (ha : 0 ≤ a) (hab : a < b) (hb : b < n) (ra : geti L a = a) (rb : geti L b = b) :
    RI n (mgL L a b) ∧ ∀ i : Nat, i ≤ n → rcL (mgL L a b) i + (if b < i then 1 else 0) = rcL L i := by
  have hl := h.len
  have hg : ∀ x : Int, 0 ≤ x → x < n → geti (mgL L a b) x = if geti L x = b then a else geti L x := fun x h0 h1 => mgL_get h0 (by omega)
  refine ⟨⟨by rw [mgL_len]; exact hl, fun x h0 h1 => ?_, fun x h0 h1 => ?_, fun x h0 h1 => ?_⟩, ?_⟩
  · rw [hg x h0 h1]; split
    · exact ha
    · exact h.lo x h0 h1
  · rw [hg x h0 h1]; have := h.hi x h0 h1; split
    · omega
    · exact this
  · have l1 := h.lo x h0 h1
    have l2 := h.hi x h0 h1
    rw [hg x h0 h1]
    by_cases e : geti L x = b
    · rw [if_pos e, hg a ha (by omega), ra, if_neg (by omega)]
    · rw [if_neg e, hg _ l1 (by omega), h.idem x h0 h1, if_neg e]
  · intro i
    induction i with
    | zero => intro _; rw [if_neg (by omega)]; rfl
    | succ i ih =>
      intro hi
      have ih := ih (by omega)
      rw [rc_succ, rc_succ, hg (i : Nat) (by omega) (by omega)]
      by_cases e : (i : Int) = b
      · subst e
        rw [if_pos rb, if_neg (by omega), if_pos (by omega), if_pos rb]
        rw [if_neg (by omega)] at ih; omega
      · have e2 : (b < ((i + 1 : Nat) : Int)) ↔ (b < (i : Nat)) := by omega
        have e3 : ((if geti L (i : Nat) = b then a else geti L (i : Nat)) = (i : Nat)) ↔ geti L (i : Nat) = (i : Nat) := by
          by_cases e4 : geti L (i : Nat) = b
          · rw [if_pos e4]
            constructor
            · intro h5; rw [← h5, ra] at e4; omega
            · intro h5; omega
          · rw [if_neg e4]
        simp only [e2, e3]; omega
theorem mgL_self (L : List Int) (a : Int) : mgL L a a = L := by
  unfold mgL
  conv => rhs; rw [← List.map_id L]
  apply List.map_congr_left
  intro x _
  split
  · rename_i h; exact h.symm
  · rfl
theorem RI.mm {n : Nat} {L : List Int} (h : RI n L) {e : List Int} (he : EIn n e) :
    RI n (mmL L e) ∧ rcL (mmL L e) n + (if geti L (geti e 0) = geti L (geti e 1) then 0 else 1) = rcL L n := by
  obtain ⟨_, e2, e3, e4⟩ := he
  have l1 := h.lo _ e2 (by omega)
  have l2 := h.hi _ e2 (by omega)
  have l3 := h.lo (geti e 1) (by omega) e4
  have l4 := h.hi (geti e 1) (by omega) e4
  have i1 := h.idem _ e2 (by omega)
  have i2 := h.idem (geti e 1) (by omega) e4
  unfold mmL
  generalize geti L (geti e 0) = a at *
  generalize geti L (geti e 1) = b at *
  rcases Int.lt_trichotomy a b with hab | hab | hab
  · rw [Int.min_eq_left (by omega), Int.max_eq_right (by omega)]
    obtain ⟨q1, q2⟩ := h.merge l1 hab (by omega) i1 i2
    have := q2 n (Nat.le_refl _)
    rw [if_pos (by omega)] at this
    exact ⟨q1, by rw [if_neg (by omega)]; exact this⟩
  · subst hab
    rw [Int.min_self, Int.max_self, mgL_self]
    exact ⟨h, by rw [if_pos rfl]; rfl⟩
  · rw [Int.min_eq_right (by omega), Int.max_eq_left (by omega)]
    obtain ⟨q1, q2⟩ := h.merge l3 hab (by omega) i2 i1
    have := q2 n (Nat.le_refl _)
    rw [if_pos (by omega)] at this
    exact ⟨q1, by rw [if_neg (by omega)]; exact this⟩
/-- Two labellings tell the same vertices apart. -/
def Same (n : Nat) (L M : List Int) : Prop := ∀ x y : Int, 0 ≤ x → x < n → 0 ≤ y → y < n → (geti L x = geti L y ↔ geti M x = geti M y)
theorem mg_eq {L : List Int} {a b : Int} {u v : Int} (hu : 0 ≤ u ∧ u < L.length) (hv : 0 ≤ v ∧ v < L.length) :
    geti (mgL L a b) u = geti (mgL L a b) v ↔ (geti L u = geti L v ∨ ((geti L u = a ∨ geti L u = b) ∧ (geti L v = a ∨ geti L v = b))) := by
  rw [mgL_get hu.1 hu.2, mgL_get hv.1 hv.2]
  by_cases h1 : geti L u = b <;> by_cases h2 : geti L v = b <;> simp only [h1, h2, if_true, if_false, or_true, or_false, true_and, false_or, and_true, iff_true, true_iff] <;> omega
theorem mm_eq {n : Nat} {L : List Int} {e : List Int} (hl : L.length = n) {u v : Int} (hu : 0 ≤ u ∧ u < n) (hv : 0 ≤ v ∧ v < n) :
    geti (mmL L e) u = geti (mmL L e) v ↔ (geti L u = geti L v ∨ ((geti L u = geti L (geti e 0) ∨ geti L u = geti L (geti e 1)) ∧ (geti L v = geti L (geti e 0) ∨ geti L v = geti L (geti e 1)))) := by
  unfold mmL
  rw [mg_eq (by omega) (by omega)]
  rcases Int.le_total (geti L (geti e 0)) (geti L (geti e 1)) with h | h
  · rw [Int.min_eq_left h, Int.max_eq_right h]
  · rw [Int.min_eq_right h, Int.max_eq_left h]; constructor <;> (intro h; rcases h with h | ⟨h1, h2⟩) <;> simp_all [or_comm]
theorem Same.step {n : Nat} {L M : List Int} (h : Same n L M) (hl : L.length = n) (hm : M.length = n) {e : List Int} (he : EIn n e) :
    Same n (mmL L e) (mgL M (geti M (geti e 0)) (geti M (geti e 1))) := by
  obtain ⟨_, e2, e3, e4⟩ := he
  intro x y h0 h1 h2 h3
  rw [mm_eq hl ⟨h0, h1⟩ ⟨h2, h3⟩, mg_eq (by omega) (by omega), h x y h0 h1 h2 h3, h x _ h0 h1 e2 (by omega), h x (geti e 1) h0 h1 (by omega) e4, h y _ h2 h3 e2 (by omega), h y (geti e 1) h2 h3 (by omega) e4]
theorem rc_run {n : Nat} : ∀ {E : List (List Int)} {L M : List Int}, RI n L → Same n L M → M.length = n → (∀ e ∈ E, EIn n e) →
    RI n (lbR L E) ∧ rcL L n ≤ rcL (lbR L E) n + E.length ∧ (rcL (lbR L E) n + E.length = rcL L n ↔ effL M E)
  | [], L, M, h, _, _, _ => ⟨h, by simp [lbR], by simp [lbR, effL]⟩
  | e :: E, L, M, h, hs, hm, hE => by
    have he := hE e (by simp)
    obtain ⟨q1, q2⟩ := h.mm he
    obtain ⟨_, e2, e3, e4⟩ := id he
    have hsame := hs (geti e 0) (geti e 1) e2 (by omega) (by omega) e4
    obtain ⟨r1, r2, r3⟩ := rc_run (E := E) q1 (hs.step h.len hm he) (by rw [mgL_len]; exact hm) fun f hf => hE f (by simp [hf])
    refine ⟨r1, ?_, ?_⟩
    · show rcL L n ≤ rcL (lbR (mmL L e) E) n + (E.length + 1)
      split at q2 <;> omega
    · show rcL (lbR (mmL L e) E) n + (E.length + 1) = rcL L n ↔ (geti M (geti e 0) ≠ geti M (geti e 1) ∧ effL _ E)
      rw [← r3]
      constructor
      · intro h5
        have h6 : ¬ geti L (geti e 0) = geti L (geti e 1) := by
          intro h7; rw [if_pos h7] at q2; omega
        rw [if_neg h6] at q2
        exact ⟨fun h8 => h6 (hsame.2 h8), by omega⟩
      · rintro ⟨h5, h6⟩
        rw [if_neg (fun h8 => h5 (hsame.1 h8))] at q2
        omega
/-- The new numbers. -/
def nmF (L : List Int) : Nat → List Int × Int
  | 0 => (L, 0)
  | i + 1 => if geti (nmF L i).1 (i : Nat) = (i : Nat) then ((nmF L i).1.set i (nmF L i).2, (nmF L i).2 + 1) else ((nmF L i).1.set i (geti (nmF L i).1 (geti (nmF L i).1 (i : Nat))), (nmF L i).2)
structure NmI (n : Nat) (L : List Int) (i : Nat) (s : List Int × Int) : Prop where
  len : s.1.length = n
  num : s.2 = rcL L i
  old : ∀ x : Int, (i : Int) ≤ x → geti s.1 x = geti L x
  lo : ∀ x : Int, 0 ≤ x → x < i → 0 ≤ geti s.1 x
  hi : ∀ x : Int, 0 ≤ x → x < i → geti s.1 x < s.2
  top : 0 < i → ∃ x : Int, 0 ≤ x ∧ x < i ∧ geti s.1 x = s.2 - 1
theorem nm_run {n : Nat} {L : List Int} (h : RI n L) : ∀ i, i ≤ n → NmI n L i (nmF L i)
  | 0, _ => ⟨h.len, by simp [nmF, rcL], fun _ _ => rfl, fun x h0 h1 => by omega, fun x h0 h1 => by omega, fun h => by omega⟩
  | i + 1, hi => by
    have ih := nm_run h i (by omega)
    have hr := rc_succ L i
    have ho := ih.old (i : Nat) (Int.le_refl _)
    have hl := ih.len
    have hnum := ih.num
    have l1 := h.lo (i : Nat) (by omega) (by omega)
    have l2 := h.hi (i : Nat) (by omega) (by omega)
    rw [nmF]
    have hset : ∀ v x : Int, 0 ≤ x → geti ((nmF L i).1.set i v) x = if x = (i : Nat) then v else geti (nmF L i).1 x := fun v x hx => by
      have := geti_set0 (p := (nmF L i).1) (u := (i : Nat)) (v := v) (x := x) (by omega) hx (by omega)
      simpa using this
    rw [ho]
    by_cases hc : geti L (i : Nat) = (i : Nat)
    · rw [if_pos hc] at hr ⊢
      refine ⟨by simp [hl], by simp only; omega, fun x hx => ?_, fun x h0 h1 => ?_, fun x h0 h1 => ?_, fun _ => ⟨(i : Nat), by omega, by omega, ?_⟩⟩
      · rw [hset _ _ (by omega), if_neg (by omega)]; exact ih.old x (by omega)
      · rw [hset _ _ h0]; split
        · omega
        · exact ih.lo x h0 (by omega)
      · rw [hset _ _ h0]; dsimp only; split
        · omega
        · have := ih.hi x h0 (by omega); omega
      · rw [hset _ _ (by omega), if_pos rfl]; dsimp only; omega
    · rw [if_neg hc] at hr ⊢
      have h3 : geti L (i : Nat) < (i : Nat) := by omega
      have g1 := ih.lo _ l1 h3
      have g2 := ih.hi _ l1 h3
      refine ⟨by simp [hl], by simp only; omega, fun x hx => ?_, fun x h0 h1 => ?_, fun x h0 h1 => ?_, fun _ => ?_⟩
      · rw [hset _ _ (by omega), if_neg (by omega)]; exact ih.old x (by omega)
      · rw [hset _ _ h0]; split
        · exact g1
        · exact ih.lo x h0 (by omega)
      · rw [hset _ _ h0]; dsimp only; split
        · exact g2
        · exact ih.hi x h0 (by omega)
      · obtain ⟨x, x0, x1, x2⟩ := ih.top (by omega)
        exact ⟨x, x0, by omega, by rw [hset _ _ x0, if_neg (by omega)]; exact x2⟩
/-- The labels of the components. -/
def labF (n : Nat) (E : List (List Int)) : List Int := (nmF (lbR (idL n) E) n).1
theorem lab_max {n : Nat} {E : List (List Int)} (hn : 0 < n) (hE : ∀ e ∈ E, EIn n e) :
    (labF n E).length = n ∧ ∃ m : Int, (∀ x ∈ labF n E, 0 ≤ x ∧ x ≤ m) ∧ m ∈ labF n E ∧ 0 ≤ m ∧ m < n ∧ (m + 1 + E.length = n ↔ effL (idL n) E) := by
  obtain ⟨r1, r2, r3⟩ := rc_run (E := E) (RI.id n) (M := idL n) (fun _ _ _ _ _ _ => Iff.rfl) (idL_len n) hE
  rw [rc_id n n (Nat.le_refl _)] at r2 r3
  have h := nm_run r1 n (Nat.le_refl _)
  have hnum := h.num
  unfold labF
  obtain ⟨x, x0, x1, x2⟩ := h.top hn
  have hx := h.lo x x0 x1
  have hle : rcL (lbR (idL n) E) n ≤ n := by
    unfold rcL
    exact Nat.le_trans (List.length_filter_le _ _) (by simp)
  have hl := h.len
  refine ⟨h.len, (nmF (lbR (idL n) E) n).2 - 1, fun y hy => ?_, ?_, by omega, by omega, ?_⟩
  · obtain ⟨k, hk, rfl⟩ := List.getElem_of_mem hy
    have e : geti (nmF (lbR (idL n) E) n).1 (k : Nat) = (nmF (lbR (idL n) E) n).1[k] := by simp [geti, List.getD_eq_getElem?_getD, List.getElem?_eq_getElem hk]
    have a1 := h.lo (k : Nat) (by omega) (by omega)
    have a2 := h.hi (k : Nat) (by omega) (by omega)
    omega
  · rw [← x2]
    have hk : x.toNat < (nmF (lbR (idL n) E) n).1.length := by omega
    simp only [geti, List.getD_eq_getElem?_getD, List.getElem?_eq_getElem hk, Option.getD_some]
    exact List.getElem_mem hk
  · rw [← r3]; omega
end Go.Proofs.Ytlkhcelodcneiaa
