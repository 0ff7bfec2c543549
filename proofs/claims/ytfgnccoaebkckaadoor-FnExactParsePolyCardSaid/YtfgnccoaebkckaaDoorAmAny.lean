/-
  Regions that draw their order and make memory: every order is walked. No condition.
-/
import Derived.Test.YtfgnccoaebkckaaDoorAmStep
namespace Go.Proofs.YtfgnccoaebkckaaDoor
open Go Go.RowKit

theorem Oper.wp_mono2 {P : Program} {o : Oper} {a : Act} {w : World} {K K' : Act → World → Prop} {Q Q' : Exit → Act → World → Prop} (hK : ∀ a w, K a w → K' a w) (hp : ∀ c a w, Q (.panic c) a w → Q' (.panic c) a w)
    (hl : LetsOut Q → LetsOut Q') (h : Oper.wp P o a w K Q) : Oper.wp P o a w K' Q' := by
  unfold Oper.wp at *
  generalize (execOp a.eval o).run P w = r at *
  cases r with
  | ok n w' =>
    cases n <;> simp only [Oper.upon] at h ⊢
    case value u => exact hK _ _ h
    case skip => exact hK _ _ h
    case defer d => exact hK _ _ h
    case enter f args =>
      refine Calls.mono h fun e w'' he => ?_
      cases e with
      | returned u => exact hK _ _ he
      | panicked c => exact hp _ _ _ he
      | outgrown => exact hl he
    case row row args => exact Rows.mono h fun u w'' he => hK _ _ he
  | halt x w' =>
    cases x <;> simp only [Oper.upon] at h ⊢
    case panic u => exact hp _ _ _ h

theorem ltLen {σ : List Nat} {k n : Nat} (h : ∀ x ∈ σ, x < k) (hk : k ≤ n) : ∀ x ∈ σ, x < n := fun x hx => Nat.lt_of_lt_of_le (h x hx) hk

/-- What may come up now. -/
def rdyGo (listed : List Bool) : Nat → List Oper → List Nat
  | _, [] => []
  | k, o :: os => cond (!(listed.getD k true) && o.after.toList.all fun e => !Region.binds .any e || listed.getD e.on false) (k :: rdyGo listed (k + 1) os) (rdyGo listed (k + 1) os)

theorem mem_rdyGo {listed : List Bool} {j : Nat} : ∀ {k : Nat} {l : List Oper}, j ∈ rdyGo listed k l ↔ k ≤ j ∧ listed.getD j true = false ∧ ∃ o, l[j - k]? = some o ∧ ∀ e ∈ o.after, Region.binds .any e = true → listed.getD e.on false = true
  | k, [] => by simp [rdyGo]
  | k, o :: os => by
    have ih := mem_rdyGo (listed := listed) (j := j) (k := k + 1) (l := os)
    have step : (k + 1 ≤ j ∧ listed.getD j true = false ∧ ∃ o', os[j - (k + 1)]? = some o' ∧ ∀ e ∈ o'.after, Region.binds .any e = true → listed.getD e.on false = true) ↔
        (k ≤ j ∧ j ≠ k ∧ listed.getD j true = false ∧ ∃ o', (o :: os)[j - k]? = some o' ∧ ∀ e ∈ o'.after, Region.binds .any e = true → listed.getD e.on false = true) := by
      constructor
      · rintro ⟨h1, h2, o', h3, h4⟩
        exact ⟨by omega, by omega, h2, o', by rw [show j - k = (j - (k + 1)) + 1 by omega]; exact h3, h4⟩
      · rintro ⟨h1, h0, h2, o', h3, h4⟩
        exact ⟨by omega, h2, o', by rw [show j - k = (j - (k + 1)) + 1 by omega] at h3; exact h3, h4⟩
    have here : (!(listed.getD k true) && o.after.toList.all fun e => !Region.binds .any e || listed.getD e.on false) = true ↔ (listed.getD k true = false ∧ ∀ e ∈ o.after, Region.binds .any e = true → listed.getD e.on false = true) := by
      rw [Bool.and_eq_true, List.all_eq_true]
      constructor
      · rintro ⟨h1, h2⟩
        refine ⟨by simpa using h1, fun e he hb => ?_⟩
        have := h2 e (by simpa using he)
        simpa [hb] using this
      · rintro ⟨h1, h2⟩
        refine ⟨by simpa using h1, fun e he => ?_⟩
        by_cases hb : Region.binds .any e = true
        · rw [h2 e (by simpa using he) hb]; simp
        · simp [hb]
    unfold rdyGo
    cases hc : (!(listed.getD k true) && o.after.toList.all fun e => !Region.binds .any e || listed.getD e.on false) with
    | true =>
      rw [cond_true, List.mem_cons, ih, step]
      have hh := here.1 hc
      constructor
      · rintro (rfl | ⟨h1, _, h2, h3⟩)
        · exact ⟨Nat.le_refl _, hh.1, o, by simp, hh.2⟩
        · exact ⟨h1, h2, h3⟩
      · rintro ⟨h1, h2, h3⟩
        by_cases e : j = k
        · exact .inl e
        · exact .inr ⟨h1, e, h2, h3⟩
    | false =>
      rw [cond_false, ih, step]
      constructor
      · rintro ⟨h1, _, h2, h3⟩; exact ⟨h1, h2, h3⟩
      · rintro ⟨h1, h2, o', h3, h4⟩
        refine ⟨h1, ?_, h2, o', h3, h4⟩
        intro e
        subst e
        simp at h3
        subst h3
        have := here.2 ⟨h2, h4⟩
        rw [hc] at this
        cases this

theorem mem_rdy {l : List Oper} {listed : List Bool} {j : Nat} : j ∈ Region.ready .any l.toArray listed.toArray ↔ j ∈ rdyGo listed 0 l := by
  rw [mem_ready, mem_rdyGo]
  simp [Array.getD_eq_getD_getElem?, List.getD_eq_getElem?_getD]

/-- Whatever order is picked from here on. -/
def AAny (P : Program) (l : List Oper) (fuel : Nat) (listed : List Bool) (K : APost) (env : Env) (os : List AO) : Prop :=
  ∀ base w0 w gs tm, Rel base w gs env os tm → Below base w0 w → ∀ X Rt, wpAny P .any l.toArray (Post base w0 K X Rt) fuel listed.toArray ⟨tm, []⟩ w

/-- Each of these comes up next. -/
def AllOf (P : Program) (l : List Oper) (fuel : Nat) (listed : List Bool) (K : APost) (env : Env) (os : List AO) : List Nat → Prop
  | [] => True
  | i :: is => (∃ o, l[i]? = some o ∧ AOps P .seq l [o] (fun env os => AAny P l fuel (listed.set i true) K env os) env os) ∧ AllOf P l fuel listed K env os is

section
variable {P : Program} {N : APost} {X : Nat → APost} {Rt : APost} {env : Env} {os : List AO} {l : List Oper} {K : APost} {fuel : Nat} {listed : List Bool}

theorem AllOf.get : ∀ {rs : List Nat}, AllOf P l fuel listed K env os rs → ∀ i ∈ rs, ∃ o, l[i]? = some o ∧ AOps P .seq l [o] (fun env os => AAny P l fuel (listed.set i true) K env os) env os
  | [], _, i, h => by cases h
  | j :: rs, h, i, hi => by
    rcases List.mem_cons.1 hi with rfl | hi
    · exact h.1
    · exact AllOf.get h.2 i hi

theorem AllOf.nil : AllOf P l fuel listed K env os [] := trivial
theorem AllOf.cons {i : Nat} {o : Oper} {is : List Nat} (ho : l[i]? = some o) (h : AOps P .seq l [o] (fun env os => AAny P l fuel (listed.set i true) K env os) env os) (hs : AllOf P l fuel listed K env os is) :
    AllOf P l fuel listed K env os (i :: is) := ⟨⟨o, ho, h⟩, hs⟩

theorem AAny.all {i : Nat} {is : List Nat} (hr : rdyGo listed 0 l = i :: is) (h : AllOf P l fuel listed K env os (i :: is)) : AAny P l (fuel + 1) listed K env os := by
  intro base w0 w gs tm hrel hb X Rt
  refine ⟨fun h0 => ?_, fun j hj => ?_⟩
  · have : i ∈ Region.ready .any l.toArray listed.toArray := mem_rdy.2 (by rw [hr]; simp)
    rw [h0] at this; cases this
  · have hj' := mem_rdy.1 hj
    rw [hr] at hj'
    obtain ⟨o, ho, hop⟩ := h.get j hj'
    have := hop base w0 w gs tm hrel hb X Rt
    unfold wpOp
    have ho' : l.toArray[j]? = some o := by simpa using ho
    rw [ho']
    have kk : ∀ a w', Post base w0 (fun env os => AAny P l fuel (listed.set j true) K env os) X Rt .normal a w' → wpAny P .any l.toArray (Post base w0 K X Rt) fuel (listed.toArray.setIfInBounds j true) a w' := by
      rintro a w' ⟨env', os', gs', h1, h2, h3, h4⟩
      have ea : a = ⟨a.tmps, []⟩ := by cases a; simp_all
      rw [ea]
      have := h4 base w0 w' gs' a.tmps h1 h3 X Rt
      rwa [show listed.toArray.setIfInBounds j true = (listed.set j true).toArray from by simp]
    unfold wpList at this
    simp only
    split
    · rename_i hw
      rw [if_pos hw] at this
      rcases this with this | ⟨h1, ⟨a, w', h2⟩⟩
      · exact .inl (Oper.wp_mono2 kk (fun _ _ _ h => (h : False).elim) (fun ⟨_, _, h⟩ => (h : False).elim) this)
      · exact (h2 : False).elim
    · rename_i hw
      rw [if_neg hw] at this
      exact kk _ _ this

theorem AAny.done (hr : rdyGo listed 0 l = []) (h : K env os) : AAny P l fuel listed K env os := by
  intro base w0 w gs tm hrel hb X Rt
  have hr' : Region.ready .any l.toArray listed.toArray = [] := by
    apply List.eq_nil_iff_forall_not_mem.2
    intro j hj
    have := mem_rdy.1 hj
    rw [hr] at this; cases this
  cases fuel with
  | zero => exact ⟨hr', env, os, gs, hrel, rfl, hb, h⟩
  | succ n => exact ⟨fun _ => ⟨env, os, gs, hrel, rfl, hb, h⟩, by rw [hr']; intro j hj; cases hj⟩

/-- What needs no world. -/
def wlessB (o : Oper) : Bool :=
  match o.op with
  | .move _ => true
  | .assign _ => true
  | .pick _ _ _ => true
  | .build _ _ => true
  | .binOp _ _ _ _ _ => true
  | .unOp _ _ _ => true
  | .convert _ _ _ => true
  | .fieldAddr _ _ _ => true
  | .field _ _ _ => true
  | .indexAddr _ _ _ => true
  | .extract _ _ => true
  | .call c => match c.callee with
    | .builtin .len => true
    | .builtin .min => true
    | .builtin .max => true
    | _ => false
  | _ => false
def findW (l : List Oper) : List Nat → Option Nat
  | [] => none
  | i :: is => cond (match l[i]? with | some o => wlessB o | none => false) (some i) (findW l is)

theorem findW_mem {l : List Oper} : ∀ {is : List Nat} {i : Nat}, findW l is = some i → i ∈ is
  | [], _, h => by cases h
  | j :: is, i, h => by
    simp only [findW] at h
    cases hb : (match l[j]? with | some o => wlessB o | none => false) with
    | true => rw [hb] at h; simp at h; simp [h]
    | false => rw [hb] at h; exact List.mem_cons_of_mem _ (findW_mem h)

/-- An operation that needs no world is taken first. -/
theorem AAny.take {i : Nat} {o : Oper} (hi : findW l (rdyGo listed 0 l) = some i) (ho : l[i]? = some o) (hs : Region.noSelect l.toArray = true) (hf : Region.free .any l.toArray listed.toArray i = true)
    (h : AOps P .wless l [o] (fun env os => AAny P l fuel (listed.set i true) K env os) env os) : AAny P l (fuel + 1) listed K env os := by
  intro base w0 w gs tm hrel hb X Rt
  obtain ⟨v, hy, env', os', gs', hk, hd, hr'⟩ := h base w gs tm hrel
  refine wpAny_take (oi := o) (v := v) (by simpa using ho) hs hf ?_ (fun _ _ _ h => h.elim) hy ?_
  · have : i ∈ Region.ready .any l.toArray listed.toArray := mem_rdy.2 (findW_mem hi)
    simpa using this
  · have := hk base w0 w gs' _ hr' hb X Rt
    rw [show listed.toArray.setIfInBounds i true = (listed.set i true).toArray from by simp]
    have e : (⟨(Act.put ⟨tm, []⟩ o.dst v).tmps, []⟩ : Act) = Act.put ⟨tm, []⟩ o.dst v := by
      have : (Act.put ⟨tm, []⟩ o.dst v).defers = [] := hd
      generalize Act.put ⟨tm, []⟩ o.dst v = a at this
      cases a; simp_all
    rw [e] at this
    exact this

/-- A region that draws its order: every order comes to a state that may be seen as (envC, osC). -/
theorem AWp.regionA {id : Nat} (hm : P.follows .mixedOrders = true) {envC : Env} {osC : List AO} {n : Nat} (hn : l.length = n) {listed : List Bool} (hl : List.replicate n false = listed)
    (h : AAny P l n listed (fun e o => Fit e o envC osC ∨ ∃ σ, FitS σ e o envC osC) env os) (hk : N envC osC) : AWp P (.region id l.toArray true) N X Rt env os := by
  intro base w0 w gs tm hr hb
  have hbel : Below w.heap.size w { w with drawn := w.drawn + 1 } := (Below.refl _ _).drew
  refine wp_region_any hm ?_
  have := h base w0 _ gs tm (hr.below hbel) (hb.trans (hbel.mono hr.hb)) X Rt
  rw [← hl] at this
  have e1 : (List.replicate n false).toArray = Array.replicate l.toArray.size false := by simp [hn]
  rw [e1] at this
  have e2 : l.toArray.size = n := by simpa using hn
  rw [e2] at this ⊢
  refine wpAny_monoQ ?_ this
  intro e a w' hq
  cases e with
  | normal =>
    obtain ⟨env', os', gs', r1, r2, r3, hf⟩ := hq
    rcases hf with hf | ⟨σ, hf⟩
    · obtain ⟨gs2, r4⟩ := r1.fit hf
      exact ⟨envC, osC, gs2, r4, r2, r3, hk⟩
    · obtain ⟨gs2, r4⟩ := r1.fits hf
      exact ⟨envC, osC, gs2, r4, r2, r3, hk⟩
  | exit j => exact hq
  | ret => exact hq
  | goto l => exact hq
  | panic ch => exact hq
  | outgrown => exact hq
where
  wpAny_monoQ {P : Program} {ops : Array Oper} {Q Q' : Exit → Act → World → Prop} (hq : ∀ e a w, Q e a w → Q' e a w) : ∀ {fuel : Nat} {listed : Array Bool} {a : Act} {w : World}, wpAny P .any ops Q fuel listed a w → wpAny P .any ops Q' fuel listed a w
    | 0, _, _, _, h => ⟨h.1, hq _ _ _ h.2⟩
    | fuel + 1, _, _, _, h => by
      refine ⟨fun h0 => hq _ _ _ (h.1 h0), fun i hi => ?_⟩
      have := h.2 i hi
      unfold wpOp at this ⊢
      split
      · rename_i ho; rw [ho] at this; exact wpAny_monoQ hq this
      · rename_i o ho
        rw [ho] at this
        simp only at this
        split
        · rename_i hw
          rw [if_pos hw] at this
          rcases this with h1 | ⟨h1, a, w, h2⟩
          · exact .inl (Oper.wp_mono2 (fun _ _ h' => wpAny_monoQ hq h') (fun _ _ _ => hq _ _ _) (fun ⟨a, w, h⟩ => ⟨a, w, hq _ _ _ h⟩) h1)
          · exact .inr ⟨h1, a, w, hq _ _ _ h2⟩
        · rename_i hw
          rw [if_neg hw] at this
          exact wpAny_monoQ hq this

/-- The same state, all of it. -/
theorem LeM.refl_of {e : Env} : ∀ {m : List (Nat × AV)}, (∀ k a, (k, a) ∈ m → e.fd k = some a) → LeM e m
  | [], _ => trivial
  | p :: t, h => ⟨h p.1 p.2 (by simp), LeM.refl_of fun k a hka => h k a (by simp [hka])⟩
end
end Go.Proofs.YtfgnccoaebkckaaDoor
