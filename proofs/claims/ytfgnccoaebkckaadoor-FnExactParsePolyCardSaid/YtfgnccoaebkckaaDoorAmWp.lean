/-
  The rules of the abstract machine: control, regions (in the text's order, or drawn), quiet operations, calls. No condition.
-/
import Derived.Test.YtfgnccoaebkckaaDoorAmRel
namespace Go.Proofs.YtfgnccoaebkckaaDoor
open Go Go.RowKit

abbrev APost := Env → List AO → Prop

def Post (base : Nat) (w0 : World) (N : APost) (X : Nat → APost) (Rt : APost) : Exit → Act → World → Prop
  | .normal, a, w => ∃ env os gs, Rel base w gs env os a.tmps ∧ a.defers = [] ∧ Below base w0 w ∧ N env os
  | .exit j, a, w => ∃ env os gs, Rel base w gs env os a.tmps ∧ a.defers = [] ∧ Below base w0 w ∧ X j env os
  | .ret, a, w => ∃ env os gs, Rel base w gs env os a.tmps ∧ a.defers = [] ∧ Below base w0 w ∧ Rt env os
  | _, _, _ => False

def AWp (P : Program) (c : Code) (N : APost) (X : Nat → APost) (Rt : APost) (env : Env) (os : List AO) : Prop :=
  ∀ base w0 w gs tm, Rel base w gs env os tm → Below base w0 w → c.wp P (Post base w0 N X Rt) ⟨tm, []⟩ w

section control
variable {P : Program} {N : APost} {X : Nat → APost} {Rt : APost} {env : Env} {os : List AO}

theorem AWp.seq {x y : Code} (h : AWp P x (fun env os => AWp P y N X Rt env os) X Rt env os) : AWp P (.seq x y) N X Rt env os := by
  intro base w0 w gs tm hr hb
  refine wp_seq (wp_mono (h base w0 w gs tm hr hb) ?_)
  intro e a w' hq
  cases e with
  | normal =>
    obtain ⟨env', os', gs', hr', hd, hb', hn⟩ := hq
    have := hn base w0 w' gs' a.tmps hr' hb'
    have ea : a = ⟨a.tmps, []⟩ := by cases a; simp_all
    rw [ea]; exact this
  | exit id => exact hq
  | goto l => exact hq
  | ret => exact hq
  | panic ch => exact hq
  | outgrown => exact hq

theorem AWp.skip (h : N env os) : AWp P .skip N X Rt env os :=
  fun _ _ _ gs _ hr hb => wp_skip ⟨env, os, gs, hr, rfl, hb, h⟩
theorem AWp.exit {j : Nat} (h : X j env os) : AWp P (.exit j) N X Rt env os :=
  fun _ _ _ gs _ hr hb => wp_exit ⟨env, os, gs, hr, rfl, hb, h⟩
theorem AWp.ret (h : Rt env os) : AWp P .ret N X Rt env os :=
  fun _ _ _ gs _ hr hb => wp_ret ⟨env, os, gs, hr, rfl, hb, h⟩

theorem AWp.block {id : Nat} {c : Code} (h : AWp P c N (fun j env os => if j = id then N env os else X j env os) Rt env os) : AWp P (.block id c) N X Rt env os := by
  intro base w0 w gs tm hr hb
  refine wp_block (wp_mono (h base w0 w gs tm hr hb) ?_)
  intro e a w' hq
  cases e with
  | normal => exact hq
  | exit j =>
    obtain ⟨env', os', gs', hr', hd, hb', hn⟩ := hq
    show if j = id then _ else _
    by_cases e : j = id
    · simp only [e, if_true] at hn ⊢; exact ⟨env', os', gs', hr', hd, hb', hn⟩
    · simp only [e, if_false] at hn ⊢; exact ⟨env', os', gs', hr', hd, hb', hn⟩
  | goto l => exact hq
  | ret => exact hq
  | panic ch => exact hq
  | outgrown => exact hq

/-- An operand's abstract value. -/
def AV.ev (env : Env) : Operand → AV
  | .tmp t => env.lk t
  | .const v => .val v
  | .global _ => .any
  | .func f => .val (.func (.func f) #[] #[])

theorem Rel.ev {base : Nat} {w : World} {gs : List Gh} {tm : Array Value} (h : Rel base w gs env os tm) (x : Operand) : RV w (okOf gs os) gs (Act.eval ⟨tm, []⟩ x) (AV.ev env x) := by
  cases x with
  | tmp t => exact h.he t
  | const v => exact .val v
  | global g => exact .any _
  | func f => exact .val _

theorem RV.val_eq {w : World} {ok : Nat → Prop} {gs : List Gh} {v u : Value} {a : AV} (h : RV w ok gs v a) (e : a = .val u) : v = u := by
  subst e; cases h; rfl

theorem Rel.evv {base : Nat} {w : World} {gs : List Gh} {tm : Array Value} (h : Rel base w gs env os tm) {x : Operand} {v : Value} (e : AV.ev env x = .val v) : Act.eval ⟨tm, []⟩ x = v :=
  (h.ev x).val_eq e

theorem AWp.cond {c : Operand} {b : Bool} {x y : Code} (hc : AV.ev env c = .val (.bool b)) (ht : b = true → AWp P x N X Rt env os) (hf : b = false → AWp P y N X Rt env os) :
    AWp P (.cond c x y) N X Rt env os := by
  intro base w0 w gs tm hr hb
  have he := hr.evv hc
  cases b
  · exact wp_cond he (by simpa using hf rfl base w0 w gs tm hr hb)
  · exact wp_cond he (by simpa using ht rfl base w0 w gs tm hr hb)

theorem AWp.mono {c : Code} {N' : APost} {X' : Nat → APost} {Rt' : APost} (h : AWp P c N X Rt env os) (hn : ∀ e o, N e o → N' e o) (hx : ∀ j e o, X j e o → X' j e o) (hrt : ∀ e o, Rt e o → Rt' e o) :
    AWp P c N' X' Rt' env os := by
  intro base w0 w gs tm hr hb
  refine wp_mono (h base w0 w gs tm hr hb) ?_
  intro e a w' hq
  cases e with
  | normal => obtain ⟨env', os', gs', a1, a2, a3, a4⟩ := hq; exact ⟨env', os', gs', a1, a2, a3, hn _ _ a4⟩
  | exit j => obtain ⟨env', os', gs', a1, a2, a3, a4⟩ := hq; exact ⟨env', os', gs', a1, a2, a3, hx _ _ _ a4⟩
  | ret => obtain ⟨env', os', gs', a1, a2, a3, a4⟩ := hq; exact ⟨env', os', gs', a1, a2, a3, hrt _ _ a4⟩
  | goto l => exact hq
  | panic ch => exact hq
  | outgrown => exact hq

theorem AWp.fit {c : Code} {env' : Env} {os' : List AO} (f : Fit env os env' os') (h : AWp P c N X Rt env' os') : AWp P c N X Rt env os := by
  intro base w0 w gs tm hr hb
  obtain ⟨gs', hr'⟩ := hr.fit f
  exact h base w0 w gs' tm hr' hb

/-- A LOOP: 'I x' is the state at a round's head, 'φ x' what is known there, 'μ' goes down. -/
theorem AWp.loop {c : Code} {ι : Type} (E : ι → Env) (O : ι → List AO) (φ : ι → Prop) (μ : ι → Nat) (x0 : ι) (h0 : φ x0) (f0 : Fit env os (E x0) (O x0))
    (round : ∀ x, φ x → AWp P c (fun env' os' => ∃ y, φ y ∧ μ y < μ x ∧ Fit env' os' (E y) (O y)) X Rt (E x) (O x)) : AWp P (.loop c) N X Rt env os := by
  intro base w0 w gs tm hr hb
  obtain ⟨gs0, hr0⟩ := hr.fit f0
  refine wp_loop_ghost (fun n a w' => ∃ x gs', φ x ∧ μ x = n ∧ Rel base w' gs' (E x) (O x) a.tmps ∧ a.defers = [] ∧ Below base w0 w') (μ x0) ⟨x0, gs0, h0, rfl, hr0, rfl, hb⟩ ?_
  rintro n a w1 ⟨x, gs1, hφ, rfl, hr1, hd, hb1⟩
  have ea : a = ⟨a.tmps, []⟩ := by cases a; simp_all
  rw [ea]
  refine wp_mono (round x hφ base w0 w1 gs1 a.tmps hr1 hb1) ?_
  intro e a' w' hq
  cases e with
  | normal =>
    obtain ⟨env', os', gs', r1, r2, r3, y, hy, hlt, hf⟩ := hq
    obtain ⟨gs2, hr2⟩ := r1.fit hf
    exact ⟨μ y, hlt, y, gs2, hy, rfl, hr2, r2, r3⟩
  | exit j => exact hq
  | ret => exact hq
  | goto l => exact hq
  | panic ch => exact hq
  | outgrown => exact hq
end control

/-! ### Regions -/

/-- How a region's operations are walked: one after the other; quiet, in the class of the worlds that are as this one was; worldless: in whatever world. -/
inductive Md where
  | seq
  | quiet
  | wless
def Md.wl : Md → Bool
  | .wless => true
  | _ => false

/-- Worldless operations, in the text's order. -/
def wpW (P : Program) (ops : Array Oper) (Q : Act → Prop) : List Oper → Act → Prop
  | [], a => Q a
  | o :: rest, a => ∃ v, Yields P ops o v a ∧ wpW P ops Q rest (a.put o.dst v)

/-- The operations 'rest' of the region 'l', in the text's order. -/
def AOps (P : Program) (q : Md) (l rest : List Oper) (K : APost) (env : Env) (os : List AO) : Prop :=
  match q with
  | .seq => ∀ base w0 w gs tm, Rel base w gs env os tm → Below base w0 w → ∀ X Rt, wpList P l.toArray (Post base w0 K X Rt) rest ⟨tm, []⟩ w
  | .quiet => ∀ base w gs tm, Rel base w gs env os tm →
    wpQuiet P l.toArray (fun w' => Below w.heap.size w w') (fun a' => ∃ env' os' gs', K env' os' ∧ a'.defers = [] ∧ ∀ w', Below w.heap.size w w' → Rel base w' gs' env' os' a'.tmps) rest ⟨tm, []⟩
  | .wless => ∀ base w gs tm, Rel base w gs env os tm →
    wpW P l.toArray (fun a' => ∃ env' os' gs', K env' os' ∧ a'.defers = [] ∧ Rel base w gs' env' os' a'.tmps) rest ⟨tm, []⟩

section regions
variable {P : Program} {N : APost} {X : Nat → APost} {Rt : APost} {env : Env} {os : List AO} {l rest : List Oper} {K : APost} {q : Md}

theorem AWp.region {id : Nat} (h : AOps P .seq l l N env os) : AWp P (.region id l.toArray false) N X Rt env os := by
  intro base w0 w gs tm hr hb
  exact wp_region_lit (h base w0 w gs tm hr hb X Rt)

theorem AWp.regionQ {id : Nat} (hm : P.follows .mixedOrders = true) (hB : Region.lexB .any l.toArray = true) (h : AOps P .quiet l l N env os) : AWp P (.region id l.toArray true) N X Rt env os := by
  intro base w0 w gs tm hr hb
  have hbel : Below w.heap.size w { w with drawn := w.drawn + 1 } := (Below.refl _ _).drew
  refine wp_region_quiet (C := fun w' => Below w.heap.size w w') hm hB hbel ?_
  have := h base w gs tm hr
  simp only
  refine wpQuiet_mono' ?_ this
  rintro a' ⟨env', os', gs', hk, hd, hrel⟩ w' hw'
  exact ⟨env', os', gs', hrel w' hw', hd, hb.trans (hw'.mono hr.hb), hk⟩
where
  wpQuiet_mono' {P : Program} {ops : Array Oper} {C : World → Prop} {Q Q' : Act → Prop} (hq : ∀ a, Q a → Q' a) : ∀ {rest : List Oper} {a : Act}, wpQuiet P ops C Q rest a → wpQuiet P ops C Q' rest a
    | [], a, h => hq a h
    | o :: rest, a, h => by
      unfold wpQuiet at h ⊢
      split
      · rename_i hw; rw [if_pos hw] at h
        exact Oper.quiet_mono (fun a' h' => wpQuiet_mono' hq h') h
      · rename_i hw; rw [if_neg hw] at h
        exact wpQuiet_mono' hq h

theorem AOps.nil (h : K env os) : AOps P q l [] K env os := by
  cases q
  · exact fun base w0 w gs tm hr hb X Rt => ⟨env, os, gs, hr, rfl, hb, h⟩
  · exact fun base w gs tm hr => ⟨env, os, gs, h, rfl, fun w' hw' => hr.below hw'⟩
  · exact fun base w gs tm hr => ⟨env, os, gs, h, rfl, hr⟩

/-- Is the operation wanted? By its guard. -/
def wantedA (l : List Oper) (env : Env) (o : Oper) : Option Bool :=
  match o.guard with
  | none => some true
  | some (j, pol) => match (l[j]?).bind (·.dst) with
    | none => none
    | some d => match env.fd d with
      | some (.val (.bool b)) => some (b == pol)
      | some (.val (.tuple _)) => some false
      | _ => none

theorem wantedA_spec {base : Nat} {w : World} {gs : List Gh} {tm : Array Value} (h : Rel base w gs env os tm) {o : Oper} {b : Bool} (hw : wantedA l env o = some b) :
    Region.wanted o (yielded l.toArray tm) = b := by
  unfold wantedA at hw
  unfold Region.wanted
  split at hw
  · rename_i hg; rw [hg]; simpa using hw
  · rename_i j pol hg
    rw [hg]
    simp only
    split at hw
    · cases hw
    · rename_i d hd
      split at hw
      · rename_i b' hv
        have hx := (h.he d).val_eq (Env.lk_of hv)
        have hlt : d < tm.size := by
          rcases Nat.lt_or_ge d env.n with h1 | h1
          · exact Nat.lt_of_lt_of_le h1 h.hs
          · have h3 : Nat.blt d env.n = false := by rw [Bool.eq_false_iff]; intro h4; rw [Nat.blt_eq] at h4; omega
            simp [Env.fd, h3] at hv
        have hy : tm[d]? = some (.bool b') := by
          rw [Array.getElem?_eq_getElem hlt]
          simpa [Array.getD, hlt] using hx
        have hyl : yielded l.toArray tm j = some b' := by
          unfold yielded
          simp only [List.getElem?_toArray, hd, Option.bind_some, hy]
        rw [hyl]
        simpa using hw
      · rename_i a' hv
        have hx := (h.he d).val_eq (Env.lk_of hv)
        have hlt : d < tm.size := by
          rcases Nat.lt_or_ge d env.n with h1 | h1
          · exact Nat.lt_of_lt_of_le h1 h.hs
          · have h3 : Nat.blt d env.n = false := by rw [Bool.eq_false_iff]; intro h4; rw [Nat.blt_eq] at h4; omega
            simp [Env.fd, h3] at hv
        have hy : tm[d]? = some (.tuple a') := by
          rw [Array.getElem?_eq_getElem hlt]
          simpa [Array.getD, hlt] using hx
        have hyl : yielded l.toArray tm j = none := by
          unfold yielded
          simp only [List.getElem?_toArray, hd, Option.bind_some, hy]
        rw [hyl]
        simpa using hw
      · cases hw

/-- One quiet operation: it yields a value of the abstract value r in every world that is as this one was; 'wl': in whatever world. -/
def QOp (P : Program) (wl : Bool) (o : Oper) (env : Env) (os : List AO) (r : AV) : Prop :=
  ∀ base w gs tm, Rel base w gs env os tm → ∃ v, RV w (okOf gs os) gs v r ∧ (wl = true → ∀ w', (execOp (Act.eval ⟨tm, []⟩) o).run P w' = .ok (.value v) w') ∧
    ∀ w', (wl = false → Below w.heap.size w w') → o.quietAt P ⟨tm, []⟩ (fun w'' => wl = false → Below w.heap.size w w'') w' v

theorem AOps.qo {d : Tmp} {op : Op} {ty : TypeId} {pos : String} {af : Array Edge} {g : Option (Nat × Bool)} {r : AV}
    (hw : wantedA l env ⟨some d, op, ty, pos, af, g⟩ = some true) (ho : QOp P q.wl ⟨some d, op, ty, pos, af, g⟩ env os r) (h : AOps P q l rest K (env.up d r) os) :
    AOps P q l (⟨some d, op, ty, pos, af, g⟩ :: rest) K env os := by
  have key : ∀ {v : Value} {w w' : World} {op : Oper} {tm : Array Value}, op.quietAt P ⟨tm, []⟩ (fun w'' => false = false → Below w.heap.size w w'') w' v → op.quietAt P ⟨tm, []⟩ (fun w'' => Below w.heap.size w w'') w' v := by
    intro v w w' op tm h
    have e : (fun w'' => false = false → Below w.heap.size w w'') = (fun w'' => Below w.heap.size w w'') := by funext w''; simp
    rwa [e] at h
  cases q
  · intro base w0 w gs tm hr hb X Rt
    obtain ⟨v, hv, _, hq⟩ := ho base w gs tm hr
    have hwa := wantedA_spec hr hw
    unfold wpList
    rw [if_pos hwa]
    refine .inl (Oper.wp_of_quiet (C := fun w' => Below w.heap.size w w') (K := fun a' => a' = Act.put ⟨tm, []⟩ (some d) v) (Below.refl _ _) ?_ ⟨v, fun w' hw' => key (hq w' fun _ => hw'), rfl⟩)
    intro a' w' hw' he
    subst he
    exact h base w0 w' gs _ ((hr.put hv d).below hw') (hb.trans (hw'.mono hr.hb)) X Rt
  · intro base w gs tm hr
    obtain ⟨v, hv, _, hq⟩ := ho base w gs tm hr
    have hwa := wantedA_spec hr hw
    unfold wpQuiet
    rw [if_pos hwa]
    exact ⟨v, fun w' hw' => key (hq w' fun _ => hw'), h base w gs _ (hr.put hv d)⟩
  · intro base w gs tm hr
    obtain ⟨v, hv, hq, _⟩ := ho base w gs tm hr
    exact ⟨v, .inl ⟨wantedA_spec hr hw, hq rfl⟩, h base w gs _ (hr.put hv d)⟩

theorem AOps.skip {d : Tmp} {op : Op} {ty : TypeId} {pos : String} {af : Array Edge} {g : Option (Nat × Bool)}
    (hw : wantedA l env ⟨some d, op, ty, pos, af, g⟩ = some false) (h : AOps P q l rest K (env.up d (.val undef)) os) :
    AOps P q l (⟨some d, op, ty, pos, af, g⟩ :: rest) K env os := by
  cases q
  · intro base w0 w gs tm hr hb X Rt
    have hwa := wantedA_spec hr hw
    unfold wpList
    rw [if_neg (by rw [hwa]; simp)]
    exact h base w0 w gs _ (hr.put (.val undef) d) hb X Rt
  · intro base w gs tm hr
    have hwa := wantedA_spec hr hw
    unfold wpQuiet
    rw [if_neg (by rw [hwa]; simp)]
    exact h base w gs _ (hr.put (.val undef) d)
  · intro base w gs tm hr
    exact ⟨undef, .inr ⟨wantedA_spec hr hw, rfl⟩, h base w gs _ (hr.put (.val undef) d)⟩

/-- A Bool in a slot is parted upon. -/
theorem AOps.split (d : Tmp) {b : Bool} (hd : env.lk d = .val (.bool b)) (ht : b = true → AOps P q l rest K (env.up d (.val (.bool true))) os)
    (hf : b = false → AOps P q l rest K (env.up d (.val (.bool false))) os) : AOps P q l rest K env os := by
  have key : ∀ {base : Nat} {w : World} {gs : List Gh} {tm : Array Value}, Rel base w gs env os tm → Rel base w gs (env.up d (.val (.bool b))) os tm := by
    intro base w gs tm h
    refine ⟨h.hb, h.hl, h.hs, fun i => ?_, h.ho, h.hd, h.hn⟩
    rw [Env.lk_up]
    split
    · rename_i hi
      have := h.he i
      rw [hi.1, hd] at this
      rw [hi.1]
      exact this
    · exact h.he i
  have h' : AOps P q l rest K (env.up d (.val (.bool b))) os := by
    cases b
    · exact hf rfl
    · exact ht rfl
  cases q
  · exact fun base w0 w gs tm hr hb X Rt => h' base w0 w gs tm (key hr) hb X Rt
  · exact fun base w gs tm hr => h' base w gs tm (key hr)
  · exact fun base w gs tm hr => h' base w gs tm (key hr)

theorem AOps.fact {p : Prop} (hp : p) (h : p → AOps P q l rest K env os) : AOps P q l rest K env os := h hp
end regions

/-! ### Loud operations -/

/-- One operation that makes or writes memory: the state behind it, and its value there. -/
def LOp (P : Program) (o : Oper) (env : Env) (os : List AO) (r : AV) (env1 : Env) (os1 : List AO) : Prop :=
  ∀ base w gs tm, Rel base w gs env os tm → ∃ v w' gs', ((execOp (Act.eval ⟨tm, []⟩) o).run P w = .ok (.value v) w' ∨ ((execOp (Act.eval ⟨tm, []⟩) o).run P w = .ok .skip w' ∧ v = undef)) ∧
    Rel base w' gs' env1 os1 tm ∧ RV w' (okOf gs' os1) gs' v r ∧ Below base w w'

/-- A call that makes or writes memory. -/
def COp (P : Program) (o : Oper) (env : Env) (os : List AO) (Q : AV → Env → List AO → Prop) : Prop :=
  ∀ base w gs tm, Rel base w gs env os tm → ∃ f args, (execOp (Act.eval ⟨tm, []⟩) o).run P w = .ok (.enter f args) w ∧
    Calls P f args w fun e w' => ∃ v r env1 os1 gs', e = .returned v ∧ Q r env1 os1 ∧ Rel base w' gs' env1 os1 tm ∧ RV w' (okOf gs' os1) gs' v r ∧ Below base w w'

section loud
variable {P : Program} {env env1 : Env} {os os1 : List AO} {l rest : List Oper} {K : APost} {op : Op} {ty : TypeId} {pos : String} {af : Array Edge} {r : AV}

theorem AOps.lo {d : Tmp} (ho : LOp P ⟨some d, op, ty, pos, af, none⟩ env os r env1 os1) (h : AOps P .seq l rest K (env1.up d r) os1) : AOps P .seq l (⟨some d, op, ty, pos, af, none⟩ :: rest) K env os := by
  intro base w0 w gs tm hr hb X Rt
  obtain ⟨v, w', gs', hrun, hr', hv, hb'⟩ := ho base w gs tm hr
  refine wpList_plain rfl fun K hK => ?_
  unfold Oper.wp
  rcases hrun with hrun | ⟨hrun, rfl⟩
  · rw [hrun]; exact hK _ _ (h base w0 w' gs' _ (hr'.put hv d) (hb.trans hb') X Rt)
  · rw [hrun]; exact hK _ _ (h base w0 w' gs' _ (hr'.put hv d) (hb.trans hb') X Rt)

theorem AOps.so (ho : LOp P ⟨none, op, ty, pos, af, none⟩ env os r env1 os1) (h : AOps P .seq l rest K env1 os1) : AOps P .seq l (⟨none, op, ty, pos, af, none⟩ :: rest) K env os := by
  intro base w0 w gs tm hr hb X Rt
  obtain ⟨v, w', gs', hrun, hr', hv, hb'⟩ := ho base w gs tm hr
  refine wpList_plain rfl fun K hK => ?_
  unfold Oper.wp
  rcases hrun with hrun | ⟨hrun, rfl⟩
  · rw [hrun]; exact hK _ _ (h base w0 w' gs' _ hr' (hb.trans hb') X Rt)
  · rw [hrun]; exact hK _ _ (h base w0 w' gs' _ hr' (hb.trans hb') X Rt)

theorem AOps.ca {d : Tmp} {Q : AV → Env → List AO → Prop} (ho : COp P ⟨some d, op, ty, pos, af, none⟩ env os Q) (h : ∀ r e o, Q r e o → AOps P .seq l rest K (e.up d r) o) :
    AOps P .seq l (⟨some d, op, ty, pos, af, none⟩ :: rest) K env os := by
  intro base w0 w gs tm hr hb X Rt
  obtain ⟨f, args, hrun, hc⟩ := ho base w gs tm hr
  refine wpList_plain rfl fun K hK => ?_
  unfold Oper.wp
  rw [hrun]
  refine hc.mono ?_
  rintro e w' ⟨v, r, env1, os1, gs', rfl, hq, hr', hv, hb'⟩
  exact hK _ _ (h r env1 os1 hq base w0 w' gs' _ (hr'.put hv d) (hb.trans hb') X Rt)

theorem AOps.cas {Q : AV → Env → List AO → Prop} (ho : COp P ⟨none, op, ty, pos, af, none⟩ env os Q) (h : ∀ r e o, Q r e o → AOps P .seq l rest K e o) :
    AOps P .seq l (⟨none, op, ty, pos, af, none⟩ :: rest) K env os := by
  intro base w0 w gs tm hr hb X Rt
  obtain ⟨f, args, hrun, hc⟩ := ho base w gs tm hr
  refine wpList_plain rfl fun K hK => ?_
  unfold Oper.wp
  rw [hrun]
  refine hc.mono ?_
  rintro e w' ⟨v, r, env1, os1, gs', rfl, hq, hr', hv, hb'⟩
  exact hK _ _ (h r env1 os1 hq base w0 w' gs' _ hr' (hb.trans hb') X Rt)
end loud

end Go.Proofs.YtfgnccoaebkckaaDoor
