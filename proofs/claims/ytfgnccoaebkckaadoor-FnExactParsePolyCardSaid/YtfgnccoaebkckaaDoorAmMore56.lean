/-
  Functions that read a table of the library: its cells stand as a fact in a slot of the caller; lists of texts that are only read. Conditions: the table's cells, where a contract names it.
-/
import Derived.Test.YtfgnccoaebkckaaDoorAmMore55
import Derived.Test.YtfgnccoaebkckaaDoorRows
import Derived.Lib.ItoaNum
import Derived.Lib.LaidTab
namespace Go.Proofs.YtfgnccoaebkckaaDoor
open Go Go.RowKit

/-- The table's name, from the given row. -/
def tabN : String := Rows.fnExactPolyTextRow.named.headD ""
/-- The world holds the table. -/
def TabW (P : Program) (w : World) : Prop := Lib.TabIs P w tabN .u64 Lib.pow10Tab

theorem TabW.lt {P : Program} {w : World} (h : TabW P w) {g : Nat} (hg : P.globalNamed tabN = some g) : g < w.heap.size := by
  unfold TabW Lib.TabIs World.var? at h
  rw [hg] at h
  simp only [Option.bind_some] at h
  rcases Nat.lt_or_ge g w.heap.size with h' | h'
  · exact h'
  · rw [Array.getElem?_eq_none h'] at h; simp at h
theorem TabW.same {P : Program} {w w' : World} (h : TabW P w) (hs : ∀ g, P.globalNamed tabN = some g → w'.heap[g]? = w.heap[g]?) : TabW P w' := by
  unfold TabW Lib.TabIs World.var? at *
  cases hg : P.globalNamed tabN with
  | none => rw [hg] at h; simp at h
  | some g =>
    rw [hg] at h
    simp only [Option.bind_some] at h ⊢
    rw [hs g hg]; exact h
theorem TabW.below {P : Program} {w w' : World} (h : TabW P w) (hb : Below w.heap.size w w') : TabW P w' := h.same fun g hg => hb.block g (h.lt hg)

/-- What a slot may say of the world: that it holds the table, in a block that nobody owns. -/
def tabRo (P : Program) : Ro where
  p w ok _ := TabW P w ∧ ∀ g, P.globalNamed tabN = some g → ok g
  up := by
    intro w w' ok ok' v k h
    have hk : ∀ g, P.globalNamed tabN = some g → ok' g ∧ w'.heap[g]? = w.heap[g]? := fun g hg => k g (h.2 g hg) (h.1.lt hg)
    exact ⟨h.1.same fun g hg => (hk g hg).2, fun g hg => (hk g hg).1⟩

/-- The function hands back the plain value v, where the world holds the table. -/
def AFnVt (P : Program) (f : FuncId) (args : List AV) (v : Value) : Prop :=
  HasBody P f ∧ ∀ w vs, RVs w args vs → TabW P w → Calls P f vs w fun e w' => e = .returned v ∧ Below w.heap.size w w'
/-- The function hands back new objects, where the world holds the table. -/
def AFnt (P : Program) (f : FuncId) (args : List AV) (Q : AV → List AO → Prop) : Prop :=
  HasBody P f ∧ ∀ w vs, RVs w args vs → TabW P w → Calls P f vs w fun e w' => ∃ v r os gs, e = .returned v ∧ Q r os ∧ Below w.heap.size w w' ∧ NewObjs w.heap.size w' gs os ∧
    RV w' (fun b => w.heap.size ≤ b ∧ okOf gs os b) gs v r

section
variable {P : Program} {env : Env} {os : List AO}
theorem Rel.tab {base : Nat} {w : World} {gs : List Gh} {tm : Array Value} (h : Rel base w gs env os tm) {k : Nat} (hk : env.fd k = some (.ro (tabRo P))) : TabW P w := by
  have := h.he k
  rw [Env.lk_of hk] at this
  generalize tm.getD k undef = u at this
  cases this with
  | ro h => exact h.1
/-- A slot's value may be seen as what else it is. -/
theorem Rel.see {base : Nat} {w : World} {gs : List Gh} {tm : Array Value} (h : Rel base w gs env os tm) {d : Nat} {r : AV} (hv : RV w (okOf gs os) gs (tm.getD d undef) r) : Rel base w gs (env.up d r) os tm := by
  refine ⟨h.hb, h.hl, h.hs, fun i => ?_, h.ho, h.hd, h.hn⟩
  rw [Env.lk_up]
  split
  · rename_i hi
    rw [hi.1]; exact hv
  · exact h.he i

theorem AFnVt.start {f : FuncId} {fn : Func} {c : Code} {args : List AV} {v : Value} {m : Nat} (k : Nat) (hf : P.funcs[f]? = some fn) (hn : fn.ntmps = m) (hb : fn.body = some c) (hnm : (fn.name == "runtime.NumGoroutine") = false)
    (h : (∀ a ∈ args, ArgOk a) → AWp P c (fun _ _ => False) (fun _ _ _ => False) (fun env os => ResIs P fn env os (.val v)) ((Env.start args (m - args.length)).up k (.ro (tabRo P))) []) : AFnVt P f args v := by
  refine ⟨⟨fn, c, hf, hnm, hb⟩, fun w vs hvs ht => ?_⟩
  have hk : ∀ a ∈ args, ArgOk a := fun a ha => by
    obtain ⟨i, hi, rfl⟩ := List.getElem_of_mem ha
    have := (hvs.2 i).argOk
    rwa [show args.getD i .any = args[i] by simp [hi]] at this
  refine calls_of_wp hf hb ?_
  rw [show fn.ntmps - vs.size = m - args.length by rw [hvs.1, hn]]
  have hrel := (Rel.start hvs (m - args.length)).see (d := k) (r := .ro (tabRo P)) (.ro ⟨ht, fun g hg k' g' o hg' => by simp at hg'⟩)
  refine wp_mono (h hk w.heap.size w w [] _ hrel (Below.refl _ _)) ?_
  intro e a w' hq
  cases e with
  | normal => obtain ⟨_, _, _, _, _, _, hx⟩ := hq; exact hx.elim
  | exit j => obtain ⟨_, _, _, _, _, _, hx⟩ := hq; exact hx.elim
  | ret =>
    obtain ⟨env, os, gs, hr, hd, hbel, hx⟩ := hq
    obtain ⟨u, hu, hv⟩ := hx _ _ _ _ hr
    cases hv
    exact ⟨hd, v, hu, rfl, hbel⟩
  | goto l => exact (hq : False).elim
  | panic ch => exact (hq : False).elim
  | outgrown => exact (hq : False).elim
theorem AFnt.start {f : FuncId} {fn : Func} {c : Code} {args : List AV} {Q : AV → List AO → Prop} {m : Nat} (k : Nat) (hf : P.funcs[f]? = some fn) (hn : fn.ntmps = m) (hb : fn.body = some c) (hnm : (fn.name == "runtime.NumGoroutine") = false)
    (h : (∀ a ∈ args, ArgOk a) → AWp P c (fun _ _ => False) (fun _ _ _ => False) (fun env os => ∃ a r objs, ResIs P fn env os a ∧ Ret1 os a r objs ∧ Q r objs) ((Env.start args (m - args.length)).up k (.ro (tabRo P))) []) : AFnt P f args Q := by
  refine ⟨⟨fn, c, hf, hnm, hb⟩, fun w vs hvs ht => ?_⟩
  have hk : ∀ a ∈ args, ArgOk a := fun a ha => by
    obtain ⟨i, hi, rfl⟩ := List.getElem_of_mem ha
    have := (hvs.2 i).argOk
    rwa [show args.getD i .any = args[i] by simp [hi]] at this
  refine calls_of_wp hf hb ?_
  rw [show fn.ntmps - vs.size = m - args.length by rw [hvs.1, hn]]
  have hrel := (Rel.start hvs (m - args.length)).see (d := k) (r := .ro (tabRo P)) (.ro ⟨ht, fun g hg k' g' o hg' => by simp at hg'⟩)
  refine wp_mono (h hk w.heap.size w w [] _ hrel (Below.refl _ _)) ?_
  intro e a w' hq
  cases e with
  | normal => obtain ⟨_, _, _, _, _, _, hx⟩ := hq; exact hx.elim
  | exit j => obtain ⟨_, _, _, _, _, _, hx⟩ := hq; exact hx.elim
  | ret =>
    obtain ⟨env, os, gs, hr, hd, hbel, a', r, objs, h1, h2, h3⟩ := hq
    obtain ⟨u, hu, hv⟩ := h1 _ _ _ _ hr
    obtain ⟨gs', h4, h5⟩ := h2 _ _ _ _ _ hr u hv
    exact ⟨hd, u, hu, u, r, objs, gs', rfl, h3, hbel, h4, h5⟩
  | goto l => exact (hq : False).elim
  | panic ch => exact (hq : False).elim
  | outgrown => exact (hq : False).elim

theorem q_callt {d : Option Tmp} {ty : TypeId} {pos : String} {af : Array Edge} {g : Option (Nat × Bool)} {f : FuncId} {args : List AV} {v : Value} (hc : AFnVt P f args v) {xs : List Operand} {ats : Array TypeId} {k : Nat} (hk : env.fd k = some (.ro (tabRo P))) (hi : Imms os (xs.map (AV.ev env)) args) :
    QOp P false ⟨d, .call { callee := .value (.func f), args := xs.toArray, argTypes := ats }, ty, pos, af, g⟩ env os (.val v) := by
  intro base w gs tm hr
  refine ⟨v, .val v, fun e => (by cases e), fun w' hw' => ?_⟩
  unfold Oper.quietAt
  rw [run_call hc.1 xs ats _ rfl]
  have hr' := hr.below (hw' rfl)
  refine ⟨rfl, (hc.2 w' _ (hi.rvs hr') (hr'.tab hk)).mono ?_⟩
  rintro e w'' ⟨rfl, hb⟩
  exact ⟨rfl, fun _ => (hw' rfl).trans (hb.mono (hw' rfl).size)⟩
theorem c_callt' {d : Option Tmp} {ty : TypeId} {pos : String} {af : Array Edge} {g : Option (Nat × Bool)} {f : FuncId} {args : List AV} {Q : AV → List AO → Prop} (hc : AFnt P f args Q) {xs : List Operand} {ats : Array TypeId} {k : Nat} (hk : env.fd k = some (.ro (tabRo P))) (hi : Imms os (xs.map (AV.ev env)) args) :
    COp P ⟨d, .call { callee := .value (.func f), args := xs.toArray, argTypes := ats }, ty, pos, af, g⟩ env os (fun r e o => ∃ r0 os0, Q r0 os0 ∧ r = r0.sh os.length ∧ e = env ∧ o = os ++ os0.map (AO.sh os.length)) := by
  intro base w gs tm hr
  refine ⟨f, _, run_call hc.1 xs ats _ rfl w, (hc.2 w _ (hi.rvs hr) (hr.tab hk)).mono ?_⟩
  rintro e w' ⟨v, r, os', gs', rfl, hq, hb, hn, hv⟩
  have j := hr.join hb hn
  rw [hr.hl] at j
  exact ⟨v, _, _, _, _, rfl, ⟨r, os', hq, rfl, rfl, rfl⟩, j.1, j.2 hv, hb.mono hr.hb⟩
end
section
variable {P : Program} {env : Env} {os : List AO} {d : Tmp} {ty : TypeId} {pos : String} {af : Array Edge} {g : Option (Nat × Bool)} {l rest : List Oper} {K : APost} {q : Md}
theorem w_callVt {f : FuncId} {args : List AV} {v : Value} {xs : List Operand} {ats : Array TypeId} (k : Nat) (hc : AFnVt P f args v) (hw : wantedA l env ⟨some d, .call { callee := .value (.func f), args := xs.toArray, argTypes := ats }, ty, pos, af, g⟩ = some true)
    (hq : q.wl = false) (hk : env.fd k = some (.ro (tabRo P))) (hi : Imms os (xs.map (AV.ev env)) args) (h' : AOps P q l rest K (env.up d (.val v)) os) : AOps P q l (⟨some d, .call { callee := .value (.func f), args := xs.toArray, argTypes := ats }, ty, pos, af, g⟩ :: rest) K env os := AOps.qo hw (by rw [hq]; exact q_callt hc hk hi) h'
theorem w_callmt {f : FuncId} {args : List AV} {Q : AV → List AO → Prop} {xs : List Operand} {ats : Array TypeId} (k : Nat) (hc : AFnt P f args Q) (hk : env.fd k = some (.ro (tabRo P))) (hi : Imms os (xs.map (AV.ev env)) args)
    (h' : ∀ r os0, Q r os0 → AOps P .seq l rest K (env.up d (r.sh os.length)) (os ++ os0.map (AO.sh os.length))) :
    AOps P .seq l (⟨some d, .call { callee := .value (.func f), args := xs.toArray, argTypes := ats }, ty, pos, af, none⟩ :: rest) K env os :=
  AOps.ca (c_callt' hc hk hi) fun r e o ⟨r0, os0, hq, h1, h2, h3⟩ => by subst h1; subst h2; subst h3; exact h' r0 os0 hq
end

/-- A list of texts that is only read. -/
def strsR (ss : List (List UInt8)) : Ro where
  p w ok v := RowAt w ok v (ss.map sV)
  up k h := h.mono k
theorem reads_sL {os : List AO} {h : Nat} {e : TypeId} {ss : List (List UInt8)} (hs : os[h]? = some (.slr e (sL ss))) : Reads os [h] (.own h) (strsR ss) := by
  intro base w gs ok hro hok kp v hv
  cases hv with
  | @own _ gp hg =>
    obtain ⟨vs, a1, a2, a3, a4⟩ := hro _ _ _ hg hs
    rw [sL_len] at a2
    have hvs : vs = ss.map sV := by
      apply List.ext_getElem (by simp [a2])
      intro i h1 h2
      have h5 := a3 i
      have hi : i < ss.length := by omega
      rw [List.getD_eq_getElem?_getD, List.getElem?_eq_getElem h1, List.getD_eq_getElem?_getD, sL_get hi] at h5
      simp only [Option.getD_some] at h5
      generalize hu : vs[i] = u at h5
      cases h5
      simp [List.getD_eq_getElem?_getD, hi]
    subst hvs
    show RowAt w ok gp.v (ss.map sV)
    rcases a1.2 with ⟨h1, h2⟩ | ⟨b, cap, cur, h1, r⟩
    · rw [h1]
      exact ⟨none, 0, by rw [h2], by omega, Nat.zero_le _, fun h0 => by omega⟩
    · rw [h1]
      refine ⟨_, cap, rfl, r.2.2.1, r.2.2.2.1, fun _ => ⟨b, 0, rfl, ?_, fun i u hu => ?_⟩⟩
      · refine hok h (by simp) _ _ hg hs (by simp) b ?_
        rcases a4 with ⟨h3, h4⟩ | ⟨h3, h4⟩
        · rw [h1] at h3; cases h3
        · rw [h4]
          have : gp.b = b := by rw [h1] at h3; cases h3; rfl
          rw [this]; simp
      · have hi := (List.getElem?_eq_some_iff.1 hu).1
        obtain ⟨b2, cap2, e3, e4, e5, _⟩ := own_slice a1 (i := i) hi
        rw [h1] at e3; cases e3
        rw [Nat.zero_add, e5]; exact hu
theorem Ret1.slS {os : List AO} {h : Nat} {e : TypeId} {ss : List (List UInt8)} (hs : os[h]? = some (.slr e (sL ss))) : Ret1 os (.own h) (.own 0) [.slr e (sL ss)] := fun base w gs env tm hr u hu => by
  cases hu with
  | @own _ g hg =>
    refine ⟨[g], .one ?_ fun b hb => hr.hn _ _ _ hg hs (by simp) b hb, .own rfl⟩
    obtain ⟨vs, a1, a2, a3, a4⟩ := hr.ho _ _ _ hg hs
    refine ⟨vs, a1, a2, fun i => ?_, a4⟩
    have h5 := a3 i
    rcases Nat.lt_or_ge i ss.length with hi | hi
    · rw [show (sL ss).getD i .any = .s (ss.getD i []) by rw [List.getD_eq_getElem?_getD, sL_get hi]; rfl] at h5 ⊢
      generalize vs.getD i undef = x at h5 ⊢
      cases h5; exact .val _
    · rw [show (sL ss).getD i .any = .any by rw [List.getD_eq_getElem?_getD, List.getElem?_eq_none (by rw [sL_len]; exact hi)]; rfl]
      exact .any _
end Go.Proofs.YtfgnccoaebkckaaDoor
