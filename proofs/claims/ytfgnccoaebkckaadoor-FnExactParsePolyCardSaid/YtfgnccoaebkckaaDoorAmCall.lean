/-
  Contracts of functions over abstract values, and calls by contract. No condition.
-/
import Derived.Test.YtfgnccoaebkckaaDoorAmOps
namespace Go.Proofs.YtfgnccoaebkckaaDoor
open Go Go.RowKit

def RVs (w : World) (args : List AV) (vs : Array Value) : Prop := vs.size = args.length ∧ ∀ i : Nat, RV w (fun _ => True) [] (vs.getD i undef) (args.getD i .any)

def HasBody (P : Program) (f : FuncId) : Prop := ∃ fn c, P.funcs[f]? = some fn ∧ (fn.name == "runtime.NumGoroutine") = false ∧ fn.body = some c

theorem HasBody.run {P : Program} {f : FuncId} (h : HasBody P f) (args : Array Value) (w : World) : (callFunc f args).run P w = .ok (.enter f args) w := by
  obtain ⟨fn, c, h1, h2, h3⟩ := h
  have h2' : ¬ fn.name = "runtime.NumGoroutine" := by simpa using h2
  simp [callFunc, h1, h2', h3]

/-- The function hands back the plain value v; it leaves what was there. -/
def AFnV (P : Program) (f : FuncId) (args : List AV) (v : Value) : Prop :=
  HasBody P f ∧ ∀ w vs, RVs w args vs → Calls P f vs w fun e w' => e = .returned v ∧ Below w.heap.size w w'

/-- New objects in new memory, from 'base' on. -/
structure NewObjs (base : Nat) (w : World) (gs : List Gh) (os : List AO) : Prop where
  hl : gs.length = os.length
  ho : ∀ (h : Nat) g o, gs[h]? = some g → os[h]? = some o → RO base w (fun b => base ≤ b ∧ okOf gs os b) gs g o
  hd : ∀ (h k : Nat) g g' o o', h ≠ k → gs[h]? = some g → gs[k]? = some g' → os[h]? = some o → os[k]? = some o' → o ≠ .dead → o' ≠ .dead → ∀ b, b ∈ g.bl → b ∉ g'.bl
  hn : ∀ (h : Nat) g o, gs[h]? = some g → os[h]? = some o → o ≠ .dead → ∀ b, b ∈ g.bl → base ≤ b ∧ b < w.heap.size

/-- The function hands back r over the new objects os, of which Q speaks; it leaves what was there. -/
def AFn (P : Program) (f : FuncId) (args : List AV) (Q : AV → List AO → Prop) : Prop :=
  HasBody P f ∧ ∀ w vs, RVs w args vs → Calls P f vs w fun e w' => ∃ v r os gs, e = .returned v ∧ Q r os ∧ Below w.heap.size w w' ∧ NewObjs w.heap.size w' gs os ∧
    RV w' (fun b => w.heap.size ≤ b ∧ okOf gs os b) gs v r

/-! ### Handing values to a callee -/
/-- 'a' reads as 'r', where only the handles 'hs' lie behind it. -/
def Reads (os : List AO) (hs : List Nat) (a : AV) (r : Ro) : Prop := ∀ base w gs (ok : Nat → Prop), (∀ (h : Nat) g o, gs[h]? = some g → os[h]? = some o → RO base w (okOf gs os) gs g o) →
  (∀ h, h ∈ hs → ∀ g o, gs[h]? = some g → os[h]? = some o → o ≠ .dead → ∀ b, b ∈ g.bl → ok b) → Keeps (okOf gs os) ok w w → ∀ v, RV w (okOf gs os) gs v a → r.p w ok v
inductive Imm (os : List AO) : AV → AV → Prop
  | any (a : AV) : Imm os a .any
  | val (v : Value) : Imm os (.val v) (.val v)
  | ints (xs : List Int) : Imm os (.ints xs) (.ints xs)
  | intss (xss : List (List Int)) : Imm os (.intss xss) (.intss xss)
  | ro (r : Ro) : Imm os (.ro r) (.ro r)
  | sem (hs : List Nat) {a : AV} {r : Ro} : Reads os hs a r → Imm os a (.ro r)
  | nil : Imm os (.val (.slice none 0 0)) (.ints [])
  | nils : Imm os (.val (.slice none 0 0)) (.intss [])
  | sli {h : Nat} {e : TypeId} {xs : List Int} : os[h]? = some (.sli e xs) → Imm os (.own h) (.ints xs)
  | osub {h off len : Nat} {e : TypeId} {xs : List Int} : os[h]? = some (.sli e xs) → off + len ≤ xs.length → Imm os (.osub h off len) (.ints ((xs.drop off).take len))
  | sls {h : Nat} {e e2 : TypeId} {xss : List (List Int)} : os[h]? = some (.sls e e2 xss) → Imm os (.own h) (.intss xss)
  | orow {h i : Nat} {e e2 : TypeId} {xss : List (List Int)} : os[h]? = some (.sls e e2 xss) → Imm os (.orow h i) (.ints (xss.getD i []))
  | agg {l l' : List AV} : l.length = l'.length → (∀ i : Nat, Imm os (l.getD i .any) (l'.getD i .any)) → Imm os (.agg l) (.agg l')

theorem RowAt.of_owns {w : World} {base : Nat} {e : TypeId} {v : Value} {n : Nat} {vs : List Value} (h : w.ownsRow base e 1 v n vs) : RowAt w (fun _ => True) v vs := by
  have hl : vs.length = n := by simpa using h.1
  rcases h.2 with ⟨rfl, rfl⟩ | ⟨g, cap, cur, rfl, hb, hg, hnc, hcm, hcs, htake⟩
  · exact ⟨none, 0, by rw [hl], by omega, by simp [maxLen], fun h0 => by omega⟩
  · refine ⟨some ⟨g, 0, none⟩, cap, by rw [hl], by omega, hcm, fun _ => ⟨g, 0, rfl, trivial, fun i u hu => ?_⟩⟩
    have h' : w.ownsRow base e 1 (.slice (some ⟨g, 0, none⟩) n cap) n vs := ⟨h.1, .inr ⟨g, cap, cur, rfl, hb, hg, hnc, hcm, hcs, htake⟩⟩
    have hi := (List.getElem?_eq_some_iff.1 hu).1
    rw [Nat.zero_add, h'.cellAt i (by omega)]
    exact hu

theorem RowAt.nil {w : World} {ok : Nat → Prop} : RowAt w ok (.slice none 0 0) [] := ⟨none, 0, rfl, Nat.le_refl _, by simp [maxLen], fun h => by simp at h⟩
theorem IntsAt.nil {w : World} {ok : Nat → Prop} : IntsAt w ok (.slice none 0 0) [] := ⟨RowAt.nil, fun _ h => by cases h⟩
theorem IntssAt.nil {w : World} {ok : Nat → Prop} : IntssAt w ok (.slice none 0 0) [] := ⟨[], RowAt.nil, rfl, fun i u h => by simp at h⟩

theorem Imm.rv {base : Nat} {w : World} {gs : List Gh} {env : Env} {os : List AO} {tm : Array Value} (hr : Rel base w gs env os tm) {a a' : AV} (h : Imm os a a') :
    ∀ {v : Value}, RV w (okOf gs os) gs v a → RV w (fun _ => True) [] v a' := by
  have kp : Keeps (okOf gs os) (fun _ => True) w w := fun _ _ _ => ⟨trivial, rfl⟩
  induction h with
  | any a => intro v _; exact .any v
  | val v => intro v hv; cases hv; exact .val _
  | ints xs => intro v hv; cases hv with | ints h1 => exact .ints (h1.mono kp)
  | intss xss => intro v hv; cases hv with | intss h1 => exact .intss (h1.mono kp)
  | ro r => intro v hv; cases hv with | ro h1 => exact .ro (r.up kp h1)
  | sem hs h1 => intro v hv; exact .ro (h1 base w gs _ hr.ho (fun _ _ _ _ _ _ _ _ _ => trivial) kp v hv)
  | nil => intro v hv; cases hv; exact .ints IntsAt.nil
  | nils => intro v hv; cases hv; exact .intss IntssAt.nil
  | sli h1 => intro v hv; cases hv with | own hg =>
      obtain ⟨a1, a2, _⟩ := hr.ho _ _ _ hg h1
      exact .ints ⟨RowAt.of_owns a1, a2⟩
  | @osub h off len e xs h1 hle => intro v hv; cases hv with | osub hg hp hc hm =>
      obtain ⟨a1, a2, a3⟩ := hr.ho _ _ _ hg h1
      have hl : (((xs.drop off).take len).map (Value.int .i64)).length = len := by simp; omega
      refine .ints ⟨⟨_, _, by rw [hl], by omega, hm, fun h0 => ?_⟩, fun x hx => a2 x (List.mem_of_mem_drop (List.mem_of_mem_take hx))⟩
      rw [hl] at h0
      refine ⟨_, off, hp h0, trivial, fun i u hu => ?_⟩
      have hi := (List.getElem?_eq_some_iff.1 hu).1
      rw [hl] at hi
      obtain ⟨b, cap', e1, e2, e3, _⟩ := own_slice a1 (i := off + i) (by simp; omega)
      rw [a3.eq e2, e3, ← hu, List.map_take, List.map_drop, List.getElem?_take, if_pos hi, List.getElem?_drop]
  | sls h1 => intro v hv; cases hv with | own hg =>
      obtain ⟨vs, bs, mb, a1, a2, a3, a4, a5, _⟩ := hr.ho _ _ _ hg h1
      exact .intss ⟨vs, RowAt.of_owns a1, a2, fun i u hu => ⟨RowAt.of_owns (a5 i u hu).1, (a5 i u hu).2.1⟩⟩
  | orow h1 => intro v hv; cases hv with | orow hg hrow =>
      obtain ⟨vs, bs, mb, a1, a2, a3, a4, a5, _⟩ := hr.ho _ _ _ hg h1
      rw [a4] at hrow
      exact .ints ⟨RowAt.of_owns (a5 _ _ hrow).1, (a5 _ _ hrow).2.1⟩
  | agg h1 _ ih => intro v hv; cases hv with | agg h2 h4 h3 => exact .agg (by omega) h4 fun i => ih i (h3 i)

def Imms (os : List AO) : List AV → List AV → Prop
  | [], [] => True
  | a :: as0, b :: bs => Imm os a b ∧ Imms os as0 bs
  | _, _ => False

theorem Imms.get {os : List AO} : ∀ {l l' : List AV}, Imms os l l' → l.length = l'.length ∧ ∀ i : Nat, Imm os (l.getD i .any) (l'.getD i .any)
  | [], [], _ => ⟨rfl, fun i => .any _⟩
  | a :: as0, b :: bs, h => by
    obtain ⟨h1, h2⟩ := h
    have ih := Imms.get h2
    refine ⟨by simp [ih.1], fun i => ?_⟩
    cases i with
    | zero => simpa using h1
    | succ i => simpa using ih.2 i
  | [], _ :: _, h => h.elim
  | _ :: _, [], h => h.elim

theorem Imm.aggs {os : List AO} {l l' : List AV} (h : Imms os l l') : Imm os (.agg l) (.agg l') := .agg h.get.1 h.get.2

theorem Imms.rvs {base : Nat} {w : World} {gs : List Gh} {env : Env} {os : List AO} {tm : Array Value} (hr : Rel base w gs env os tm) {xs : List Operand} {args : List AV} (h : Imms os (xs.map (AV.ev env)) args) :
    RVs w args (xs.map (Act.eval ⟨tm, []⟩)).toArray := by
  have hg := h.get
  refine ⟨by simpa using hg.1, fun i => ?_⟩
  have h1 := hg.2 i
  have e1 : (xs.map (AV.ev env)).getD i .any = match xs[i]? with | some x => AV.ev env x | none => .any := by
    simp only [List.getD_eq_getElem?_getD, List.getElem?_map]; cases xs[i]? <;> rfl
  have e2 : (xs.map (Act.eval ⟨tm, []⟩)).toArray.getD i undef = match xs[i]? with | some x => Act.eval ⟨tm, []⟩ x | none => undef := by
    simp only [Array.getD_eq_getD_getElem?, List.getElem?_toArray, List.getElem?_map]; cases xs[i]? <;> rfl
  rw [e1] at h1
  rw [e2]
  cases hx : xs[i]? with
  | some x => rw [hx] at h1; exact h1.rv hr (hr.ev x)
  | none => rw [hx] at h1; exact h1.rv hr (.any _)

section
variable {P : Program} {env : Env} {os : List AO} {d : Option Tmp} {ty : TypeId} {pos : String} {af : Array Edge} {g : Option (Nat × Bool)}

theorem run_call {P : Program} {d : Option Tmp} {ty : TypeId} {pos : String} {af : Array Edge} {g : Option (Nat × Bool)} {f : FuncId} (hb : HasBody P f) (xs : List Operand) (ats : Array TypeId) (ρ : Operand → Value) (hρ : ρ (.func f) = .func (.func f) #[] #[]) (w : World) :
    (execOp ρ ⟨d, .call { callee := .value (.func f), args := xs.toArray, argTypes := ats }, ty, pos, af, g⟩).run P w = .ok (.enter f (xs.map ρ).toArray) w := by
  have := hb.run (xs.map ρ).toArray w
  simp only [execOp, resolve, hρ, Deferred.ofValue, Sem.run_bind, Sem.run_pure, Result.andThen_ok, invoke, List.map_toArray]
  simpa using this

theorem q_call {f : FuncId} {args : List AV} {v : Value} (hc : AFnV P f args v) {xs : List Operand} {ats : Array TypeId} (hi : Imms os (xs.map (AV.ev env)) args) :
    QOp P false ⟨d, .call { callee := .value (.func f), args := xs.toArray, argTypes := ats }, ty, pos, af, g⟩ env os (.val v) := by
  intro base w gs tm hr
  refine ⟨v, .val v, fun e => (by cases e), fun w' hw' => ?_⟩
  unfold Oper.quietAt
  rw [run_call hc.1 xs ats _ rfl]
  refine ⟨rfl, (hc.2 w' _ (hi.rvs (hr.below (hw' rfl)))).mono ?_⟩
  rintro e w'' ⟨rfl, hb⟩
  exact ⟨rfl, fun _ => (hw' rfl).trans (hb.mono (hw' rfl).size)⟩

/-! ### Results -/
def ResIs (P : Program) (fn : Func) (env : Env) (os : List AO) (a : AV) : Prop :=
  ∀ base w gs tm, Rel base w gs env os tm → ∃ v, (results fn tm).run P w = .ok v w ∧ RV w (okOf gs os) gs v a

theorem ResIs.t1 {fn : Func} {t : Tmp} (h : fn.results = #[.tmp t]) : ResIs P fn env os (env.lk t) :=
  fun _ _ _ tm hr => ⟨_, results_tmp h tm P _, hr.he t⟩
theorem ResIs.t2 {fn : Func} {t u : Tmp} (h : fn.results = #[.tmp t, .tmp u]) : ResIs P fn env os (.tup [env.lk t, env.lk u]) :=
  fun _ _ _ tm hr => ⟨_, results_tmp2 h tm P _, .tup (vs := [tm.getD t undef, tm.getD u undef]) rfl fun i => by
    match i with
    | 0 => exact hr.he t
    | 1 => exact hr.he u
    | i + 2 => exact .any _⟩
theorem ResIs.v2 {fn : Func} {t u : Tmp} (h : fn.results = #[.tmp t, .tmp u]) {a b : Value} (ha : env.lk t = .val a) (hb : env.lk u = .val b) : ResIs P fn env os (.val (.tuple #[a, b])) :=
  fun _ _ _ tm hr => ⟨_, results_tmp2 h tm P _, by rw [(hr.he t).val_eq ha, (hr.he u).val_eq hb]; exact .val _⟩
theorem ResIs.v3 {fn : Func} {t u s : Tmp} (h : fn.results = #[.tmp t, .tmp u, .tmp s]) {a b c : Value} (ha : env.lk t = .val a) (hb : env.lk u = .val b) (hc : env.lk s = .val c) :
    ResIs P fn env os (.val (.tuple #[a, b, c])) :=
  fun _ _ _ tm hr => ⟨.tuple #[tm.getD t undef, tm.getD u undef, tm.getD s undef], by simp [results, h], by rw [(hr.he t).val_eq ha, (hr.he u).val_eq hb, (hr.he s).val_eq hc]; exact .val _⟩

theorem res_cell {T : TypeId} {n : Nat} {zs : List Value} [ht : TStruct P T n zs] {p : Tmp} {h : Nat} {T' : TypeId} {avs : List AV} (hp : env.lk p = .optr h 0) (hs : os[h]? = some (.bx T' avs)) (hn : avs.length = n)
    {base : Nat} {w : World} {gs : List Gh} {tm : Array Value} (hr : Rel base w gs env os tm) :
    ∃ b cs, tm.getD p undef = .pointer (some ⟨b, 0, none⟩) ∧ (loadVar T ⟨b, 0, none⟩).run P w = .ok (.agg cs) w ∧ RV w (okOf gs os) gs (.agg cs) (.agg avs) := by
  have hh := hr.he p
  rw [hp] at hh
  generalize hv : tm.getD p undef = v at hh
  cases hh with
  | @optr _ _ gh hg =>
    obtain ⟨cs, a1, a2, a3, a4, a5, a6, a7⟩ := hr.ho _ _ _ hg hs
    obtain ⟨fs, hu, hag⟩ := ht.und
    obtain ⟨ii, hi, hsz, _⟩ := ht.info
    exact ⟨gh.b, cs.toArray, rfl, run_loadVar_row (P := P) w _ T' T cs.toArray (0, 0) _ a1 hu (by cases fs <;> first | rfl | (simp at hag)) (by rw [hi]; simp [hsz, a5, hn]), .agg a5 a6 a7⟩

theorem ResIs.c1 {fn : Func} {p : Tmp} {T : TypeId} (h : fn.results = #[.cell p T]) {n : Nat} {zs : List Value} [ht : TStruct P T n zs] {k : Nat} {T' : TypeId} {avs : List AV} (hp : env.lk p = .optr k 0) (hs : os[k]? = some (.bx T' avs)) (hn : avs.length = n) :
    ResIs P fn env os (.agg avs) := by
  intro base w gs tm hr
  obtain ⟨b, cs, e1, e2, e3⟩ := res_cell (P := P) (T := T) hp hs hn hr
  have e1' : tm[p]?.getD undef = .pointer (some ⟨b, 0, none⟩) := by simpa using e1
  exact ⟨.agg cs, by simp [results, h, e1', asAddr, e2], e3⟩
theorem ResIs.c1t {fn : Func} {p u : Tmp} {T : TypeId} (h : fn.results = #[.cell p T, .tmp u]) {n : Nat} {zs : List Value} [ht : TStruct P T n zs] {k : Nat} {T' : TypeId} {avs : List AV} (hp : env.lk p = .optr k 0) (hs : os[k]? = some (.bx T' avs)) (hn : avs.length = n) :
    ResIs P fn env os (.tup [.agg avs, env.lk u]) := by
  intro base w gs tm hr
  obtain ⟨b, cs, e1, e2, e3⟩ := res_cell (P := P) (T := T) hp hs hn hr
  have e1' : tm[p]?.getD undef = .pointer (some ⟨b, 0, none⟩) := by simpa using e1
  refine ⟨.tuple #[.agg cs, tm.getD u undef], by simp [results, h, e1', asAddr, e2], .tup (vs := [.agg cs, tm.getD u undef]) rfl fun i => ?_⟩
  match i with
  | 0 => exact e3
  | 1 => exact hr.he u
  | i + 2 => exact .any _

/-! ### From a body to a contract -/
def enumF : Nat → List AV → List (Nat × AV)
  | _, [] => []
  | k, a :: as0 => (k, a) :: enumF (k + 1) as0
/-- The slots as a call begins. -/
def Env.start (args : List AV) (n : Nat) : Env := ⟨args.length + n, enumF 0 args⟩
theorem fdm_enumF (args : List AV) : ∀ (j k : Nat), j ≤ k → fdm (enumF j args) k = args[k - j]? := by
  induction args with
  | nil => intro j k _; rfl
  | cons a as0 ih =>
    intro j k hjk
    simp only [enumF, fdm]
    by_cases h : j = k
    · subst h
      simp
    · have h1 : Nat.beq j k = false := by rw [Bool.eq_false_iff]; intro h4; exact h (Nat.eq_of_beq_eq_true h4)
      rw [h1, cond_false, ih (j + 1) k (by omega)]
      have : k - j = (k - (j + 1)) + 1 := by omega
      rw [this, List.getElem?_cons_succ]

theorem Rel.start {w : World} {args : List AV} {vs : Array Value} (h : RVs w args vs) (n : Nat) :
    Rel w.heap.size w [] (Env.start args n) [] (vs ++ Array.replicate n undef) where
  hb := Nat.le_refl _
  hl := rfl
  hs := by simp [h.1, Env.start]
  he i := by
    have e1 : (Env.start args n).lk i = args.getD i .any := by
      simp only [Env.lk, Env.fd, Env.start, fdm_enumF args 0 i (Nat.zero_le _), Nat.sub_zero]
      rw [List.getD_eq_getElem?_getD]
      cases hb : Nat.blt i (args.length + n) with
      | true => rfl
      | false =>
        have : ¬ i < args.length + n := by intro h4; rw [← Nat.blt_eq, hb] at h4; cases h4
        rw [List.getElem?_eq_none (by omega)]; rfl
    have e2 : (vs ++ Array.replicate n undef).getD i undef = vs.getD i undef := by
      simp only [Array.getD_eq_getD_getElem?, Array.getElem?_append]
      split
      · rfl
      · rename_i hi
        rw [Array.getElem?_eq_none (Nat.le_of_not_lt hi), Array.getElem?_replicate]
        split <;> rfl
    rw [e1, e2]
    exact (h.2 i).mono (fun b _ _ => ⟨fun k g o hg => by simp at hg, rfl⟩) (fun _ _ e => e)
  ho k g o hg := by simp at hg
  hd h k g g' o o' _ hg := by simp at hg
  hn h g o hg := by simp at hg

theorem AFnV.of {f : FuncId} {fn : Func} {c : Code} {args : List AV} {v : Value} {n : Nat} (hf : P.funcs[f]? = some fn) (hb : fn.body = some c) (hnm : (fn.name == "runtime.NumGoroutine") = false) (hn : fn.ntmps - args.length = n)
    (h : AWp P c (fun _ _ => False) (fun _ _ _ => False) (fun env os => ResIs P fn env os (.val v)) (Env.start args n) []) : AFnV P f args v := by
  refine ⟨⟨fn, c, hf, hnm, hb⟩, fun w vs hvs => calls_of_wp hf hb ?_⟩
  rw [show fn.ntmps - vs.size = n by rw [hvs.1]; exact hn]
  refine wp_mono (h w.heap.size w w [] _ (Rel.start hvs n) (Below.refl _ _)) ?_
  intro e a w' hq
  cases e with
  | normal => obtain ⟨_, _, _, _, _, _, hx⟩ := hq; exact hx.elim
  | exit j => obtain ⟨_, _, _, _, _, _, hx⟩ := hq; exact hx.elim
  | ret =>
    obtain ⟨env, os, gs, hr, hd, hbel, hx⟩ := hq
    obtain ⟨u, hu, hv⟩ := hx _ _ _ _ hr
    cases hv
    exact ⟨hd, v, hu, rfl, hbel⟩
  | goto l => exact (hq : False).elim
  | panic ch => exact (hq : False).elim
  | outgrown => exact (hq : False).elim

/-- The abstract value 'a' may be handed back as 'r' over the objects 'objs'. -/
def Ret1 (os : List AO) (a r : AV) (objs : List AO) : Prop :=
  ∀ base w gs env tm, Rel base w gs env os tm → ∀ v, RV w (okOf gs os) gs v a → ∃ gs', NewObjs base w gs' objs ∧ RV w (fun b => base ≤ b ∧ okOf gs' objs b) gs' v r

theorem AFn.of {f : FuncId} {fn : Func} {c : Code} {args : List AV} {Q : AV → List AO → Prop} {n : Nat} (hf : P.funcs[f]? = some fn) (hb : fn.body = some c) (hnm : (fn.name == "runtime.NumGoroutine") = false) (hn : fn.ntmps - args.length = n)
    (h : AWp P c (fun _ _ => False) (fun _ _ _ => False) (fun env os => ∃ a r objs, ResIs P fn env os a ∧ Ret1 os a r objs ∧ Q r objs) (Env.start args n) []) : AFn P f args Q := by
  refine ⟨⟨fn, c, hf, hnm, hb⟩, fun w vs hvs => calls_of_wp hf hb ?_⟩
  rw [show fn.ntmps - vs.size = n by rw [hvs.1]; exact hn]
  refine wp_mono (h w.heap.size w w [] _ (Rel.start hvs n) (Below.refl _ _)) ?_
  intro e a w' hq
  cases e with
  | normal => obtain ⟨_, _, _, _, _, _, hx⟩ := hq; exact hx.elim
  | exit j => obtain ⟨_, _, _, _, _, _, hx⟩ := hq; exact hx.elim
  | ret =>
    obtain ⟨env, os, gs, hr, hd, hbel, a', r, objs, h1, h2, h3⟩ := hq
    obtain ⟨u, hu, hv⟩ := h1 _ _ _ _ hr
    obtain ⟨gs', h4, h5⟩ := h2 _ _ _ _ _ hr u hv
    exact ⟨hd, u, hu, u, r, objs, gs', rfl, h3, hbel, h4, h5⟩
  | goto l => exact (hq : False).elim
  | panic ch => exact (hq : False).elim
  | outgrown => exact (hq : False).elim

theorem NewObjs.one {base : Nat} {w : World} {g : Gh} {o : AO} (ho : RO base w (fun b => base ≤ b ∧ okOf [g] [o] b) [g] g o) (hn : ∀ b, b ∈ g.bl → base ≤ b ∧ b < w.heap.size) : NewObjs base w [g] [o] where
  hl := rfl
  ho h g' o' hg ho' := by
    cases h with
    | zero => simp at hg ho'; subst hg; subst ho'; exact ho
    | succ h => simp at hg
  hd h k g1 g2 o1 o2 hne h1 h2 := by
    cases h with
    | zero => cases k with
      | zero => exact absurd rfl hne
      | succ k => simp at h2
    | succ h => simp at h1
  hn h g' o' hg _ _ b hb := by
    cases h with
    | zero => simp at hg; subst hg; exact hn b hb
    | succ h => simp at hg

theorem Ret1.val (v : Value) : Ret1 os (.val v) (.val v) [] := fun base w gs env tm hr u hu => by
  cases hu
  exact ⟨[], ⟨rfl, fun h g o hg => by simp at hg, fun h k g g' o o' _ hg => by simp at hg, fun h g o hg => by simp at hg⟩, .val _⟩
theorem Ret1.sli {h : Nat} {e : TypeId} {xs : List Int} (hs : os[h]? = some (.sli e xs)) : Ret1 os (.own h) (.own 0) [.sli e xs] := fun base w gs env tm hr u hu => by
  cases hu with
  | @own _ g hg => exact ⟨[g], .one (hr.ho _ _ _ hg hs) fun b hb => hr.hn _ _ _ hg hs (by simp) b hb, .own rfl⟩
theorem Ret1.sls {h : Nat} {e e2 : TypeId} {xss : List (List Int)} (hs : os[h]? = some (.sls e e2 xss)) : Ret1 os (.own h) (.own 0) [.sls e e2 xss] := fun base w gs env tm hr u hu => by
  cases hu with
  | @own _ g hg => exact ⟨[g], .one (hr.ho _ _ _ hg hs) fun b hb => hr.hn _ _ _ hg hs (by simp) b hb, .own rfl⟩
theorem Ret1.nil (e : TypeId) : Ret1 os (.val (.slice none 0 0)) (.own 0) [.sli e []] := fun base w gs env tm hr u hu => by
  cases hu
  exact ⟨[⟨.slice none 0 0, 0, [], []⟩], .one ⟨World.ownsRow_nil w base e 1, fun _ h => (by cases h), .inl ⟨rfl, rfl⟩⟩ (fun b hb => by simp at hb), .own (g := ⟨.slice none 0 0, 0, [], []⟩) rfl⟩
theorem Ret1.nils (e e2 : TypeId) : Ret1 os (.val (.slice none 0 0)) (.own 0) [.sls e e2 []] := fun base w gs env tm hr u hu => by
  cases hu
  exact ⟨[⟨.slice none 0 0, 0, [], []⟩], .one ⟨[], [], [], World.ownsRow_nil w base e 1, rfl, rfl, rfl, fun i u h => (by simp at h), .inl ⟨rfl, rfl⟩, rfl, by simp⟩ (fun b hb => by simp at hb),
    .own (g := ⟨.slice none 0 0, 0, [], []⟩) rfl⟩
/-- A tuple whose second part is plain. -/
theorem Ret1.tup2 {a r : AV} {objs : List AO} {v : Value} (h : Ret1 os a r objs) : Ret1 os (.tup [a, .val v]) (.tup [r, .val v]) objs := fun base w gs env tm hr u hu => by
  cases hu with
  | @tup vs _ h1 h2 =>
    match vs, h1 with
    | [x, y], _ =>
      obtain ⟨gs', h3, h4⟩ := h base w gs env tm hr x (by simpa using h2 0)
      have h5 := h2 1
      simp at h5
      cases h5
      exact ⟨gs', h3, .tup (vs := [x, v]) rfl fun i => by
        match i with
        | 0 => exact h4
        | 1 => exact .val _
        | i + 2 => exact .any _⟩
theorem Ret1.agg1 {a r : AV} {objs : List AO} (h : Ret1 os a r objs) : Ret1 os (.agg [a]) (.agg [r]) objs := fun base w gs env tm hr u hu => by
  cases hu with
  | @agg vs _ h1 ho h2 =>
    match vs, h1, ho with
    | [x], _, ho =>
      obtain ⟨gs', h3, h4⟩ := h base w gs env tm hr x (by simpa using h2 0)
      exact ⟨gs', h3, .agg (vs := [x]) rfl ho fun i => by
        match i with
        | 0 => exact h4
        | i + 1 => exact .any _⟩
theorem Ret1.agg2 {a r : AV} {objs : List AO} {v : Value} (h : Ret1 os a r objs) : Ret1 os (.agg [.val v, a]) (.agg [.val v, r]) objs := fun base w gs env tm hr u hu => by
  cases hu with
  | @agg vs _ h1 ho h2 =>
    match vs, h1, ho with
    | [y, x], _, ho =>
      obtain ⟨gs', h3, h4⟩ := h base w gs env tm hr x (by simpa using h2 1)
      have h5 := h2 0
      simp at h5
      cases h5
      exact ⟨gs', h3, .agg (vs := [v, x]) rfl ho fun i => by
        match i with
        | 0 => exact .val _
        | 1 => exact h4
        | i + 2 => exact .any _⟩
end

/-! ### A call that hands back new memory -/
def AV.sh0 (n : Nat) : AV → AV
  | .own k => .own (k + n)
  | .optr k i => .optr (k + n) i
  | .osub k a b => .osub (k + n) a b
  | .orow k i => .orow (k + n) i
  | .orptr k i j => .orptr (k + n) i j
  | .agg _ => .any
  | .tup _ => .any
  | a => a
def AV.sh1 (n : Nat) : AV → AV
  | .own k => .own (k + n)
  | .optr k i => .optr (k + n) i
  | .osub k a b => .osub (k + n) a b
  | .orow k i => .orow (k + n) i
  | .orptr k i j => .orptr (k + n) i j
  | .agg l => .agg (l.map (AV.sh0 n))
  | .tup _ => .any
  | a => a
def AV.sh (n : Nat) : AV → AV
  | .own k => .own (k + n)
  | .optr k i => .optr (k + n) i
  | .osub k a b => .osub (k + n) a b
  | .orow k i => .orow (k + n) i
  | .orptr k i j => .orptr (k + n) i j
  | .agg l => .agg (l.map (AV.sh0 n))
  | .tup l => .tup (l.map (AV.sh1 n))
  | a => a
def AO.sh (n : Nat) : AO → AO
  | .bx T avs => .bx T (avs.map (AV.sh n))
  | .slr e avs => .slr e (avs.map (AV.sh n))
  | .keep _ K => .keep 0 ⟨K.snap, []⟩
  | o => o
theorem AO.sh_dead {n : Nat} {o : AO} : o.sh n = .dead ↔ o = .dead := by cases o <;> simp [AO.sh]
theorem AO.sh_live {n : Nat} {o : AO} : (o.sh n).live ↔ o.live := by cases o <;> simp [AO.sh, AO.live]

theorem getD_map_any (f : AV → AV) (hf : f .any = .any) (l : List AV) (i : Nat) : (l.map f).getD i .any = f (l.getD i .any) := by
  simp only [List.getD_eq_getElem?_getD, List.getElem?_map]
  cases l[i]? <;> simp [hf]

section
variable {w : World} {ok ok' : Nat → Prop} {gs0 gs : List Gh}
theorem get_sh {k : Nat} {g : Gh} (h : gs[k]? = some g) : (gs0 ++ gs)[k + gs0.length]? = some g := by
  rw [List.getElem?_append_right (by omega)]; simpa using h
theorem RV.sh0 (k : Keeps ok ok' w w) {v : Value} {a : AV} (hv : RV w ok gs v a) : RV w ok' (gs0 ++ gs) v (a.sh0 gs0.length) := by
  cases hv with
  | any v => exact .any v
  | val v => exact .val v
  | ints h => exact .ints (h.mono k)
  | intss h => exact .intss (h.mono k)
  | @ro v r h => exact .ro (r.up k h)
  | iptr h h1 h2 => exact .iptr (h.mono k) h1 h2
  | iiptr h h1 h2 => exact .iiptr (h.mono k) h1 h2
  | own h1 => exact .own (get_sh h1)
  | optr h1 => exact .optr (get_sh h1)
  | osub h1 h2 h3 h4 => exact .osub (get_sh h1) h2 h3 h4
  | orow h1 h2 => exact .orow (get_sh h1) h2
  | orptr h1 h2 => exact .orptr (get_sh h1) h2
  | agg _ _ _ => exact .any _
  | tup _ _ => exact .any _
theorem RV.sh1 (k : Keeps ok ok' w w) {v : Value} {a : AV} (hv : RV w ok gs v a) : RV w ok' (gs0 ++ gs) v (a.sh1 gs0.length) := by
  cases hv with
  | any v => exact .any v
  | val v => exact .val v
  | ints h => exact .ints (h.mono k)
  | intss h => exact .intss (h.mono k)
  | @ro v r h => exact .ro (r.up k h)
  | iptr h h1 h2 => exact .iptr (h.mono k) h1 h2
  | iiptr h h1 h2 => exact .iiptr (h.mono k) h1 h2
  | own h1 => exact .own (get_sh h1)
  | optr h1 => exact .optr (get_sh h1)
  | osub h1 h2 h3 h4 => exact .osub (get_sh h1) h2 h3 h4
  | orow h1 h2 => exact .orow (get_sh h1) h2
  | orptr h1 h2 => exact .orptr (get_sh h1) h2
  | agg h1 h3 h2 => exact .agg (by simpa using h1) h3 fun i => by rw [getD_map_any _ rfl]; exact (h2 i).sh0 k
  | tup _ _ => exact .any _
theorem RV.sh (k : Keeps ok ok' w w) {v : Value} {a : AV} (hv : RV w ok gs v a) : RV w ok' (gs0 ++ gs) v (a.sh gs0.length) := by
  cases hv with
  | any v => exact .any v
  | val v => exact .val v
  | ints h => exact .ints (h.mono k)
  | intss h => exact .intss (h.mono k)
  | @ro v r h => exact .ro (r.up k h)
  | iptr h h1 h2 => exact .iptr (h.mono k) h1 h2
  | iiptr h h1 h2 => exact .iiptr (h.mono k) h1 h2
  | own h1 => exact .own (get_sh h1)
  | optr h1 => exact .optr (get_sh h1)
  | osub h1 h2 h3 h4 => exact .osub (get_sh h1) h2 h3 h4
  | orow h1 h2 => exact .orow (get_sh h1) h2
  | orptr h1 h2 => exact .orptr (get_sh h1) h2
  | agg h1 h3 h2 => exact .agg (by simpa using h1) h3 fun i => by rw [getD_map_any _ rfl]; exact (h2 i).sh0 k
  | tup h1 h2 => exact .tup (by simpa using h1) fun i => by rw [getD_map_any _ rfl]; exact (h2 i).sh1 k
end

theorem Rel.join {base : Nat} {w w' : World} {gs gs' : List Gh} {env : Env} {os os' : List AO} {tm : Array Value} (h : Rel base w gs env os tm) (hb : Below w.heap.size w w') (n : NewObjs w.heap.size w' gs' os') :
    Rel base w' (gs ++ gs') env (os ++ os'.map (AO.sh gs.length)) tm ∧
      ∀ {v : Value} {r : AV}, RV w' (fun b => w.heap.size ≤ b ∧ okOf gs' os' b) gs' v r → RV w' (okOf (gs ++ gs') (os ++ os'.map (AO.sh gs.length))) (gs ++ gs') v (r.sh gs.length) := by
  have hl := h.hl
  -- where a handle of the joined state comes from
  have part : ∀ {i : Nat} {x : Gh} {y : AO}, (gs ++ gs')[i]? = some x → (os ++ os'.map (AO.sh gs.length))[i]? = some y →
      (i < gs.length ∧ gs[i]? = some x ∧ os[i]? = some y) ∨ (gs.length ≤ i ∧ gs'[i - gs.length]? = some x ∧ ∃ z, os'[i - gs.length]? = some z ∧ y = z.sh gs.length) := by
    intro i x y hx hy
    rw [List.getElem?_append] at hx hy
    split at hx
    · rename_i hi
      rw [if_pos (by omega)] at hy
      exact .inl ⟨hi, hx, hy⟩
    · rename_i hi
      rw [if_neg (by omega), List.getElem?_map, ← hl] at hy
      cases hz : os'[i - gs.length]? with
      | none => rw [hz] at hy; cases hy
      | some z => rw [hz] at hy; simp at hy; exact .inr ⟨by omega, hx, z, rfl, hy.symm⟩
  have hbl_old : ∀ {i : Nat} {x : Gh} {y : AO}, gs[i]? = some x → os[i]? = some y → y ≠ .dead → ∀ b, b ∈ x.bl → b < w.heap.size := fun hx hy hn b hb => (h.hn _ _ _ hx hy hn b hb).2
  have kold : Keeps (okOf gs os) (okOf (gs ++ gs') (os ++ os'.map (AO.sh gs.length))) w w' := by
    intro b hok hlt
    refine ⟨fun i x y hx hy hny hm => ?_, hb.block b hlt⟩
    rcases part hx hy with ⟨_, h1, h2⟩ | ⟨_, h1, z, h2, rfl⟩
    · exact hok i x y h1 h2 hny hm
    · have := (n.hn _ _ _ h1 h2 (AO.sh_live.1 hny).ne b hm).1; omega
  have knew : Keeps (fun b => w.heap.size ≤ b ∧ okOf gs' os' b) (okOf (gs ++ gs') (os ++ os'.map (AO.sh gs.length))) w' w' := by
    intro b hok hlt
    refine ⟨fun i x y hx hy hny hm => ?_, rfl⟩
    rcases part hx hy with ⟨_, h1, h2⟩ | ⟨_, h1, z, h2, rfl⟩
    · have := hbl_old h1 h2 hny.ne b hm; omega
    · exact hok.2 _ x z h1 h2 (AO.sh_live.1 hny) hm
  have gold : ∀ (i : Nat) x, gs[i]? = some x → (gs ++ gs')[i]? = some x := fun i x e => by
    rw [List.getElem?_append_left (List.getElem?_eq_some_iff.1 e).1]; exact e
  refine ⟨⟨Nat.le_trans h.hb hb.size, by simp [hl, n.hl], h.hs, fun i => (h.he i).mono kold gold, ?_, ?_, ?_⟩, fun hv => hv.sh knew⟩
  · intro i x y hx hy
    rcases part hx hy with ⟨_, h1, h2⟩ | ⟨_, h1, z, h2, rfl⟩
    · exact (h.ho i x y h1 h2).mono kold gold fun hny b hm => hb.block b (hbl_old h1 h2 hny b hm)
    · have hz := n.ho _ x z h1 h2
      have hbase : ∀ {e : TypeId} {v : Value} {m : Nat} {xs : List Value}, w'.ownsRow w.heap.size e 1 v m xs → w'.ownsRow base e 1 v m xs := by
        intro e v m xs ho
        refine ⟨ho.1, ho.2.imp id ?_⟩
        rintro ⟨g, cap, cur, e1, e2, r⟩
        exact ⟨g, cap, cur, e1, Nat.le_trans h.hb e2, r⟩
      cases z with
      | dead => trivial
      | ob q => exact q.lower h.hb hz
      | sli e xs => exact ⟨hbase hz.1, hz.2⟩
      | slr e avs =>
        obtain ⟨vs, a1, a2, a3, a4⟩ := hz
        exact ⟨vs, hbase a1, by simpa using a2, fun j => by rw [getD_map_any _ rfl]; exact (a3 j).sh knew, a4⟩
      | sls e e2 xss =>
        obtain ⟨vs, bs, mb, a1, a2, a3, a4, a5, a6⟩ := hz
        exact ⟨vs, bs, mb, hbase a1, a2, a3, a4, fun i u hu => ⟨hbase (a5 i u hu).1, (a5 i u hu).2⟩, a6⟩
      | bx T avs =>
        obtain ⟨cs, a1, a2, a3, a4, a5, a6, a7⟩ := hz
        exact ⟨cs, a1, Nat.le_trans h.hb a2, a3, a4, by simpa using a5, a6, fun j => by rw [getD_map_any _ rfl]; exact (a7 j).sh knew⟩
      | keep m K => exact ⟨hz.1, rfl, fun i x hx => by simp at hx⟩
  · intro i j g1 g2 o1 o2 hij hg1 hg2 ho1 ho2 hn1 hn2 b hb1 hb2
    rcases part hg1 ho1 with ⟨_, a1, a2⟩ | ⟨ai, a1, z1, a2, rfl⟩
    · rcases part hg2 ho2 with ⟨_, b1, b2⟩ | ⟨_, b1, z2, b2, rfl⟩
      · exact h.hd i j g1 g2 o1 o2 hij a1 b1 a2 b2 hn1 hn2 b hb1 hb2
      · have := hbl_old a1 a2 hn1 b hb1
        have := (n.hn _ _ _ b1 b2 (fun e => hn2 (AO.sh_dead.2 e)) b hb2).1; omega
    · rcases part hg2 ho2 with ⟨_, b1, b2⟩ | ⟨bj, b1, z2, b2, rfl⟩
      · have := hbl_old b1 b2 hn2 b hb2
        have := (n.hn _ _ _ a1 a2 (fun e => hn1 (AO.sh_dead.2 e)) b hb1).1; omega
      · exact n.hd _ _ g1 g2 z1 z2 (by omega) a1 b1 a2 b2 (fun e => hn1 (AO.sh_dead.2 e)) (fun e => hn2 (AO.sh_dead.2 e)) b hb1 hb2
  · intro i x y hx hy hny b hm
    rcases part hx hy with ⟨_, h1, h2⟩ | ⟨_, h1, z, h2, rfl⟩
    · have := h.hn i x y h1 h2 hny b hm
      exact ⟨this.1, Nat.lt_of_lt_of_le this.2 hb.size⟩
    · have := n.hn _ x z h1 h2 (fun e => hny (AO.sh_dead.2 e)) b hm
      exact ⟨Nat.le_trans h.hb this.1, this.2⟩

section
variable {P : Program} {env : Env} {os : List AO} {d : Option Tmp} {ty : TypeId} {pos : String} {af : Array Edge} {g : Option (Nat × Bool)}
theorem c_call {f : FuncId} {args : List AV} {Q : AV → List AO → Prop} (hc : AFn P f args Q) {xs : List Operand} {ats : Array TypeId} (hi : Imms os (xs.map (AV.ev env)) args) :
    COp P ⟨d, .call { callee := .value (.func f), args := xs.toArray, argTypes := ats }, ty, pos, af, g⟩ env os (fun r e o => ∃ r0 os0, Q r0 os0 ∧ r = r0.sh os.length ∧ e = env ∧ o = os ++ os0.map (AO.sh os.length)) := by
  intro base w gs tm hr
  refine ⟨f, _, run_call hc.1 xs ats _ rfl w, (hc.2 w _ (hi.rvs hr)).mono ?_⟩
  rintro e w' ⟨v, r, os', gs', rfl, hq, hb, hn, hv⟩
  have j := hr.join hb hn
  rw [hr.hl] at j
  exact ⟨v, _, _, _, _, rfl, ⟨r, os', hq, rfl, rfl, rfl⟩, j.1, j.2 hv, hb.mono hr.hb⟩
end

end Go.Proofs.YtfgnccoaebkckaaDoor
