/-
  Parts of the proof, one behind the other: contracts of functions and plain laws. No condition.
-/
import Derived.Lib.SliceRun
import Derived.Maps.RangeRun
import Derived.ChangeKeysEq
import GoSem.Instr.MapUpdate
import GoSem.Instr.MakeMap
import Derived.Deep.Slices
import Derived.ChangeSame
import Derived.WalkKit
import Derived.Test.YtifkgmbghcmdeaaProg
import Derived.KernelRfl
import Derived.Test.YtifkgmbghcmdeaaPt1LocalCounts
/-
  The rules of the abstract machine in the form in which the walks use them. No condition.
-/
namespace Go.Proofs.Ytifkgmbghcmdeaa
open Go Go.RowKit

/-- An operand's abstract value, found in its slot. -/
def evo (env : Env) : Operand → Option AV
  | .tmp t => env.fd t
  | .const v => some (.val v)
  | .global _ => none
  | .func f => some (.val (.func (.func f) #[] #[]))

section
variable {P : Program} {env : Env} {os : List AO} {d : Option Tmp} {ty : TypeId} {pos : String} {af : Array Edge} {g : Option (Nat × Bool)} {N : APost} {X : Nat → APost} {Rt : APost} {l rest : List Oper} {K : APost} {q : Md} {wl : Bool}

theorem ev_of {x : Operand} {a : AV} (h : evo env x = some a) : AV.ev env x = a := by
  cases x with
  | tmp t => exact Env.lk_of h
  | const v => simp only [evo, Option.some.injEq] at h; exact h
  | global g => cases h
  | func f => simp only [evo, Option.some.injEq] at h; exact h
theorem gd_of {t : Nat} {a : AV} (h : env.fd t = some a) : env.lk t = a := Env.lk_of h
theorem gdl {l : List AV} {t : Nat} {a : AV} (h : l[t]? = some a) : l.getD t .any = a := by simp [h]

theorem a_move {x : Operand} {a : AV} (hx : evo env x = some a) : QOp P wl ⟨d, .move x, ty, pos, af, g⟩ env os a := ev_of hx ▸ q_move
theorem a_assign {x : Operand} {a : AV} (hx : evo env x = some a) : QOp P wl ⟨d, .assign x, ty, pos, af, g⟩ env os a := ev_of hx ▸ q_assign
theorem a_pick_t {c x y : Operand} {a : AV} (hc : evo env c = some (.val (.bool true))) (hx : evo env x = some a) : QOp P wl ⟨d, .pick c x y, ty, pos, af, g⟩ env os a := ev_of hx ▸ q_pick_t (ev_of hc)
theorem a_pick_f {c x y : Operand} {a : AV} (hc : evo env c = some (.val (.bool false))) (hy : evo env y = some a) : QOp P wl ⟨d, .pick c x y, ty, pos, af, g⟩ env os a := ev_of hy ▸ q_pick_f (ev_of hc)
theorem a_len {t e : TypeId} [TSlice P t e] {x : Operand} {a : AV} {n : Nat} (hx : evo env x = some a) (hl : HasLen os a n) : QOp P wl ⟨d, .call { callee := .builtin .len, args := #[x], argTypes := #[t] }, ty, pos, af, g⟩ env os (.i n) :=
  q_len (ev_of hx ▸ hl)

theorem im_nil : Imms os (([] : List Operand).map (AV.ev env)) [] := trivial
theorem im_cons {x : Operand} {xs : List Operand} {a b : AV} {bs : List AV} (hx : evo env x = some a) (h : Imm os a b) (hs : Imms os (xs.map (AV.ev env)) bs) : Imms os ((x :: xs).map (AV.ev env)) (b :: bs) :=
  ⟨ev_of hx ▸ h, hs⟩

theorem im_agg1 {a a' : AV} (h : Imm os a a') : Imm os (.agg [a]) (.agg [a']) := Imm.aggs ⟨h, trivial⟩
theorem im_agg2 {a a' b b' : AV} (h : Imm os a a') (h2 : Imm os b b') : Imm os (.agg [a, b]) (.agg [a', b']) := Imm.aggs ⟨h, h2, trivial⟩
theorem AWp.condT {c : Operand} {x y : Code} (hc : evo env c = some (.val (.bool true))) (h : AWp P x N X Rt env os) : AWp P (.cond c x y) N X Rt env os :=
  .cond (ev_of hc) (fun _ => h) (fun e => by cases e)
theorem AWp.condF {c : Operand} {x y : Code} (hc : evo env c = some (.val (.bool false))) (h : AWp P y N X Rt env os) : AWp P (.cond c x y) N X Rt env os :=
  .cond (ev_of hc) (fun e => by cases e) (fun _ => h)
theorem AWp.condP {c : Operand} {x y : Code} {p : Prop} {_ : Decidable p} (hc : evo env c = some (.val (.bool (decide p)))) (ht : p → AWp P x N X Rt env os) (hf : ¬ p → AWp P y N X Rt env os) : AWp P (.cond c x y) N X Rt env os :=
  .cond (ev_of hc) (fun e => ht (of_decide_eq_true e)) (fun e => hf (of_decide_eq_false e))
theorem AWp.condN {c : Operand} {x y : Code} {p : Prop} {_ : Decidable p} (hc : evo env c = some (.val (.bool (!decide p)))) (ht : ¬ p → AWp P x N X Rt env os) (hf : p → AWp P y N X Rt env os) : AWp P (.cond c x y) N X Rt env os :=
  .cond (ev_of hc) (fun e => ht (by simpa using e)) (fun e => hf (by simpa using e))
theorem AWp.condB {c : Operand} {x y : Code} {b : Bool} (hc : evo env c = some (.val (.bool b))) (ht : b = true → AWp P x N X Rt env os) (hf : b = false → AWp P y N X Rt env os) : AWp P (.cond c x y) N X Rt env os :=
  .cond (ev_of hc) ht hf

theorem imu_nil {H : List Nat} : ImmUs os H (([] : List Operand).map (AV.ev env)) [] := trivial
theorem imu_cons {H : List Nat} {x : Operand} {xs : List Operand} {a b : AV} {bs : List AV} (hx : evo env x = some a) (h : ImmU os H a b) (hs : ImmUs os H (xs.map (AV.ev env)) bs) : ImmUs os H ((x :: xs).map (AV.ev env)) (b :: bs) :=
  ⟨ev_of hx ▸ h, hs⟩
theorem imu_agg1 {H : List Nat} {a a' : AV} (h : ImmU os H a a') : ImmU os H (.agg [a]) (.agg [a']) := ImmU.aggs ⟨h, trivial⟩
theorem handed1 {h : Nat} {o : AO} (ho : os[h]? = some o) (hp : o.plain) : Handed os [h] [o] := by
  refine ⟨by simp, fun k x hk => ?_, rfl, by simpa using hp⟩
  cases k with
  | zero => simp at hk; subst hk; simp [ho]
  | succ k => simp at hk
section guards
variable {d' d'' : Tmp} {op : Op} {j : Nat} {pol : Bool}
theorem AOps.splitP (_hj : (l[j]?).bind (·.dst) = some d'') {p : Prop} {_ : Decidable p} (hd : env.fd d'' = some (.val (.bool (decide p)))) (ht : p → AOps P q l (⟨some d', op, ty, pos, af, some (j, pol)⟩ :: rest) K (env.up d'' (.val (.bool true))) os)
    (hf : ¬ p → AOps P q l (⟨some d', op, ty, pos, af, some (j, pol)⟩ :: rest) K (env.up d'' (.val (.bool false))) os) : AOps P q l (⟨some d', op, ty, pos, af, some (j, pol)⟩ :: rest) K env os :=
  .split d'' (gd_of hd) (fun e => ht (of_decide_eq_true e)) (fun e => hf (of_decide_eq_false e))
theorem AOps.splitN (_hj : (l[j]?).bind (·.dst) = some d'') {p : Prop} {_ : Decidable p} (hd : env.fd d'' = some (.val (.bool (!decide p)))) (ht : ¬ p → AOps P q l (⟨some d', op, ty, pos, af, some (j, pol)⟩ :: rest) K (env.up d'' (.val (.bool true))) os)
    (hf : p → AOps P q l (⟨some d', op, ty, pos, af, some (j, pol)⟩ :: rest) K (env.up d'' (.val (.bool false))) os) : AOps P q l (⟨some d', op, ty, pos, af, some (j, pol)⟩ :: rest) K env os :=
  .split d'' (gd_of hd) (fun e => ht (by simpa using e)) (fun e => hf (by simpa using e))
theorem AOps.splitB (_hj : (l[j]?).bind (·.dst) = some d'') {b : Bool} (hd : env.fd d'' = some (.val (.bool b))) (ht : b = true → AOps P q l (⟨some d', op, ty, pos, af, some (j, pol)⟩ :: rest) K (env.up d'' (.val (.bool true))) os)
    (hf : b = false → AOps P q l (⟨some d', op, ty, pos, af, some (j, pol)⟩ :: rest) K (env.up d'' (.val (.bool false))) os) : AOps P q l (⟨some d', op, ty, pos, af, some (j, pol)⟩ :: rest) K env os :=
  .split d'' (gd_of hd) ht hf
end guards

theorem ResIs.v1 {fn : Func} {t : Tmp} (h : fn.results = #[.tmp t]) {a : AV} (ht : env.fd t = some a) : ResIs P fn env os a := gd_of ht ▸ .t1 h
theorem ResIs.a2 {fn : Func} {t u : Tmp} (h : fn.results = #[.tmp t, .tmp u]) {a b : AV} (ha : env.fd t = some a) (hb : env.fd u = some b) : ResIs P fn env os (.tup [a, b]) := gd_of ha ▸ gd_of hb ▸ .t2 h

theorem ResIs.bool {fn : Func} {t : Tmp} (h : fn.results = #[.tmp t]) {b b' : Bool} (ht : env.fd t = some (.b b)) (e : b = b') : ResIs P fn env os (.val (.bool b')) := e ▸ .v1 h ht
theorem ResIs.int {fn : Func} {t : Tmp} (h : fn.results = #[.tmp t]) {b b' : Int} (ht : env.fd t = some (.i b)) (e : b = b') : ResIs P fn env os (.val (.int .i64 b')) := e ▸ .v1 h ht
/-- Facts on a list that is read. -/
theorem RVs.ints {w : World} {args : List AV} {vs : Array Value} (h : RVs w args vs) {i : Nat} {xs : List Int} (hi : args[i]? = some (.ints xs)) : (∀ x ∈ xs, inI x) ∧ xs.length ≤ 9223372036854775807 := by
  have := h.2 i
  rw [gdl hi] at this
  generalize vs.getD i undef = v at this
  cases this with
  | ints h1 =>
    obtain ⟨⟨a, cap, _, h2, h3, _⟩, h4⟩ := h1
    exact ⟨h4, by simp [maxLen] at h3; simp at h2; omega⟩
end

/-- The facts that the arguments bring with them. -/
def ArgOk : AV → Prop
  | .ints xs => (∀ x ∈ xs, inI x) ∧ xs.length ≤ 9223372036854775807
  | .intss xss => (∀ xs ∈ xss, (∀ x ∈ xs, inI x) ∧ xs.length ≤ 9223372036854775807) ∧ xss.length ≤ 9223372036854775807
  | .agg l => ∀ a ∈ l, match a with
    | .ints xs => (∀ x ∈ xs, inI x) ∧ xs.length ≤ 9223372036854775807
    | .intss xss => (∀ xs ∈ xss, (∀ x ∈ xs, inI x) ∧ xs.length ≤ 9223372036854775807) ∧ xss.length ≤ 9223372036854775807
    | _ => True
  | _ => True

theorem IntsAt.ok {w : World} {ok : Nat → Prop} {v : Value} {xs : List Int} (h : IntsAt w ok v xs) : (∀ x ∈ xs, inI x) ∧ xs.length ≤ 9223372036854775807 := by
  obtain ⟨⟨a, cap, _, h2, h3, _⟩, h4⟩ := h
  exact ⟨h4, by simp [maxLen] at h3; simp at h2; omega⟩
theorem IntssAt.ok {w : World} {ok : Nat → Prop} {v : Value} {xss : List (List Int)} (h : IntssAt w ok v xss) : (∀ xs ∈ xss, (∀ x ∈ xs, inI x) ∧ xs.length ≤ 9223372036854775807) ∧ xss.length ≤ 9223372036854775807 := by
  obtain ⟨vs, ⟨a, cap, _, h2, h3, _⟩, h4, h5⟩ := h
  refine ⟨fun xs hx => ?_, by simp [maxLen] at h3; omega⟩
  obtain ⟨i, hi, rfl⟩ := List.getElem_of_mem hx
  have := (h5 i _ (List.getElem?_eq_getElem (by omega))).ok
  simpa [hi] using this

theorem RV.argOk {w : World} {ok : Nat → Prop} {gs : List Gh} {v : Value} {a : AV} (h : RV w ok gs v a) : ArgOk a := by
  cases h with
  | ints h => exact h.ok
  | intss h => exact h.ok
  | @agg vs l h1 h2 h3 =>
    intro b hb
    obtain ⟨i, hi, rfl⟩ := List.getElem_of_mem hb
    have := h3 i
    rw [show l.getD i .any = l[i] by simp [hi]] at this
    show match l[i] with
      | .ints xs => (∀ x ∈ xs, inI x) ∧ xs.length ≤ 9223372036854775807
      | .intss xss => (∀ xs ∈ xss, (∀ x ∈ xs, inI x) ∧ xs.length ≤ 9223372036854775807) ∧ xss.length ≤ 9223372036854775807
      | _ => True
    generalize l[i] = b at this
    generalize vs.getD i undef = v at this
    cases this with
    | ints h => exact h.ok
    | intss h => exact h.ok
    | _ => trivial
  | _ => trivial

/-- A contract's proof may lean on what the arguments bring with them. -/
theorem AFnV.facts {P : Program} {f : FuncId} {args : List AV} {v : Value} (hb : HasBody P f) (h : (∀ a ∈ args, ArgOk a) → AFnV P f args v) : AFnV P f args v := by
  refine ⟨hb, fun w vs hvs => (h fun a ha => ?_).2 w vs hvs⟩
  obtain ⟨i, hi, rfl⟩ := List.getElem_of_mem ha
  have := (hvs.2 i).argOk
  rwa [show args.getD i .any = args[i] by simp [hi]] at this
theorem AFn.facts {P : Program} {f : FuncId} {args : List AV} {Q : AV → List AO → Prop} (hb : HasBody P f) (h : (∀ a ∈ args, ArgOk a) → AFn P f args Q) : AFn P f args Q := by
  refine ⟨hb, fun w vs hvs => (h fun a ha => ?_).2 w vs hvs⟩
  obtain ⟨i, hi, rfl⟩ := List.getElem_of_mem ha
  have := (hvs.2 i).argOk
  rwa [show args.getD i .any = args[i] by simp [hi]] at this

theorem AFnV.start {P : Program} {f : FuncId} {fn : Func} {c : Code} {args : List AV} {v : Value} {m : Nat} (hf : P.funcs[f]? = some fn) (hn : fn.ntmps = m) (hb : fn.body = some c) (hnm : (fn.name == "runtime.NumGoroutine") = false)
    (h : (∀ a ∈ args, ArgOk a) → AWp P c (fun _ _ => False) (fun _ _ _ => False) (fun env os => ResIs P fn env os (.val v)) (Env.start args (m - args.length)) []) : AFnV P f args v :=
  .facts ⟨fn, c, hf, hnm, hb⟩ fun hk => .of hf hb hnm (by rw [hn]) (h hk)
theorem AFn.start {P : Program} {f : FuncId} {fn : Func} {c : Code} {args : List AV} {Q : AV → List AO → Prop} {m : Nat} (hf : P.funcs[f]? = some fn) (hn : fn.ntmps = m) (hb : fn.body = some c) (hnm : (fn.name == "runtime.NumGoroutine") = false)
    (h : (∀ a ∈ args, ArgOk a) → AWp P c (fun _ _ => False) (fun _ _ _ => False) (fun env os => ∃ a r objs, ResIs P fn env os a ∧ Ret1 os a r objs ∧ Q r objs) (Env.start args (m - args.length)) []) : AFn P f args Q :=
  .facts ⟨fn, c, hf, hnm, hb⟩ fun hk => .of hf hb hnm (by rw [hn]) (h hk)

theorem AFnU.start {P : Program} {f : FuncId} {fn : Func} {c : Code} {args : List AV} {objs : List AO} {Q : Value → List AO → Prop} {m : Nat} (hf : P.funcs[f]? = some fn) (hn : fn.ntmps = m) (hb : fn.body = some c) (hnm : (fn.name == "runtime.NumGoroutine") = false)
    (h : ∀ K, AWp P c (fun _ _ => False) (fun _ _ _ => False) (fun env os1 => ∃ v os', ResIs P fn env os1 (.val v) ∧ Q v os' ∧ os1.take objs.length = os' ∧ os1[objs.length]? = some (.keep (objs.length + 1) K) ∧ ∀ o ∈ os', o.plain) (Env.start args (m - args.length)) (objs ++ [.keep (objs.length + 1) K])) :
    AFnU P f args objs Q := .of hf hb hnm (by rw [hn]) h

theorem geti_mem {xs : List Int} {i : Int} (h0 : 0 ≤ i) (h1 : i < xs.length) : geti xs i ∈ xs := by
  unfold geti
  have : i.toNat < xs.length := by omega
  simp [this]
theorem gets_mem {xss : List (List Int)} {i : Int} (h0 : 0 ≤ i) (h1 : i < xss.length) : gets xss i ∈ xss := by
  unfold gets
  have : i.toNat < xss.length := by omega
  simp [this]
theorem inI_of {n : Int} (h0 : -9223372036854775808 ≤ n) (h1 : n ≤ 9223372036854775807) : inI n := ⟨h0, h1⟩

/-- A loop's head against a literal. -/
theorem le_nil {e : Env} : LeM e [] := trivial
theorem le_eq {e : Env} {k : Nat} {a a' : AV} {t : List (Nat × AV)} (h : e.fd k = some a) (ha : a = a') (ht : LeM e t) : LeM e ((k, a') :: t) := ⟨ha ▸ h, ht⟩
theorem lee {e e' : Env} (h : e'.n = e.n) (hm : LeM e e'.m) : LeE e e' := ⟨h, hm⟩
theorem lo_nil {a : List AO} : LeO a [] := by cases a <;> trivial
theorem lo_dead {a : AO} {as0 bs : List AO} (h : LeO as0 bs) : LeO (a :: as0) (.dead :: bs) := ⟨.inl rfl, h⟩
theorem lo_eq {a b : AO} {as0 bs : List AO} (e : a = b) (h : LeO as0 bs) : LeO (a :: as0) (b :: bs) := ⟨.inr (.inl e), h⟩
end Go.Proofs.Ytifkgmbghcmdeaa
/-
  The rules of the abstract machine joined with their operations, by program: a walk finds its rule by the operation's head. No condition.
-/
namespace Go.Proofs.Ytifkgmbghcmdeaa
open Go Go.RowKit
theorem if_pos' {c : Prop} [Decidable c] {A B : Prop} (hc : c) (h : A) : if c then A else B := by rw [if_pos hc]; exact h
theorem if_neg' {c : Prop} [Decidable c] {A B : Prop} (hc : ¬ c) (h : B) : if c then A else B := by rw [if_neg hc]; exact h
theorem lt_of_get {α : Type} {l : List α} {i : Nat} {a : α} (h : l[i]? = some a) : i < l.length := (List.getElem?_eq_some_iff.1 h).1
section
variable {P : Program} {env : Env} {os : List AO} {d : Tmp} {ty : TypeId} {pos : String} {af : Array Edge} {g : Option (Nat × Bool)} {l rest : List Oper} {K : APost} {q : Md}
theorem w_move {x : Operand} {a : AV} (hw : wantedA l env ⟨some d, .move x, ty, pos, af, g⟩ = some true) (hx : evo env x = some a) (h' : AOps P q l rest K (env.up d (a)) os) : AOps P q l (⟨some d, .move x, ty, pos, af, g⟩ :: rest) K env os := AOps.qo hw (a_move hx) h'
theorem w_assign {x : Operand} {a : AV} (hw : wantedA l env ⟨some d, .assign x, ty, pos, af, g⟩ = some true) (hx : evo env x = some a) (h' : AOps P q l rest K (env.up d (a)) os) : AOps P q l (⟨some d, .assign x, ty, pos, af, g⟩ :: rest) K env os := AOps.qo hw (a_assign hx) h'
theorem w_pickT {c x y : Operand} {a : AV} (hw : wantedA l env ⟨some d, .pick c x y, ty, pos, af, g⟩ = some true) (hc : evo env c = some (.val (.bool true))) (hx : evo env x = some a) (h' : AOps P q l rest K (env.up d (a)) os) : AOps P q l (⟨some d, .pick c x y, ty, pos, af, g⟩ :: rest) K env os := AOps.qo hw (a_pick_t hc hx) h'
theorem w_pickF {c x y : Operand} {a : AV} (hw : wantedA l env ⟨some d, .pick c x y, ty, pos, af, g⟩ = some true) (hc : evo env c = some (.val (.bool false))) (hx : evo env y = some a) (h' : AOps P q l rest K (env.up d (a)) os) : AOps P q l (⟨some d, .pick c x y, ty, pos, af, g⟩ :: rest) K env os := AOps.qo hw (a_pick_f hc hx) h'
theorem w_len {t e : TypeId} [TSlice P t e] {x : Operand} {a : AV} {n : Nat} (hw : wantedA l env ⟨some d, .call { callee := .builtin .len, args := #[x], argTypes := #[t] }, ty, pos, af, g⟩ = some true) (hx : evo env x = some a) (hl : HasLen os a n) (h' : AOps P q l rest K (env.up d (.i n)) os) : AOps P q l (⟨some d, .call { callee := .builtin .len, args := #[x], argTypes := #[t] }, ty, pos, af, g⟩ :: rest) K env os := AOps.qo hw (a_len hx hl) h'
theorem w_lss {xt yt : TypeId} {x y : Operand} {a b : Int} {k : IntKind} (hw : wantedA l env ⟨some d, .binOp .lss xt x y yt, ty, pos, af, g⟩ = some true) (ha : evo env x = some (.val (.int k a))) (hb : evo env y = some (.val (.int k b))) (h' : AOps P q l rest K (env.up d (.b (decide (a < b)))) os) : AOps P q l (⟨some d, .binOp .lss xt x y yt, ty, pos, af, g⟩ :: rest) K env os := AOps.qo hw (q_lss (ev_of ha) (ev_of hb)) h'
theorem w_leq {xt yt : TypeId} {x y : Operand} {a b : Int} {k : IntKind} (hw : wantedA l env ⟨some d, .binOp .leq xt x y yt, ty, pos, af, g⟩ = some true) (ha : evo env x = some (.val (.int k a))) (hb : evo env y = some (.val (.int k b))) (h' : AOps P q l rest K (env.up d (.b (decide (a ≤ b)))) os) : AOps P q l (⟨some d, .binOp .leq xt x y yt, ty, pos, af, g⟩ :: rest) K env os := AOps.qo hw (q_leq (ev_of ha) (ev_of hb)) h'
theorem w_gtr {xt yt : TypeId} {x y : Operand} {a b : Int} {k : IntKind} (hw : wantedA l env ⟨some d, .binOp .gtr xt x y yt, ty, pos, af, g⟩ = some true) (ha : evo env x = some (.val (.int k a))) (hb : evo env y = some (.val (.int k b))) (h' : AOps P q l rest K (env.up d (.b (decide (b < a)))) os) : AOps P q l (⟨some d, .binOp .gtr xt x y yt, ty, pos, af, g⟩ :: rest) K env os := AOps.qo hw (q_gtr (ev_of ha) (ev_of hb)) h'
theorem w_geq {xt yt : TypeId} {x y : Operand} {a b : Int} {k : IntKind} (hw : wantedA l env ⟨some d, .binOp .geq xt x y yt, ty, pos, af, g⟩ = some true) (ha : evo env x = some (.val (.int k a))) (hb : evo env y = some (.val (.int k b))) (h' : AOps P q l rest K (env.up d (.b (decide (b ≤ a)))) os) : AOps P q l (⟨some d, .binOp .geq xt x y yt, ty, pos, af, g⟩ :: rest) K env os := AOps.qo hw (q_geq (ev_of ha) (ev_of hb)) h'
theorem w_eql {xt yt : TypeId} {x y : Operand} {a b : Int} {k : IntKind} (hw : wantedA l env ⟨some d, .binOp .eql xt x y yt, ty, pos, af, g⟩ = some true) (ha : evo env x = some (.val (.int k a))) (hb : evo env y = some (.val (.int k b))) (h' : AOps P q l rest K (env.up d (.b (decide (a = b)))) os) : AOps P q l (⟨some d, .binOp .eql xt x y yt, ty, pos, af, g⟩ :: rest) K env os := AOps.qo hw (q_eql (ev_of ha) (ev_of hb)) h'
theorem w_neq {xt yt : TypeId} {x y : Operand} {a b : Int} {k : IntKind} (hw : wantedA l env ⟨some d, .binOp .neq xt x y yt, ty, pos, af, g⟩ = some true) (ha : evo env x = some (.val (.int k a))) (hb : evo env y = some (.val (.int k b))) (h' : AOps P q l rest K (env.up d (.b (decide (a ≠ b)))) os) : AOps P q l (⟨some d, .binOp .neq xt x y yt, ty, pos, af, g⟩ :: rest) K env os := AOps.qo hw (q_neq (ev_of ha) (ev_of hb)) h'
theorem w_add {xt yt : TypeId} {x y : Operand} {a b : Int} (hw : wantedA l env ⟨some d, .binOp .add xt x y yt, ty, pos, af, g⟩ = some true) (ha : evo env x = some (.i a)) (hb : evo env y = some (.i b)) (hi : inI (a + b)) (h' : AOps P q l rest K (env.up d (.i (a + b))) os) : AOps P q l (⟨some d, .binOp .add xt x y yt, ty, pos, af, g⟩ :: rest) K env os := AOps.qo hw (q_add (ev_of ha) (ev_of hb) hi) h'
theorem w_sub {xt yt : TypeId} {x y : Operand} {a b : Int} (hw : wantedA l env ⟨some d, .binOp .sub xt x y yt, ty, pos, af, g⟩ = some true) (ha : evo env x = some (.i a)) (hb : evo env y = some (.i b)) (hi : inI (a - b)) (h' : AOps P q l rest K (env.up d (.i (a - b))) os) : AOps P q l (⟨some d, .binOp .sub xt x y yt, ty, pos, af, g⟩ :: rest) K env os := AOps.qo hw (q_sub (ev_of ha) (ev_of hb) hi) h'
theorem w_mul {xt yt : TypeId} {x y : Operand} {a b : Int} (hw : wantedA l env ⟨some d, .binOp .mul xt x y yt, ty, pos, af, g⟩ = some true) (ha : evo env x = some (.i a)) (hb : evo env y = some (.i b)) (hi : inI (a * b)) (h' : AOps P q l rest K (env.up d (.i (a * b))) os) : AOps P q l (⟨some d, .binOp .mul xt x y yt, ty, pos, af, g⟩ :: rest) K env os := AOps.qo hw (q_mul (ev_of ha) (ev_of hb) hi) h'
theorem w_quo {xt yt : TypeId} {x y : Operand} {a b : Int} (hw : wantedA l env ⟨some d, .binOp .quo xt x y yt, ty, pos, af, g⟩ = some true) (ha : evo env x = some (.i a)) (hb : evo env y = some (.i b)) (h0 : 0 ≤ a) (h1 : 0 < b) (hi : inI a) (h' : AOps P q l rest K (env.up d (.i (a / b))) os) : AOps P q l (⟨some d, .binOp .quo xt x y yt, ty, pos, af, g⟩ :: rest) K env os := AOps.qo hw (q_quo (ev_of ha) (ev_of hb) h0 h1 hi) h'
theorem w_rem {xt yt : TypeId} {x y : Operand} {a b : Int} (hw : wantedA l env ⟨some d, .binOp .rem xt x y yt, ty, pos, af, g⟩ = some true) (ha : evo env x = some (.i a)) (hb : evo env y = some (.i b)) (h0 : 0 ≤ a) (h1 : 0 < b) (h' : AOps P q l rest K (env.up d (.i (a % b))) os) : AOps P q l (⟨some d, .binOp .rem xt x y yt, ty, pos, af, g⟩ :: rest) K env os := AOps.qo hw (q_rem (ev_of ha) (ev_of hb) h0 h1) h'
theorem w_remT {xt yt : TypeId} {x y : Operand} {a b : Int} (hw : wantedA l env ⟨some d, .binOp .rem xt x y yt, ty, pos, af, g⟩ = some true) (ha : evo env x = some (.i a)) (hb : evo env y = some (.i b)) (h0 : b ≠ 0) (h' : AOps P q l rest K (env.up d (.i (a.tmod b))) os) : AOps P q l (⟨some d, .binOp .rem xt x y yt, ty, pos, af, g⟩ :: rest) K env os := AOps.qo hw (q_remT (ev_of ha) (ev_of hb) h0) h'
theorem w_quoT {xt yt : TypeId} {x y : Operand} {a b : Int} (hw : wantedA l env ⟨some d, .binOp .quo xt x y yt, ty, pos, af, g⟩ = some true) (ha : evo env x = some (.i a)) (hb : evo env y = some (.i b)) (h0 : b ≠ 0) (hi : inI (a.tdiv b)) (h' : AOps P q l rest K (env.up d (.i (a.tdiv b))) os) : AOps P q l (⟨some d, .binOp .quo xt x y yt, ty, pos, af, g⟩ :: rest) K env os := AOps.qo hw (q_quoT (ev_of ha) (ev_of hb) h0 hi) h'
theorem w_eqlb {xt yt : TypeId} [TBool P xt] {x y : Operand} {a b : Bool} (hw : wantedA l env ⟨some d, .binOp .eql xt x y yt, ty, pos, af, g⟩ = some true) (ha : evo env x = some (.b a)) (hb : evo env y = some (.b b)) (h' : AOps P q l rest K (env.up d (.b (decide (a = b)))) os) : AOps P q l (⟨some d, .binOp .eql xt x y yt, ty, pos, af, g⟩ :: rest) K env os := AOps.qo hw (q_eqlb (ev_of ha) (ev_of hb)) h'
theorem w_neqb {xt yt : TypeId} [TBool P xt] {x y : Operand} {a b : Bool} (hw : wantedA l env ⟨some d, .binOp .neq xt x y yt, ty, pos, af, g⟩ = some true) (ha : evo env x = some (.b a)) (hb : evo env y = some (.b b)) (h' : AOps P q l rest K (env.up d (.b (decide (a ≠ b)))) os) : AOps P q l (⟨some d, .binOp .neq xt x y yt, ty, pos, af, g⟩ :: rest) K env os := AOps.qo hw (q_neqb (ev_of ha) (ev_of hb)) h'
theorem w_not {xt : TypeId} {x : Operand} {b : Bool} (hw : wantedA l env ⟨some d, .unOp .not xt x, ty, pos, af, g⟩ = some true) (hb : evo env x = some (.b b)) (h' : AOps P q l rest K (env.up d (.b (!b))) os) : AOps P q l (⟨some d, .unOp .not xt x, ty, pos, af, g⟩ :: rest) K env os := AOps.qo hw (q_not (ev_of hb)) h'
theorem w_neg {xt : TypeId} {x : Operand} {a : Int} (hw : wantedA l env ⟨some d, .unOp .neg xt x, ty, pos, af, g⟩ = some true) (ha : evo env x = some (.i a)) (hi : inI (0 - a)) (h' : AOps P q l rest K (env.up d (.i (0 - a))) os) : AOps P q l (⟨some d, .unOp .neg xt x, ty, pos, af, g⟩ :: rest) K env os := AOps.qo hw (q_neg (ev_of ha) hi) h'
theorem w_conv {src dst : TypeId} [TKind P src .i64] [TKind P dst .i64] {x : Operand} {a : Int} (hw : wantedA l env ⟨some d, .convert src dst x, ty, pos, af, g⟩ = some true) (ha : evo env x = some (.i a)) (hi : inI a) (h' : AOps P q l rest K (env.up d (.i a)) os) : AOps P q l (⟨some d, .convert src dst x, ty, pos, af, g⟩ :: rest) K env os := AOps.qo hw (q_conv (ev_of ha) hi) h'
theorem w_min {ats : Array TypeId} {x y : Operand} {a b : Int} (hw : wantedA l env ⟨some d, .call { callee := .builtin .min, args := #[x, y], argTypes := ats }, ty, pos, af, g⟩ = some true) (ha : evo env x = some (.i a)) (hb : evo env y = some (.i b)) (h' : AOps P q l rest K (env.up d (.i (min a b))) os) : AOps P q l (⟨some d, .call { callee := .builtin .min, args := #[x, y], argTypes := ats }, ty, pos, af, g⟩ :: rest) K env os := AOps.qo hw (q_min (ev_of ha) (ev_of hb)) h'
theorem w_max {ats : Array TypeId} {x y : Operand} {a b : Int} (hw : wantedA l env ⟨some d, .call { callee := .builtin .max, args := #[x, y], argTypes := ats }, ty, pos, af, g⟩ = some true) (ha : evo env x = some (.i a)) (hb : evo env y = some (.i b)) (h' : AOps P q l rest K (env.up d (.i (max a b))) os) : AOps P q l (⟨some d, .call { callee := .builtin .max, args := #[x, y], argTypes := ats }, ty, pos, af, g⟩ :: rest) K env os := AOps.qo hw (q_max (ev_of ha) (ev_of hb)) h'
theorem w_idx {t e : TypeId} [TSlice P t e] [TCell P e] {x y : Operand} {xs : List Int} {i : Int} (hw : wantedA l env ⟨some d, .indexAddr t x y, ty, pos, af, g⟩ = some true) (hx : evo env x = some (.ints xs)) (hy : evo env y = some (.i i)) (h0 : 0 ≤ i) (h1 : i < xs.length) (h' : AOps P q l rest K (env.up d (.iptr xs i)) os) : AOps P q l (⟨some d, .indexAddr t x y, ty, pos, af, g⟩ :: rest) K env os := AOps.qo hw (q_idx_ints (ev_of hx) (ev_of hy) h0 h1) h'
theorem w_idxs {t e : TypeId} [TSlice P t e] [TCell P e] {x y : Operand} {xss : List (List Int)} {i : Int} (hw : wantedA l env ⟨some d, .indexAddr t x y, ty, pos, af, g⟩ = some true) (hx : evo env x = some (.intss xss)) (hy : evo env y = some (.i i)) (h0 : 0 ≤ i) (h1 : i < xss.length) (h' : AOps P q l rest K (env.up d (.iiptr xss i)) os) : AOps P q l (⟨some d, .indexAddr t x y, ty, pos, af, g⟩ :: rest) K env os := AOps.qo hw (q_idx_intss (ev_of hx) (ev_of hy) h0 h1) h'
theorem w_ld {t : TypeId} [TCell P t] {x : Operand} {xs : List Int} {i : Int} (hw : wantedA l env ⟨some d, .load t x, ty, pos, af, g⟩ = some true) (hq : q.wl = false) (hx : evo env x = some (.iptr xs i)) (h' : AOps P q l rest K (env.up d (.i (geti xs i))) os) : AOps P q l (⟨some d, .load t x, ty, pos, af, g⟩ :: rest) K env os := AOps.qo hw (by rw [hq]; exact q_load_iptr (ev_of hx)) h'
theorem w_lds {t : TypeId} [TCell P t] {x : Operand} {xss : List (List Int)} {i : Int} (hw : wantedA l env ⟨some d, .load t x, ty, pos, af, g⟩ = some true) (hq : q.wl = false) (hx : evo env x = some (.iiptr xss i)) (h' : AOps P q l rest K (env.up d (.ints (gets xss i))) os) : AOps P q l (⟨some d, .load t x, ty, pos, af, g⟩ :: rest) K env os := AOps.qo hw (by rw [hq]; exact q_load_iiptr (ev_of hx)) h'
theorem w_idxo {t e : TypeId} [TSlice P t e] [TCell P e] {x y : Operand} {h n : Nat} {i : Int} (hw : wantedA l env ⟨some d, .indexAddr t x y, ty, pos, af, g⟩ = some true) (hx : evo env x = some (.own h)) (hs : IsSl os h n) (hy : evo env y = some (.i i)) (h0 : 0 ≤ i) (h1 : i < n) (h' : AOps P q l rest K (env.up d (.optr h i.toNat)) os) : AOps P q l (⟨some d, .indexAddr t x y, ty, pos, af, g⟩ :: rest) K env os := AOps.qo hw (q_idx_own (ev_of hx) hs (ev_of hy) h0 h1) h'
theorem w_idxr {t e : TypeId} [TSlice P t e] [TCell P e] {x y : Operand} {h j : Nat} {te te2 : TypeId} {xss : List (List Int)} {i : Int} (hw : wantedA l env ⟨some d, .indexAddr t x y, ty, pos, af, g⟩ = some true) (hx : evo env x = some (.orow h j)) (hs : os[h]? = some (.sls te te2 xss)) (hy : evo env y = some (.i i)) (h0 : 0 ≤ i) (h1 : i < (xss.getD j []).length) (h' : AOps P q l rest K (env.up d (.orptr h j i.toNat)) os) : AOps P q l (⟨some d, .indexAddr t x y, ty, pos, af, g⟩ :: rest) K env os := AOps.qo hw (q_idx_orow (ev_of hx) hs (ev_of hy) h0 h1) h'
theorem w_ldo {t : TypeId} [TCell P t] {x : Operand} {h i : Nat} {e : TypeId} {xs : List Int} (hw : wantedA l env ⟨some d, .load t x, ty, pos, af, g⟩ = some true) (hq : q.wl = false) (hx : evo env x = some (.optr h i)) (hs : os[h]? = some (.sli e xs)) (hi : i < xs.length) (h' : AOps P q l rest K (env.up d (.i (geti xs i))) os) : AOps P q l (⟨some d, .load t x, ty, pos, af, g⟩ :: rest) K env os := AOps.qo hw (by rw [hq]; exact q_load_sli (ev_of hx) hs hi) h'
theorem w_ldr {t : TypeId} [TCell P t] {x : Operand} {h i k : Nat} {e : TypeId} {idx : List Nat} (hw : wantedA l env ⟨some d, .load t x, ty, pos, af, g⟩ = some true) (hq : q.wl = false) (hx : evo env x = some (.optr h i)) (hs : os[h]? = some (.slr e (idx.map (AV.orow k)))) (hi : i < idx.length) (h' : AOps P q l rest K (env.up d (.orow k (idx.getD i 0))) os) : AOps P q l (⟨some d, .load t x, ty, pos, af, g⟩ :: rest) K env os := AOps.qo hw (by rw [hq]; exact q_load_slr (ev_of hx) hs (by simp [hi])) h'
theorem w_ldls {t : TypeId} [TCell P t] {x : Operand} {h i : Nat} {e e2 : TypeId} {xss : List (List Int)} (hw : wantedA l env ⟨some d, .load t x, ty, pos, af, g⟩ = some true) (hq : q.wl = false) (hx : evo env x = some (.optr h i)) (hs : os[h]? = some (.sls e e2 xss)) (hi : i < xss.length) (h' : AOps P q l rest K (env.up d (.orow h i)) os) : AOps P q l (⟨some d, .load t x, ty, pos, af, g⟩ :: rest) K env os := AOps.qo hw (by rw [hq]; exact q_load_sls (ev_of hx) hs hi) h'
theorem w_ldrp {t : TypeId} [TCell P t] {x : Operand} {h i j : Nat} {e e2 : TypeId} {xss : List (List Int)} (hw : wantedA l env ⟨some d, .load t x, ty, pos, af, g⟩ = some true) (hq : q.wl = false) (hx : evo env x = some (.orptr h i j)) (hs : os[h]? = some (.sls e e2 xss)) (hj : j < (xss.getD i []).length) (h' : AOps P q l rest K (env.up d (.i (geti (xss.getD i []) j))) os) : AOps P q l (⟨some d, .load t x, ty, pos, af, g⟩ :: rest) K env os := AOps.qo hw (by rw [hq]; exact q_load_orptr (ev_of hx) hs hj) h'
theorem w_ldb {t : TypeId} [TCell P t] {x : Operand} {h i : Nat} {T : TypeId} {avs : List AV} {a : AV} (hw : wantedA l env ⟨some d, .load t x, ty, pos, af, g⟩ = some true) (hq : q.wl = false) (hx : evo env x = some (.optr h i)) (hs : os[h]? = some (.bx T avs)) (hi : avs[i]? = some a) (h' : AOps P q l rest K (env.up d (a)) os) : AOps P q l (⟨some d, .load t x, ty, pos, af, g⟩ :: rest) K env os := AOps.qo hw (by rw [hq]; exact QOp.cast (gdl hi) (q_load_bx (ev_of hx) hs (lt_of_get hi))) h'
theorem w_ldst {t : TypeId} {n : Nat} {zs : List Value} [TStruct P t n zs] {x : Operand} {h : Nat} {T : TypeId} {avs : List AV} (hw : wantedA l env ⟨some d, .load t x, ty, pos, af, g⟩ = some true) (hq : q.wl = false) (hx : evo env x = some (.optr h 0)) (hs : os[h]? = some (.bx T avs)) (hn : avs.length = n) (h' : AOps P q l rest K (env.up d (.agg avs)) os) : AOps P q l (⟨some d, .load t x, ty, pos, af, g⟩ :: rest) K env os := AOps.qo hw (by rw [hq]; exact q_load_str (ev_of hx) hs hn) h'
theorem w_fa {t : TypeId} {f off : Nat} [TField P t f off] {x : Operand} {h i j : Nat} (hw : wantedA l env ⟨some d, .fieldAddr t x f, ty, pos, af, g⟩ = some true) (hx : evo env x = some (.optr h i)) (hj : i + off = j) (h' : AOps P q l rest K (env.up d (.optr h j)) os) : AOps P q l (⟨some d, .fieldAddr t x f, ty, pos, af, g⟩ :: rest) K env os := AOps.qo hw (QOp.cast (by rw [hj]) (q_fieldAddr (off := off) (ev_of hx))) h'
theorem w_fld {t : TypeId} {f off : Nat} [TField P t f off] {x : Operand} {l' : List AV} {a : AV} (hw : wantedA l env ⟨some d, .field t x f, ty, pos, af, g⟩ = some true) (hx : evo env x = some (.agg l')) (hi : l'[off]? = some a) (h' : AOps P q l rest K (env.up d (a)) os) : AOps P q l (⟨some d, .field t x f, ty, pos, af, g⟩ :: rest) K env os := AOps.qo hw (QOp.cast (gdl hi) (q_field (off := off) (ev_of hx) (lt_of_get hi))) h'
theorem w_ext {x : Operand} {l' : List AV} {i : Nat} {a : AV} (hw : wantedA l env ⟨some d, .extract x i, ty, pos, af, g⟩ = some true) (hx : evo env x = some (.tup l')) (hi : l'[i]? = some a) (h' : AOps P q l rest K (env.up d (a)) os) : AOps P q l (⟨some d, .extract x i, ty, pos, af, g⟩ :: rest) K env os := AOps.qo hw (QOp.cast (gdl hi) (q_extract (ev_of hx) (lt_of_get hi))) h'
theorem w_extv {x : Operand} {vs : List Value} {i : Nat} {u : Value} (hw : wantedA l env ⟨some d, .extract x i, ty, pos, af, g⟩ = some true) (hx : evo env x = some (.val (.tuple vs.toArray))) (hi : vs[i]? = some u) (h' : AOps P q l rest K (env.up d (.val u)) os) : AOps P q l (⟨some d, .extract x i, ty, pos, af, g⟩ :: rest) K env os := AOps.qo hw (q_extract_v (ev_of hx) hi) h'
theorem w_slhi {t e : TypeId} [TSlice P t e] [TCell P e] {x y : Operand} {xs : List Int} {n : Int} (hw : wantedA l env ⟨some d, .slice t x none (some y) none, ty, pos, af, g⟩ = some true) (hx : evo env x = some (.ints xs)) (hy : evo env y = some (.i n)) (h0 : 0 ≤ n) (h1 : n ≤ xs.length) (h' : AOps P q l rest K (env.up d (.ints (xs.take n.toNat))) os) : AOps P q l (⟨some d, .slice t x none (some y) none, ty, pos, af, g⟩ :: rest) K env os := AOps.qo hw (q_slice_hi (ev_of hx) (ev_of hy) h0 h1) h'
theorem w_sllo {t e : TypeId} [TSlice P t e] [TCell P e] {x y : Operand} {xs : List Int} {n : Int} (hw : wantedA l env ⟨some d, .slice t x (some y) none none, ty, pos, af, g⟩ = some true) (hx : evo env x = some (.ints xs)) (hy : evo env y = some (.i n)) (h0 : 0 ≤ n) (h1 : n ≤ xs.length) (h' : AOps P q l rest K (env.up d (.ints (xs.drop n.toNat))) os) : AOps P q l (⟨some d, .slice t x (some y) none none, ty, pos, af, g⟩ :: rest) K env os := AOps.qo hw (q_slice_lo (ev_of hx) (ev_of hy) h0 h1) h'
theorem w_sllh {t e : TypeId} [TSlice P t e] [TCell P e] {x y z : Operand} {xs : List Int} {m n : Int} (hw : wantedA l env ⟨some d, .slice t x (some y) (some z) none, ty, pos, af, g⟩ = some true) (hx : evo env x = some (.ints xs)) (hy : evo env y = some (.i m)) (hz : evo env z = some (.i n)) (h0 : 0 ≤ m) (h1 : m ≤ n) (h2 : n ≤ xs.length) (h' : AOps P q l rest K (env.up d (.ints ((xs.take n.toNat).drop m.toNat))) os) : AOps P q l (⟨some d, .slice t x (some y) (some z) none, ty, pos, af, g⟩ :: rest) K env os := AOps.qo hw (q_slice_lh (ev_of hx) (ev_of hy) (ev_of hz) h0 h1 h2) h'
theorem w_oslo {t e : TypeId} [TSlice P t e] [TCell P e] {x y : Operand} {h : Nat} {e' : TypeId} {xs : List Int} {n : Int} (hw : wantedA l env ⟨some d, .slice t x (some y) none none, ty, pos, af, g⟩ = some true) (hx : evo env x = some (.own h)) (hs : os[h]? = some (.sli e' xs)) (hy : evo env y = some (.i n)) (h0 : 0 ≤ n) (h1 : n ≤ xs.length) (h' : AOps P q l rest K (env.up d (.osub h n.toNat (xs.length - n.toNat))) os) : AOps P q l (⟨some d, .slice t x (some y) none none, ty, pos, af, g⟩ :: rest) K env os := AOps.qo hw (q_oslice_lo (ev_of hx) hs (ev_of hy) h0 h1) h'
theorem w_oshi {t e : TypeId} [TSlice P t e] [TCell P e] {x y : Operand} {h : Nat} {e' : TypeId} {xs : List Int} {n : Int} (hw : wantedA l env ⟨some d, .slice t x none (some y) none, ty, pos, af, g⟩ = some true) (hx : evo env x = some (.own h)) (hs : os[h]? = some (.sli e' xs)) (hy : evo env y = some (.i n)) (h0 : 0 ≤ n) (h1 : n ≤ xs.length) (h' : AOps P q l rest K (env.up d (.osub h 0 n.toNat)) os) : AOps P q l (⟨some d, .slice t x none (some y) none, ty, pos, af, g⟩ :: rest) K env os := AOps.qo hw (q_oslice_hi (ev_of hx) hs (ev_of hy) h0 h1) h'
theorem w_build0 {t : TypeId} {n : Nat} {zs : List Value} [TBuild P t n zs] (hw : wantedA l env ⟨some d, .build t #[], ty, pos, af, g⟩ = some true) (h1 : zs.all (·.oneCell') = true) (h' : AOps P q l rest K (env.up d (.agg (zs.map AV.val))) os) : AOps P q l (⟨some d, .build t #[], ty, pos, af, g⟩ :: rest) K env os := AOps.qo hw (q_build0 h1) h'
theorem w_build1 {t : TypeId} {zs : List Value} [TBuild P t 1 zs] {x : Operand} {a : AV} (hw : wantedA l env ⟨some d, .build t #[(0, x)], ty, pos, af, g⟩ = some true) (hx : evo env x = some a) (h1 : OneC env os a) (h' : AOps P q l rest K (env.up d (.agg [a])) os) : AOps P q l (⟨some d, .build t #[(0, x)], ty, pos, af, g⟩ :: rest) K env os := AOps.qo hw (q_build1 (ev_of hx) h1) h'
theorem w_build2 {t : TypeId} {zs : List Value} [TBuild P t 2 zs] {x y : Operand} {a b : AV} (hw : wantedA l env ⟨some d, .build t #[(0, x), (1, y)], ty, pos, af, g⟩ = some true) (hx : evo env x = some a) (hy : evo env y = some b) (h1 : OneC env os a) (h2 : OneC env os b) (h' : AOps P q l rest K (env.up d (.agg [a, b])) os) : AOps P q l (⟨some d, .build t #[(0, x), (1, y)], ty, pos, af, g⟩ :: rest) K env os := AOps.qo hw (q_build2 (ev_of hx) (ev_of hy) h1 h2) h'
theorem w_skip {op : Op} (hw : wantedA l env ⟨some d, op, ty, pos, af, g⟩ = some false) (h' : AOps P q l rest K (env.up d (.val undef)) os) : AOps P q l (⟨some d, op, ty, pos, af, g⟩ :: rest) K env os := AOps.skip hw h'
theorem w_bs0 {t e : TypeId} {bytes : Nat} [TSlice P t e] [TElem P e (.int .i64 0) bytes] {m : Nat} (hm : os.length = m) (h' : AOps P .seq l rest K (env.up d (.own m)) (os ++ [.sli e []])) : AOps P .seq l (⟨some d, .buildSlice t 0 #[], ty, pos, af, none⟩ :: rest) K env os := AOps.lo (hm ▸ l_bs0) h'
theorem w_bs1 {t e : TypeId} {bytes : Nat} [TSlice P t e] [TElem P e (.int .i64 0) bytes] {x : Operand} {a : Int} {m : Nat} (hx : evo env x = some (.i a)) (hm : os.length = m) (ha : inI a) (h' : AOps P .seq l rest K (env.up d (.own m)) (os ++ [.sli e [a]])) : AOps P .seq l (⟨some d, .buildSlice t 1 #[(0, x)], ty, pos, af, none⟩ :: rest) K env os := AOps.lo (hm ▸ l_bs1 (ev_of hx) ha) h'
theorem w_bs2 {t e : TypeId} {bytes : Nat} [TSlice P t e] [TElem P e (.int .i64 0) bytes] {x y : Operand} {a b : Int} {m : Nat} (hx : evo env x = some (.i a)) (hy : evo env y = some (.i b)) (hm : os.length = m) (ha : inI a) (hb : inI b) (h' : AOps P .seq l rest K (env.up d (.own m)) (os ++ [.sli e [a, b]])) : AOps P .seq l (⟨some d, .buildSlice t 2 #[(0, x), (1, y)], ty, pos, af, none⟩ :: rest) K env os := AOps.lo (hm ▸ l_bs2 (ev_of hx) (ev_of hy) ha hb) h'
theorem w_appn {t e : TypeId} {bytes : Nat} [TSlice P t e] [TElem P e (.int .i64 0) bytes] {x y : Operand} {a : AV} {ys : List Int} {m : Nat} (hx : evo env x = some (.val (.slice none 0 0))) (hy : evo env y = some a) (hi : Imm os a (.ints ys)) (hm : os.length = m) (hb : ys.length * bytes ≤ 140737488355328) (h' : AOps P .seq l rest K (env.up d (.own m)) (os ++ [.sli e ys])) : AOps P .seq l (⟨some d, .call { callee := .builtin .append, args := #[x, y], argTypes := #[t, t] }, ty, pos, af, none⟩ :: rest) K env os := AOps.lo (hm ▸ l_append_nil (ev_of hx) (ev_of hy ▸ hi) hb) h'
theorem w_boxa {T : TypeId} {x : Operand} {avs : List AV} {m : Nat} (hx : evo env x = some (.agg avs)) (hm : os.length = m) (h' : AOps P .seq l rest K (env.up d (.optr m 0)) (os ++ [.bx T avs])) : AOps P .seq l (⟨some d, .box T x, ty, pos, af, none⟩ :: rest) K env os := AOps.lo (hm ▸ l_box_agg (ev_of hx)) h'
theorem w_alst {T : TypeId} {n : Nat} {zs : List Value} [TStruct P T n zs] {m : Nat} (h1 : zs.all (·.oneCell') = true) (hm : os.length = m) (h' : AOps P .seq l rest K (env.up d (.optr m 0)) (os ++ [.bx T (zs.map AV.val)])) : AOps P .seq l (⟨some d, .alloc T, ty, pos, af, none⟩ :: rest) K env os := AOps.lo (hm ▸ l_alloc_str (List.all_eq_true.1 h1)) h'
theorem w_alone {T : TypeId} {z : Value} {bytes : Nat} [TElem P T z bytes] {m : Nat} (h1 : z.oneCell' = true) (hc : z.cells = #[z]) (hm : os.length = m) (h' : AOps P .seq l rest K (env.up d (.optr m 0)) (os ++ [.bx T [.val z]])) : AOps P .seq l (⟨some d, .alloc T, ty, pos, af, none⟩ :: rest) K env os := AOps.lo (hm ▸ l_alloc_one h1 hc) h'
theorem w_mkr {t e e2 : TypeId} {bytes : Nat} [TSlice P t e] [TSlice P e e2] [TElem P e (.slice none 0 0) bytes] {x y : Operand} {n : Int} {m : Nat} (hx : evo env x = some (.i n)) (hy : evo env y = some (.i n)) (h0 : 0 ≤ n) (hb : (bytes : Int) * n ≤ 281474976710656) (h63 : n ≤ 9223372036854775807) (hm : os.length = m) (h' : AOps P .seq l rest K (env.up d (.own m)) (os ++ [.sls e e2 (List.replicate n.toNat [])])) : AOps P .seq l (⟨some d, .makeSlice t x y, ty, pos, af, none⟩ :: rest) K env os := AOps.lo (hm ▸ l_make_rows e2 (ev_of hx) (ev_of hy) h0 hb h63) h'
theorem w_mki {t e : TypeId} {bytes : Nat} [TSlice P t e] [TElem P e (.int .i64 0) bytes] {x y : Operand} {n : Int} {m : Nat} (hx : evo env x = some (.i n)) (hy : evo env y = some (.i n)) (h0 : 0 ≤ n) (hb : (bytes : Int) * n ≤ 281474976710656) (h63 : n ≤ 9223372036854775807) (hm : os.length = m) (h' : AOps P .seq l rest K (env.up d (.own m)) (os ++ [.sli e (List.replicate n.toNat 0)])) : AOps P .seq l (⟨some d, .makeSlice t x y, ty, pos, af, none⟩ :: rest) K env os := AOps.lo (hm ▸ l_make_int (ev_of hx) (ev_of hy) h0 hb h63) h'
theorem w_copy {t e : TypeId} {bytes : Nat} [TSlice P t e] [TElem P e (.int .i64 0) bytes] {x y : Operand} {h off len : Nat} {e' : TypeId} {xs ys : List Int} {a b : AV} (hx : evo env x = some a) (hd : Dst os h off len a) (hs : os[h]? = some (.sli e' xs)) (hle : off + len ≤ xs.length) (hy : evo env y = some b) (hi : Imm os b (.ints ys)) (h' : AOps P .seq l rest K (env.up d (.i (min len ys.length : Nat))) (os.set h (.sli e' (over xs off len ys)))) : AOps P .seq l (⟨some d, .call { callee := .builtin .copy, args := #[x, y], argTypes := #[t, t] }, ty, pos, af, none⟩ :: rest) K env os := AOps.lo (l_copy (ev_of hx) hd hs hle (ev_of hy ▸ hi)) h'
theorem w_app {t e : TypeId} {bytes : Nat} [TSlice P t e] [TElem P e (.int .i64 0) bytes] {x y : Operand} {h : Nat} {e' : TypeId} {xs ys : List Int} {a : AV} (hx : evo env x = some (.own h)) (hs : os[h]? = some (.sli e' xs)) (hee : e' = e) (hy : evo env y = some a) (hi : Imm os a (.ints ys)) (hb : (xs.length + ys.length) * bytes ≤ 140737488355328) (h' : AOps P .seq l rest K (Env.up (env.mp (AV.kill h)) d (.own h)) ((os.map (AO.kill h)).set h (.sli e (xs ++ ys)))) : AOps P .seq l (⟨some d, .call { callee := .builtin .append, args := #[x, y], argTypes := #[t, t] }, ty, pos, af, none⟩ :: rest) K env os := AOps.lo (l_append (ev_of hx) hs hee (ev_of hy ▸ hi) hb) h'
theorem w_strow {t : TypeId} [TCell P t] {x y : Operand} {h i k : Nat} {e e2 e3 : TypeId} {xss : List (List Int)} {ys : List Int} (hx : evo env x = some (.optr h i)) (hs : os[h]? = some (.sls e e2 xss)) (hi : i < xss.length) (hy : evo env y = some (.own k)) (hk : os[k]? = some (.sli e3 ys)) (he : e3 = e2) (hhk : (h == k) = false) (h' : AOps P .seq l rest K (env.mp (AV.noRow h)) (((os.map (AO.via (AV.noRow h) h)).set h (.sls e e2 (xss.set i ys))).set k .dead)) : AOps P .seq l (⟨none, .store t x y, ty, pos, af, none⟩ :: rest) K env os := AOps.so (l_store_row (ev_of hx) hs hi (ev_of hy) hk he hhk) h'
theorem w_sti {t : TypeId} [TCell P t] {x y : Operand} {h i : Nat} {e : TypeId} {xs : List Int} {n : Int} (hx : evo env x = some (.optr h i)) (hs : os[h]? = some (.sli e xs)) (hi : i < xs.length) (hy : evo env y = some (.i n)) (hn : inI n) (h' : AOps P .seq l rest K env (os.set h (.sli e (xs.set i n)))) : AOps P .seq l (⟨none, .store t x y, ty, pos, af, none⟩ :: rest) K env os := AOps.so (l_store_sli (ev_of hx) hs hi (ev_of hy) hn) h'
theorem w_stst {t : TypeId} {n : Nat} {zs : List Value} [TStruct P t n zs] {x y : Operand} {h : Nat} {T : TypeId} {avs l' : List AV} (hx : evo env x = some (.optr h 0)) (hs : os[h]? = some (.bx T avs)) (hn : avs.length = n) (hy : evo env y = some (.agg l')) (hl : l'.length = n) (h' : AOps P .seq l rest K env (os.set h (.bx T l'))) : AOps P .seq l (⟨none, .store t x y, ty, pos, af, none⟩ :: rest) K env os := AOps.so (l_store_str (ev_of hx) hs hn (ev_of hy) hl) h'
theorem w_stbv {t : TypeId} [TCell P t] {x y : Operand} {h i : Nat} {T : TypeId} {avs : List AV} {a0 : AV} {v : Value} (hx : evo env x = some (.optr h i)) (hs : os[h]? = some (.bx T avs)) (hi : avs[i]? = some a0) (hy : evo env y = some (.val v)) (h1 : v.oneCell' = true) (h2 : v.cells = #[v]) (h' : AOps P .seq l rest K env (os.set h (.bx T (avs.set i (.val v))))) : AOps P .seq l (⟨none, .store t x y, ty, pos, af, none⟩ :: rest) K env os := AOps.so (l_store_bx (ev_of hx) hs (lt_of_get hi) (ev_of hy) (one_val h1 h2)) h'
theorem w_stbi {t : TypeId} [TCell P t] {x y : Operand} {h i : Nat} {T : TypeId} {avs : List AV} {a0 : AV} {xs : List Int} (hx : evo env x = some (.optr h i)) (hs : os[h]? = some (.bx T avs)) (hi : avs[i]? = some a0) (hy : evo env y = some (.ints xs)) (h' : AOps P .seq l rest K env (os.set h (.bx T (avs.set i (.ints xs))))) : AOps P .seq l (⟨none, .store t x y, ty, pos, af, none⟩ :: rest) K env os := AOps.so (l_store_bx (ev_of hx) hs (lt_of_get hi) (ev_of hy) one_ints) h'
theorem w_stbii {t : TypeId} [TCell P t] {x y : Operand} {h i : Nat} {T : TypeId} {avs : List AV} {a0 : AV} {xs : List (List Int)} (hx : evo env x = some (.optr h i)) (hs : os[h]? = some (.bx T avs)) (hi : avs[i]? = some a0) (hy : evo env y = some (.intss xs)) (h' : AOps P .seq l rest K env (os.set h (.bx T (avs.set i (.intss xs))))) : AOps P .seq l (⟨none, .store t x y, ty, pos, af, none⟩ :: rest) K env os := AOps.so (l_store_bx (ev_of hx) hs (lt_of_get hi) (ev_of hy) one_intss) h'
theorem w_stbo {t : TypeId} [TCell P t] {x y : Operand} {h i k : Nat} {T : TypeId} {avs : List AV} {a0 : AV} {o : AO} (hx : evo env x = some (.optr h i)) (hs : os[h]? = some (.bx T avs)) (hi : avs[i]? = some a0) (hy : evo env y = some (.own k)) (ho : os[k]? = some o) (hn : o.live) (h' : AOps P .seq l rest K env (os.set h (.bx T (avs.set i (.own k))))) : AOps P .seq l (⟨none, .store t x y, ty, pos, af, none⟩ :: rest) K env os := AOps.so (l_store_bx (ev_of hx) hs (lt_of_get hi) (ev_of hy) (one_own ho hn)) h'
theorem w_call {f : FuncId} {args : List AV} {v : Value} {xs : List Operand} {ats : Array TypeId} (hc : AFnV P f args v) (hw : wantedA l env ⟨some d, .call { callee := .value (.func f), args := xs.toArray, argTypes := ats }, ty, pos, af, g⟩ = some true)
    (hq : q.wl = false) (hi : Imms os (xs.map (AV.ev env)) args) (h' : AOps P q l rest K (env.up d (.val v)) os) : AOps P q l (⟨some d, .call { callee := .value (.func f), args := xs.toArray, argTypes := ats }, ty, pos, af, g⟩ :: rest) K env os := AOps.qo hw (by rw [hq]; exact q_call hc hi) h'
theorem w_callm {f : FuncId} {args : List AV} {Q : AV → List AO → Prop} {xs : List Operand} {ats : Array TypeId} (hc : AFn P f args Q) (hi : Imms os (xs.map (AV.ev env)) args)
    (h' : ∀ r os0, Q r os0 → AOps P .seq l rest K (env.up d (r.sh os.length)) (os ++ os0.map (AO.sh os.length))) :
    AOps P .seq l (⟨some d, .call { callee := .value (.func f), args := xs.toArray, argTypes := ats }, ty, pos, af, none⟩ :: rest) K env os :=
  AOps.ca (c_call hc hi) fun r e o ⟨r0, os0, hq, h1, h2, h3⟩ => by subst h1; subst h2; subst h3; exact h' r0 os0 hq
theorem w_callu {f : FuncId} {args : List AV} {objs : List AO} {Q : Value → List AO → Prop} {xs : List Operand} {ats : Array TypeId} (H : List Nat) (hc : AFnU P f args objs Q) (hh : Handed os H objs) (hi : ImmUs os H (xs.map (AV.ev env)) args)
    (h' : ∀ v os', Q v os' → AOps P .seq l rest K (env.up d (.val v)) (setAll os H os')) :
    AOps P .seq l (⟨some d, .call { callee := .value (.func f), args := xs.toArray, argTypes := ats }, ty, pos, af, none⟩ :: rest) K env os :=
  AOps.ca (c_callu hc hh hi) fun r e o ⟨v, os', hq, h1, h2, h3⟩ => by subst h1; subst h2; subst h3; exact h' v os' hq
end
end Go.Proofs.Ytifkgmbghcmdeaa
/-
  Regions that draw their order and make memory: every order is walked. No condition.
-/
namespace Go.Proofs.Ytifkgmbghcmdeaa
open Go Go.RowKit

theorem Oper.wp_mono2 {P : Program} {o : Oper} {a : Act} {w : World} {K K' : Act → World → Prop} {Q Q' : Exit → Act → World → Prop} (hK : ∀ a w, K a w → K' a w) (hp : ∀ c a w, Q (.panic c) a w → Q' (.panic c) a w)
    (hl : LetsOut Q → LetsOut Q') (h : Oper.wp P o a w K Q) : Oper.wp P o a w K' Q' := by
  unfold Oper.wp at *
  generalize (execOp a.eval o).run P w = r at *
  cases r with
  | ok n w' =>
    cases n <;> simp only [Oper.upon] at h ⊢
    case value u => exact hK _ _ h
    case skip => exact hK _ _ h
    case defer d => exact hK _ _ h
    case enter f args =>
      refine Calls.mono h fun e w'' he => ?_
      cases e with
      | returned u => exact hK _ _ he
      | panicked c => exact hp _ _ _ he
      | outgrown => exact hl he
    case row row args => exact Rows.mono h fun u w'' he => hK _ _ he
  | halt x w' =>
    cases x <;> simp only [Oper.upon] at h ⊢
    case panic u => exact hp _ _ _ h

/-- What may come up now. -/
def rdyGo (listed : List Bool) : Nat → List Oper → List Nat
  | _, [] => []
  | k, o :: os => cond (!(listed.getD k true) && o.after.toList.all fun e => !Region.binds .any e || listed.getD e.on false) (k :: rdyGo listed (k + 1) os) (rdyGo listed (k + 1) os)

theorem mem_rdyGo {listed : List Bool} {j : Nat} : ∀ {k : Nat} {l : List Oper}, j ∈ rdyGo listed k l ↔ k ≤ j ∧ listed.getD j true = false ∧ ∃ o, l[j - k]? = some o ∧ ∀ e ∈ o.after, Region.binds .any e = true → listed.getD e.on false = true
  | k, [] => by simp [rdyGo]
  | k, o :: os => by
    have ih := mem_rdyGo (listed := listed) (j := j) (k := k + 1) (l := os)
    have step : (k + 1 ≤ j ∧ listed.getD j true = false ∧ ∃ o', os[j - (k + 1)]? = some o' ∧ ∀ e ∈ o'.after, Region.binds .any e = true → listed.getD e.on false = true) ↔
        (k ≤ j ∧ j ≠ k ∧ listed.getD j true = false ∧ ∃ o', (o :: os)[j - k]? = some o' ∧ ∀ e ∈ o'.after, Region.binds .any e = true → listed.getD e.on false = true) := by
      constructor
      · rintro ⟨h1, h2, o', h3, h4⟩
        exact ⟨by omega, by omega, h2, o', by rw [show j - k = (j - (k + 1)) + 1 by omega]; exact h3, h4⟩
      · rintro ⟨h1, h0, h2, o', h3, h4⟩
        exact ⟨by omega, h2, o', by rw [show j - k = (j - (k + 1)) + 1 by omega] at h3; exact h3, h4⟩
    have here : (!(listed.getD k true) && o.after.toList.all fun e => !Region.binds .any e || listed.getD e.on false) = true ↔ (listed.getD k true = false ∧ ∀ e ∈ o.after, Region.binds .any e = true → listed.getD e.on false = true) := by
      rw [Bool.and_eq_true, List.all_eq_true]
      constructor
      · rintro ⟨h1, h2⟩
        refine ⟨by simpa using h1, fun e he hb => ?_⟩
        have := h2 e (by simpa using he)
        simpa [hb] using this
      · rintro ⟨h1, h2⟩
        refine ⟨by simpa using h1, fun e he => ?_⟩
        by_cases hb : Region.binds .any e = true
        · rw [h2 e (by simpa using he) hb]; simp
        · simp [hb]
    unfold rdyGo
    cases hc : (!(listed.getD k true) && o.after.toList.all fun e => !Region.binds .any e || listed.getD e.on false) with
    | true =>
      rw [cond_true, List.mem_cons, ih, step]
      have hh := here.1 hc
      constructor
      · rintro (rfl | ⟨h1, _, h2, h3⟩)
        · exact ⟨Nat.le_refl _, hh.1, o, by simp, hh.2⟩
        · exact ⟨h1, h2, h3⟩
      · rintro ⟨h1, h2, h3⟩
        by_cases e : j = k
        · exact .inl e
        · exact .inr ⟨h1, e, h2, h3⟩
    | false =>
      rw [cond_false, ih, step]
      constructor
      · rintro ⟨h1, _, h2, h3⟩; exact ⟨h1, h2, h3⟩
      · rintro ⟨h1, h2, o', h3, h4⟩
        refine ⟨h1, ?_, h2, o', h3, h4⟩
        intro e
        subst e
        simp at h3
        subst h3
        have := here.2 ⟨h2, h4⟩
        rw [hc] at this
        cases this

theorem mem_rdy {l : List Oper} {listed : List Bool} {j : Nat} : j ∈ Region.ready .any l.toArray listed.toArray ↔ j ∈ rdyGo listed 0 l := by
  rw [mem_ready, mem_rdyGo]
  simp [Array.getD_eq_getD_getElem?, List.getD_eq_getElem?_getD]

/-- Whatever order is picked from here on. -/
def AAny (P : Program) (l : List Oper) (fuel : Nat) (listed : List Bool) (K : APost) (env : Env) (os : List AO) : Prop :=
  ∀ base w0 w gs tm, Rel base w gs env os tm → Below base w0 w → ∀ X Rt, wpAny P .any l.toArray (Post base w0 K X Rt) fuel listed.toArray ⟨tm, []⟩ w

/-- Each of these comes up next. -/
def AllOf (P : Program) (l : List Oper) (fuel : Nat) (listed : List Bool) (K : APost) (env : Env) (os : List AO) : List Nat → Prop
  | [] => True
  | i :: is => (∃ o, l[i]? = some o ∧ AOps P .seq l [o] (fun env os => AAny P l fuel (listed.set i true) K env os) env os) ∧ AllOf P l fuel listed K env os is

section
variable {P : Program} {N : APost} {X : Nat → APost} {Rt : APost} {env : Env} {os : List AO} {l : List Oper} {K : APost} {fuel : Nat} {listed : List Bool}

theorem AllOf.get : ∀ {rs : List Nat}, AllOf P l fuel listed K env os rs → ∀ i ∈ rs, ∃ o, l[i]? = some o ∧ AOps P .seq l [o] (fun env os => AAny P l fuel (listed.set i true) K env os) env os
  | [], _, i, h => by cases h
  | j :: rs, h, i, hi => by
    rcases List.mem_cons.1 hi with rfl | hi
    · exact h.1
    · exact AllOf.get h.2 i hi

theorem AllOf.nil : AllOf P l fuel listed K env os [] := trivial
theorem AllOf.cons {i : Nat} {o : Oper} {is : List Nat} (ho : l[i]? = some o) (h : AOps P .seq l [o] (fun env os => AAny P l fuel (listed.set i true) K env os) env os) (hs : AllOf P l fuel listed K env os is) :
    AllOf P l fuel listed K env os (i :: is) := ⟨⟨o, ho, h⟩, hs⟩

theorem AAny.all {i : Nat} {is : List Nat} (hr : rdyGo listed 0 l = i :: is) (h : AllOf P l fuel listed K env os (i :: is)) : AAny P l (fuel + 1) listed K env os := by
  intro base w0 w gs tm hrel hb X Rt
  refine ⟨fun h0 => ?_, fun j hj => ?_⟩
  · have : i ∈ Region.ready .any l.toArray listed.toArray := mem_rdy.2 (by rw [hr]; simp)
    rw [h0] at this; cases this
  · have hj' := mem_rdy.1 hj
    rw [hr] at hj'
    obtain ⟨o, ho, hop⟩ := h.get j hj'
    have := hop base w0 w gs tm hrel hb X Rt
    unfold wpOp
    have ho' : l.toArray[j]? = some o := by simpa using ho
    rw [ho']
    have kk : ∀ a w', Post base w0 (fun env os => AAny P l fuel (listed.set j true) K env os) X Rt .normal a w' → wpAny P .any l.toArray (Post base w0 K X Rt) fuel (listed.toArray.setIfInBounds j true) a w' := by
      rintro a w' ⟨env', os', gs', h1, h2, h3, h4⟩
      have ea : a = ⟨a.tmps, []⟩ := by cases a; simp_all
      rw [ea]
      have := h4 base w0 w' gs' a.tmps h1 h3 X Rt
      rwa [show listed.toArray.setIfInBounds j true = (listed.set j true).toArray from by simp]
    unfold wpList at this
    simp only
    split
    · rename_i hw
      rw [if_pos hw] at this
      rcases this with this | ⟨h1, ⟨a, w', h2⟩⟩
      · exact .inl (Oper.wp_mono2 kk (fun _ _ _ h => (h : False).elim) (fun ⟨_, _, h⟩ => (h : False).elim) this)
      · exact (h2 : False).elim
    · rename_i hw
      rw [if_neg hw] at this
      exact kk _ _ this

theorem AAny.done (hr : rdyGo listed 0 l = []) (h : K env os) : AAny P l fuel listed K env os := by
  intro base w0 w gs tm hrel hb X Rt
  have hr' : Region.ready .any l.toArray listed.toArray = [] := by
    apply List.eq_nil_iff_forall_not_mem.2
    intro j hj
    have := mem_rdy.1 hj
    rw [hr] at this; cases this
  cases fuel with
  | zero => exact ⟨hr', env, os, gs, hrel, rfl, hb, h⟩
  | succ n => exact ⟨fun _ => ⟨env, os, gs, hrel, rfl, hb, h⟩, by rw [hr']; intro j hj; cases hj⟩

/-- What needs no world. -/
def wlessB (o : Oper) : Bool :=
  match o.op with
  | .move _ => true
  | .assign _ => true
  | .pick _ _ _ => true
  | .build _ _ => true
  | .binOp _ _ _ _ _ => true
  | .unOp _ _ _ => true
  | .convert _ _ _ => true
  | .fieldAddr _ _ _ => true
  | .field _ _ _ => true
  | .indexAddr _ _ _ => true
  | .extract _ _ => true
  | .call c => match c.callee with
    | .builtin .len => true
    | .builtin .min => true
    | .builtin .max => true
    | _ => false
  | _ => false
def findW (l : List Oper) : List Nat → Option Nat
  | [] => none
  | i :: is => cond (match l[i]? with | some o => wlessB o | none => false) (some i) (findW l is)

theorem findW_mem {l : List Oper} : ∀ {is : List Nat} {i : Nat}, findW l is = some i → i ∈ is
  | [], _, h => by cases h
  | j :: is, i, h => by
    simp only [findW] at h
    cases hb : (match l[j]? with | some o => wlessB o | none => false) with
    | true => rw [hb] at h; simp at h; simp [h]
    | false => rw [hb] at h; exact List.mem_cons_of_mem _ (findW_mem h)

/-- An operation that needs no world is taken first. -/
theorem AAny.take {i : Nat} {o : Oper} (hi : findW l (rdyGo listed 0 l) = some i) (ho : l[i]? = some o) (hs : Region.noSelect l.toArray = true) (hf : Region.free .any l.toArray listed.toArray i = true)
    (h : AOps P .wless l [o] (fun env os => AAny P l fuel (listed.set i true) K env os) env os) : AAny P l (fuel + 1) listed K env os := by
  intro base w0 w gs tm hrel hb X Rt
  obtain ⟨v, hy, env', os', gs', hk, hd, hr'⟩ := h base w gs tm hrel
  refine wpAny_take (oi := o) (v := v) (by simpa using ho) hs hf ?_ (fun _ _ _ h => h.elim) hy ?_
  · have : i ∈ Region.ready .any l.toArray listed.toArray := mem_rdy.2 (findW_mem hi)
    simpa using this
  · have := hk base w0 w gs' _ hr' hb X Rt
    rw [show listed.toArray.setIfInBounds i true = (listed.set i true).toArray from by simp]
    have e : (⟨(Act.put ⟨tm, []⟩ o.dst v).tmps, []⟩ : Act) = Act.put ⟨tm, []⟩ o.dst v := by
      have : (Act.put ⟨tm, []⟩ o.dst v).defers = [] := hd
      generalize Act.put ⟨tm, []⟩ o.dst v = a at this
      cases a; simp_all
    rw [e] at this
    exact this

/-- A region that draws its order: every order comes to a state that may be seen as (envC, osC). -/
theorem AWp.regionA {id : Nat} (hm : P.follows .mixedOrders = true) {envC : Env} {osC : List AO} {n : Nat} (hn : l.length = n) {listed : List Bool} (hl : List.replicate n false = listed)
    (h : AAny P l n listed (fun e o => Fit e o envC osC ∨ ∃ σ, FitS σ e o envC osC) env os) (hk : N envC osC) : AWp P (.region id l.toArray true) N X Rt env os := by
  intro base w0 w gs tm hr hb
  have hbel : Below w.heap.size w { w with drawn := w.drawn + 1 } := (Below.refl _ _).drew
  refine wp_region_any hm ?_
  have := h base w0 _ gs tm (hr.below hbel) (hb.trans (hbel.mono hr.hb)) X Rt
  rw [← hl] at this
  have e1 : (List.replicate n false).toArray = Array.replicate l.toArray.size false := by simp [hn]
  rw [e1] at this
  have e2 : l.toArray.size = n := by simpa using hn
  rw [e2] at this ⊢
  refine wpAny_monoQ ?_ this
  intro e a w' hq
  cases e with
  | normal =>
    obtain ⟨env', os', gs', r1, r2, r3, hf⟩ := hq
    rcases hf with hf | ⟨σ, hf⟩
    · obtain ⟨gs2, r4⟩ := r1.fit hf
      exact ⟨envC, osC, gs2, r4, r2, r3, hk⟩
    · obtain ⟨gs2, r4⟩ := r1.fits hf
      exact ⟨envC, osC, gs2, r4, r2, r3, hk⟩
  | exit j => exact hq
  | ret => exact hq
  | goto l => exact hq
  | panic ch => exact hq
  | outgrown => exact hq
where
  wpAny_monoQ {P : Program} {ops : Array Oper} {Q Q' : Exit → Act → World → Prop} (hq : ∀ e a w, Q e a w → Q' e a w) : ∀ {fuel : Nat} {listed : Array Bool} {a : Act} {w : World}, wpAny P .any ops Q fuel listed a w → wpAny P .any ops Q' fuel listed a w
    | 0, _, _, _, h => ⟨h.1, hq _ _ _ h.2⟩
    | fuel + 1, _, _, _, h => by
      refine ⟨fun h0 => hq _ _ _ (h.1 h0), fun i hi => ?_⟩
      have := h.2 i hi
      unfold wpOp at this ⊢
      split
      · rename_i ho; rw [ho] at this; exact wpAny_monoQ hq this
      · rename_i o ho
        rw [ho] at this
        simp only at this
        split
        · rename_i hw
          rw [if_pos hw] at this
          rcases this with h1 | ⟨h1, a, w, h2⟩
          · exact .inl (Oper.wp_mono2 (fun _ _ h' => wpAny_monoQ hq h') (fun _ _ _ => hq _ _ _) (fun ⟨a, w, h⟩ => ⟨a, w, hq _ _ _ h⟩) h1)
          · exact .inr ⟨h1, a, w, hq _ _ _ h2⟩
        · rename_i hw
          rw [if_neg hw] at this
          exact wpAny_monoQ hq this

end
end Go.Proofs.Ytifkgmbghcmdeaa
/-
  More rules: parts of own slices as sources, a slice compared with nil, functions that hand back a part of what they are handed. No condition.
-/
namespace Go.Proofs.Ytifkgmbghcmdeaa
open Go Go.RowKit
section
variable {P : Program} {env : Env} {os : List AO} {d : Option Tmp} {ty : TypeId} {pos : String} {af : Array Edge} {g : Option (Nat × Bool)} {wl : Bool}

theorem q_len_osub {t e : TypeId} [ht : TSlice P t e] {x : Operand} {h off n : Nat} (hx : AV.ev env x = .osub h off n) :
    QOp P wl ⟨d, .call { callee := .builtin .len, args := #[x], argTypes := #[t] }, ty, pos, af, g⟩ env os (.i n) :=
  .of_run fun _ w gs tm hr => by
    have hh := hr.ev x
    rw [hx] at hh
    generalize hv : Act.eval ⟨tm, []⟩ x = v at hh
    cases hh with
    | osub h1 h2 h3 h4 =>
      refine ⟨_, .val _, fun w' _ => ?_⟩
      simp [execOp, resolve, invoke, builtin, hv, Builtin.len_, run_underlying ht.und, goInt]

theorem q_idx_osub {t e : TypeId} [ht : TSlice P t e] [he : TCell P e] {x y : Operand} {h off n : Nat} {i : Int} (hx : AV.ev env x = .osub h off n) (hy : AV.ev env y = .i i) (h0 : 0 ≤ i) (h1 : i < n) :
    QOp P wl ⟨d, .indexAddr t x y, ty, pos, af, g⟩ env os (.optr h (off + i.toNat)) :=
  .of_run fun _ w gs tm hr => by
    have hh := hr.ev x
    rw [hx] at hh
    generalize hv : Act.eval ⟨tm, []⟩ x = v at hh
    cases hh with
    | @osub _ _ _ cap p gh hg hp hc hm =>
      have e := hp (by omega)
      subst e
      refine ⟨_, .optr hg, fun w' _ => ?_⟩
      obtain ⟨ie, hi, hs1⟩ := he.info
      have hrun := run_idx ht.und hi hs1 ⟨gh.b, off, none⟩ n cap i h0 h1 w'
      simp only [execOp, hv, hr.evv hy, Sem.run_bind, hrun, add_none, Result.andThen_ok, Sem.run_pure]

theorem q_eqnil {xt yt e : TypeId} [ht : TSlice P xt e] {x : Operand} {xs : List Int} (hx : AV.ev env x = .ints xs) (h1 : 0 < xs.length) :
    QOp P wl ⟨d, .binOp .eql xt x (.const (.slice none 0 0)) yt, ty, pos, af, g⟩ env os (.b false) :=
  .of_run fun _ w gs tm hr => by
    have hh := hr.ev x
    rw [hx] at hh
    generalize hv : Act.eval ⟨tm, []⟩ x = v at hh
    cases hh with
    | ints hxs =>
      obtain ⟨⟨p, cap, e1, _, _, h3⟩, _⟩ := hxs
      obtain ⟨b, off, rfl, _⟩ := h3 (by simp; omega)
      refine ⟨.bool false, .val _, fun w' _ => ?_⟩
      have hrun := Lib.run_eql_slice_nil (P := P) w' xt e (some ⟨b, off, none⟩) (xs.map (Value.int .i64)).length cap 0 0 ht.und
      have hg : eqGuard .eql xt x (.const (.slice none 0 0)) (.slice (some ⟨b, off, none⟩) (xs.map (Value.int .i64)).length cap) (.slice none 0 0) = pure () := by simp [go_sem]
      have hce : Act.eval ⟨tm, []⟩ (.const (.slice none 0 0)) = .slice none 0 0 := rfl
      simp only [execOp, hv, e1, hce, hg, hrun, Sem.run_bind, Sem.run_pure, Result.andThen_ok, Option.isNone_some]
end

section
variable {P : Program} {env : Env} {os : List AO} {d : Tmp} {ty : TypeId} {pos : String} {af : Array Edge} {g : Option (Nat × Bool)} {l rest : List Oper} {K : APost} {q : Md}
theorem w_lenos {t e : TypeId} [TSlice P t e] {x : Operand} {h off n : Nat} (hw : wantedA l env ⟨some d, .call { callee := .builtin .len, args := #[x], argTypes := #[t] }, ty, pos, af, g⟩ = some true) (hx : evo env x = some (.osub h off n)) (h' : AOps P q l rest K (env.up d (.i n)) os) : AOps P q l (⟨some d, .call { callee := .builtin .len, args := #[x], argTypes := #[t] }, ty, pos, af, g⟩ :: rest) K env os := AOps.qo hw (q_len_osub (ev_of hx)) h'
theorem w_idxos {t e : TypeId} [TSlice P t e] [TCell P e] {x y : Operand} {h off n : Nat} {i : Int} (hw : wantedA l env ⟨some d, .indexAddr t x y, ty, pos, af, g⟩ = some true) (hx : evo env x = some (.osub h off n)) (hy : evo env y = some (.i i)) (h0 : 0 ≤ i) (h1 : i < n) (h' : AOps P q l rest K (env.up d (.optr h (off + i.toNat))) os) : AOps P q l (⟨some d, .indexAddr t x y, ty, pos, af, g⟩ :: rest) K env os := AOps.qo hw (q_idx_osub (ev_of hx) (ev_of hy) h0 h1) h'
theorem w_eqnil {xt yt e : TypeId} [TSlice P xt e] {x : Operand} {xs : List Int} (hw : wantedA l env ⟨some d, .binOp .eql xt x (.const (.slice none 0 0)) yt, ty, pos, af, g⟩ = some true) (hx : evo env x = some (.ints xs)) (h1 : 0 < xs.length) (h' : AOps P q l rest K (env.up d (.b false)) os) : AOps P q l (⟨some d, .binOp .eql xt x (.const (.slice none 0 0)) yt, ty, pos, af, g⟩ :: rest) K env os := AOps.qo hw (q_eqnil (ev_of hx) h1) h'
end

/-! ### Functions that hand back a part of what they are handed -/
/-- The function leaves the object 'os' behind the handle 0 as it is, and hands back a part of it: what lies off on, len long. -/
def AFnR (P : Program) (f : FuncId) (args : List AV) (T : TypeId) (xs : List Int) (off len : Nat) : Prop :=
  HasBody P f ∧ ∀ base w gs vs, base ≤ w.heap.size → Objs base w gs [.sli T xs] → vs.size = args.length → (∀ i : Nat, RV w (okOf gs [.sli T xs]) gs (vs.getD i undef) (args.getD i .any)) →
    Calls P f vs w fun e w' => ∃ v, e = .returned v ∧ RV w' (fun _ => True) gs v (.osub 0 off len) ∧ Objs base w' gs [.sli T xs] ∧ Below base w w' ∧ ∀ b, b < w.heap.size → (∀ (h : Nat) g, gs[h]? = some g → b ∉ g.bl) → w'.heap[b]? = w.heap[b]?
theorem AFnR.of {P : Program} {f : FuncId} {fn : Func} {c : Code} {args : List AV} {T : TypeId} {xs : List Int} {off len : Nat} {n : Nat} (hf : P.funcs[f]? = some fn) (hb : fn.body = some c) (hnm : (fn.name == "runtime.NumGoroutine") = false) (hn : fn.ntmps - args.length = n)
    (h : ∀ K, AWp P c (fun _ _ => False) (fun _ _ _ => False) (fun env os1 => ResIs P fn env os1 (.osub 0 off len) ∧ os1.take 1 = [.sli T xs] ∧ os1[1]? = some (.keep 2 K)) (Env.start args n) [.sli T xs, .keep 2 K]) :
    AFnR P f args T xs off len := by
  obtain ⟨os, hos⟩ : ∃ os : List AO, os = [.sli T xs] := ⟨_, rfl⟩
  have h' : ∀ K, AWp P c (fun _ _ => False) (fun _ _ _ => False) (fun env os1 => ResIs P fn env os1 (.osub 0 off len) ∧ os1.take os.length = os ∧ os1[os.length]? = some (.keep (os.length + 1) K) ∧ ∀ o ∈ os, o.plain) (Env.start args n) (os ++ [.keep (os.length + 1) K]) := by
    subst hos
    exact fun K => (h K).mono (fun _ _ e => e) (fun _ _ _ e => e) fun _ _ ⟨e1, e2, e3⟩ => ⟨e1, e2, e3, by intro o ho; simp at ho; subst ho; trivial⟩
  unfold AFnR
  rw [← hos]
  refine ⟨⟨fn, c, hf, hnm, hb⟩, fun base w gs vs hbase hO hsz hvs => calls_of_wp hf hb ?_⟩
  rw [show fn.ntmps - vs.size = n by rw [hsz]; exact hn]
  let bl : List Nat := (List.range w.heap.size).filter fun b => decide (base ≤ b) && gs.all fun g => !g.bl.contains b
  let gk : Gh := ⟨undef, 0, bl, []⟩
  let K : Kp := ⟨fun b => w.heap[b]?, gs ++ [gk]⟩
  have hbl : ∀ b, b ∈ bl ↔ b < w.heap.size ∧ base ≤ b ∧ ∀ (h : Nat) g, gs[h]? = some g → b ∉ g.bl := by
    intro b
    simp only [bl, List.mem_filter, List.mem_range, Bool.and_eq_true, decide_eq_true_eq, List.all_eq_true, Bool.not_eq_true', List.contains_eq_mem, decide_eq_false_iff_not]
    constructor
    · rintro ⟨h1, h2, h3⟩
      exact ⟨h1, h2, fun h g hg => h3 g (List.mem_of_getElem? hg)⟩
    · rintro ⟨h1, h2, h3⟩
      exact ⟨h1, h2, fun g hg => by obtain ⟨i, hi⟩ := List.getElem?_of_mem hg; exact h3 i g hi⟩
  have hl := hO.hl
  have part : ∀ {i : Nat} {x : Gh} {y : AO}, (gs ++ [gk])[i]? = some x → (os ++ [.keep (os.length + 1) K])[i]? = some y → (gs[i]? = some x ∧ os[i]? = some y) ∨ (i = os.length ∧ x = gk ∧ y = .keep (os.length + 1) K) := by
    intro i x y hx hy
    rcases append_one hx with ⟨h1, h2⟩ | ⟨h1, rfl⟩
    · rcases append_one hy with ⟨h3, h4⟩ | ⟨h3, rfl⟩
      · exact .inl ⟨h2, h4⟩
      · omega
    · rcases append_one hy with ⟨h3, h4⟩ | ⟨h3, rfl⟩
      · omega
      · exact .inr ⟨h3, rfl, rfl⟩
  have gl : ∀ (i : Nat) x, gs[i]? = some x → (gs ++ [gk])[i]? = some x := fun i x e => by
    rw [List.getElem?_append_left (List.getElem?_eq_some_iff.1 e).1]; exact e
  have kp : Keeps (okOf gs os) (okOf (gs ++ [gk]) (os ++ [.keep (os.length + 1) K])) w w := by
    intro b hbk _
    refine ⟨fun i x y hx hy hny hm => ?_, rfl⟩
    rcases part hx hy with ⟨h1, h2⟩ | ⟨_, _, rfl⟩
    · exact hbk i x y h1 h2 hny hm
    · exact hny.elim
  have hrel : Rel base w (gs ++ [gk]) (Env.start args n) (os ++ [.keep (os.length + 1) K]) (vs ++ Array.replicate n undef) := by
    refine ⟨hbase, by simp [hl], by simp [Env.start, hsz], fun i => ?_, ?_, ?_, ?_⟩
    · exact start_rv args n vs (fun i => (hvs i).mono kp gl) i
    · intro i x y hx hy
      rcases part hx hy with ⟨h1, h2⟩ | ⟨_, rfl, rfl⟩
      · exact (hO.hp y (List.mem_of_getElem? h2)).ro (hO.ho i x y h1 h2)
      · exact ⟨fun b _ => rfl, by simp [K, hl], fun i x h => h⟩
    · intro i j g1 g2 o1 o2 hij hg1 hg2 ho1 ho2 _ _ b hb1 hb2
      rcases part hg1 ho1 with ⟨a1, a2⟩ | ⟨a1, rfl, _⟩
      · rcases part hg2 ho2 with ⟨b1, b2⟩ | ⟨_, rfl, _⟩
        · exact hO.hd i j g1 g2 hij a1 b1 b hb1 hb2
        · exact ((hbl b).1 hb2).2.2 i g1 a1 hb1
      · rcases part hg2 ho2 with ⟨b1, b2⟩ | ⟨b1, _, _⟩
        · exact ((hbl b).1 hb1).2.2 j g2 b1 hb2
        · omega
    · intro i x y hx hy _ b hb
      rcases part hx hy with ⟨h1, h2⟩ | ⟨_, rfl, _⟩
      · exact hO.hn i x h1 b hb
      · exact ⟨((hbl b).1 hb).2.1, ((hbl b).1 hb).1⟩
  refine wp_mono (h' K base w w _ _ hrel (Below.refl _ _)) ?_
  intro e a w' hq
  cases e with
  | normal => obtain ⟨_, _, _, _, _, _, hx⟩ := hq; exact hx.elim
  | exit j => obtain ⟨_, _, _, _, _, _, hx⟩ := hq; exact hx.elim
  | ret =>
    obtain ⟨env, os1, gs1, hr, hd, hbel, h1, h3, h4, h5⟩ := hq
    obtain ⟨v, hu, hv⟩ := h1 _ _ _ _ hr
    have hlt : os.length < os1.length := (List.getElem?_eq_some_iff.1 h4).1
    have hltg : os.length < gs1.length := by have := hr.hl; omega
    obtain ⟨g1, hg1⟩ : ∃ g1, gs1[os.length]? = some g1 := ⟨_, List.getElem?_eq_getElem hltg⟩
    obtain ⟨r1, r2, r3⟩ := hr.ho _ _ _ hg1 h4
    have pin : ∀ (i : Nat) x, gs[i]? = some x → gs1[i]? = some x := fun i x e => r3 i x (gl i x e)
    have egk : g1 = gk := by
      have := r3 os.length gk (by show (gs ++ [gk])[os.length]? = some gk; rw [← hl]; simp)
      rw [hg1] at this
      exact Option.some.inj this
    rw [egk] at r1
    have get' : ∀ {i : Nat} {y : AO}, os[i]? = some y → os1[i]? = some y ∧ i < os.length := by
      intro i y hy
      rw [← h3, List.getElem?_take] at hy
      split at hy
      · exact ⟨hy, ‹_›⟩
      · cases hy
    refine ⟨hd, v, hu, v, rfl, ?_, ⟨hO.hl, h5, ?_, hO.hd, ?_⟩, hbel, ?_⟩
    · cases hv with
      | @osub _ _ _ cap p g0 hg hp hc hm =>
        have hlt0 : 0 < gs.length := by rw [hl, hos]; simp
        have e0 := pin 0 _ (List.getElem?_eq_getElem hlt0)
        rw [hg] at e0
        cases e0
        exact .osub (List.getElem?_eq_getElem hlt0) hp hc hm
    · intro i x y hx hy
      obtain ⟨h6, h7⟩ := get' hy
      exact (h5 y (List.mem_of_getElem? hy)).ro (hr.ho i x y (pin i x hx) h6)
    · intro i x hx b hb
      have := hO.hn i x hx b hb
      exact ⟨this.1, Nat.lt_of_lt_of_le this.2 hbel.size⟩
    · intro b hb hnot
      rcases Nat.lt_or_ge b base with h6 | h6
      · exact hbel.block b h6
      · exact r1 b ((hbl b).2 ⟨hb, h6, hnot⟩)
  | goto l => exact (hq : False).elim
  | panic ch => exact (hq : False).elim
  | outgrown => exact (hq : False).elim


theorem AFnR.start {P : Program} {f : FuncId} {fn : Func} {nt : Nat} {args : List AV} {T : TypeId} {xs : List Int} {off len : Nat} (hf : P.funcs[f]? = some fn) (hnt : fn.ntmps = nt) {c : Code} (hb : fn.body = some c) (hnm : (fn.name == "runtime.NumGoroutine") = false)
    (h : ∀ K, AWp P c (fun _ _ => False) (fun _ _ _ => False) (fun env os1 => ResIs P fn env os1 (.osub 0 off len) ∧ os1.take 1 = [.sli T xs] ∧ os1[1]? = some (.keep 2 K)) (Env.start args (nt - args.length)) [.sli T xs, .keep 2 K]) :
    AFnR P f args T xs off len := AFnR.of hf hb hnm (by rw [hnt]) h

section
variable {P : Program} {env : Env} {os : List AO} {d : Tmp} {ty : TypeId} {pos : String} {af : Array Edge} {l rest : List Oper} {K : APost}
end
end Go.Proofs.Ytifkgmbghcmdeaa
/-
  Rows that go into own slices by append; literal slices of rows. No condition.
-/
namespace Go.Proofs.Ytifkgmbghcmdeaa
open Go Go.RowKit

/-- The slice 'k' is now the row j of 'p'; what names p's own value or block is lost. -/
def AV.rin1 (k p j : Nat) : AV → AV
  | .own i => if i = k then .orow p j else if i = p then .any else .own i
  | .optr i n => if i = p then .any else .optr i n
  | .osub i a b => if i = p then .any else .osub i a b
  | .agg _ => .any
  | .tup _ => .any
  | a => a
def AV.rin (k p j : Nat) : AV → AV
  | .own i => if i = k then .orow p j else if i = p then .any else .own i
  | .optr i n => if i = p then .any else .optr i n
  | .osub i a b => if i = p then .any else .osub i a b
  | .agg l => .agg (l.map (AV.rin1 k p j))
  | .tup l => .tup (l.map (AV.rin1 k p j))
  | a => a

section
variable {w w' : World} {ok ok' : Nat → Prop} {gs gs' : List Gh} {p k j : Nat} {gk g' : Gh}

structure RowIn (p k j : Nat) (gs gs' : List Gh) : Prop where
  other : ∀ (i : Nat) g, i ≠ p → gs[i]? = some g → gs'[i]? = some g
  rows : ∀ g, gs[p]? = some g → ∃ g', gs'[p]? = some g' ∧ ∀ (i : Nat) v, g.rows[i]? = some v → g'.rows[i]? = some v
  row : ∀ gk, gs[k]? = some gk → ∃ g', gs'[p]? = some g' ∧ g'.rows[j]? = some gk.v

theorem RV.rin1 (kp : Keeps ok ok' w w') (s : RowIn p k j gs gs') {v : Value} {a : AV} (hv : RV w ok gs v a) : RV w' ok' gs' v (a.rin1 k p j) := by
  cases hv with
  | any v => exact .any v
  | val v => exact .val v
  | ints h => exact .ints (h.mono kp)
  | intss h => exact .intss (h.mono kp)
  | @ro v r h => exact .ro (r.up kp h)
  | iptr h h1 h2 => exact .iptr (h.mono kp) h1 h2
  | iiptr h h1 h2 => exact .iiptr (h.mono kp) h1 h2
  | @own i g h1 =>
    simp only [AV.rin1]; split
    · subst_vars
      obtain ⟨g', a1, a2⟩ := s.row _ h1
      exact .orow a1 a2
    · split
      · exact .any _
      · exact .own (s.other _ _ ‹_› h1)
  | optr h1 =>
    simp only [AV.rin1]; split
    · exact .any _
    · exact .optr (s.other _ _ ‹_› h1)
  | osub h1 h2 h3 h4 =>
    simp only [AV.rin1]; split
    · exact .any _
    · exact .osub (s.other _ _ ‹_› h1) h2 h3 h4
  | @orow h i g v h1 h2 =>
    by_cases e : h = p
    · subst e
      obtain ⟨g', a1, a2⟩ := s.rows _ h1
      exact .orow a1 (a2 _ _ h2)
    · exact .orow (s.other _ _ e h1) h2
  | @orptr h i n blk m c g h1 h2 =>
    by_cases e : h = p
    · subst e
      obtain ⟨g', a1, a2⟩ := s.rows _ h1
      exact .orptr a1 (a2 _ _ h2)
    · exact .orptr (s.other _ _ e h1) h2
  | agg _ _ _ => exact .any _
  | tup _ _ => exact .any _

theorem RV.rin (kp : Keeps ok ok' w w') (s : RowIn p k j gs gs') {v : Value} {a : AV} (hv : RV w ok gs v a) : RV w' ok' gs' v (a.rin k p j) := by
  cases hv with
  | any v => exact .any v
  | val v => exact .val v
  | ints h => exact .ints (h.mono kp)
  | intss h => exact .intss (h.mono kp)
  | @ro v r h => exact .ro (r.up kp h)
  | iptr h h1 h2 => exact .iptr (h.mono kp) h1 h2
  | iiptr h h1 h2 => exact .iiptr (h.mono kp) h1 h2
  | @own i g h1 => exact RV.rin1 kp s (.own h1)
  | optr h1 => exact RV.rin1 kp s (.optr h1)
  | osub h1 h2 h3 h4 => exact RV.rin1 kp s (.osub h1 h2 h3 h4)
  | orow h1 h2 => exact RV.rin1 kp s (.orow h1 h2)
  | orptr h1 h2 => exact RV.rin1 kp s (.orptr h1 h2)
  | agg h1 h3 h2 => exact .agg (by simpa using h1) h3 fun i => by rw [getD_map_f _ rfl]; exact (h2 i).rin1 kp s
  | tup h1 h2 => exact .tup (by simpa using h1) fun i => by rw [getD_map_f _ rfl]; exact (h2 i).rin1 kp s
end

section
variable {P : Program} {env : Env} {os : List AO} {d : Option Tmp} {ty : TypeId} {pos : String} {af : Array Edge} {g : Option (Nat × Bool)}

/-- An empty slice of rows. -/
theorem l_bsr0 {t e e2 : TypeId} {bytes : Nat} [ht : TSlice P t e] [he : TElem P e (.slice none 0 0) bytes] [TSlice P e e2] : LOp P ⟨d, .buildSlice t 0 #[], ty, pos, af, g⟩ env os (.own os.length) env (os ++ [.sls e e2 []]) := by
  refine l_new fun base w gs tm hr => ?_
  obtain ⟨ii, hi, hs, hz, hby⟩ := he.info
  refine ⟨w.alloc (.cells #[] e), ⟨.slice (some ⟨w.heap.size, 0, none⟩) 0 0, w.heap.size, [w.heap.size], []⟩, ?_, below_alloc w _, fun b hb => by simp at hb; simp [hb], fun ok gs' => ?_⟩
  · simp [execOp, Instr.buildSlice, run_underlying ht.und, sizeOf, typeInfo, hi, Instr.fill, newRow, ar0]
  · refine ⟨[], [], [w.heap.size], ⟨by simp, .inr ⟨w.heap.size, 0, _, rfl, hr.hb, heap_alloc_new w _, Nat.le_refl _, by simp [maxLen], by simp, by simp⟩⟩, rfl, rfl, rfl, fun i u hu => (by cases hu), .inr ⟨rfl, rfl⟩, by simp, by simp⟩

/-- A literal slice of one row: a block whose cell names the row. -/
theorem l_bsr1 {t e : TypeId} {bytes : Nat} [ht : TSlice P t e] [he : TElem P e (.slice none 0 0) bytes] {x : Operand} {k : Nat} {e3 : TypeId} {ys : List Int} (hx : AV.ev env x = .own k) (hk : os[k]? = some (.sli e3 ys)) :
    LOp P ⟨d, .buildSlice t 1 #[(0, x)], ty, pos, af, g⟩ env os (.osub os.length 0 1) env (os ++ [.bx e [.own k]]) := by
  intro base w gs tm hr
  have hxv := hr.ev x
  rw [hx] at hxv
  generalize hv : Act.eval ⟨tm, []⟩ x = v at hxv
  cases hxv with
  | @own _ gk hgk =>
    obtain ⟨b1, b2, b3⟩ := hr.ho _ _ _ hgk hk
    obtain ⟨ua, uc, eu⟩ := ownsRow_slice b1
    obtain ⟨ii, hi, hs, hz, hby⟩ := he.info
    have hbel := below_alloc w (.cells [gk.v].toArray e)
    have hlt : w.heap.size < (w.alloc (.cells [gk.v].toArray e)).heap.size := by simp
    have hno : AO.bx e [.own k] ≠ .dead → ∀ b, b ∈ [w.heap.size] → w.heap.size ≤ b ∧ b < (w.alloc (.cells [gk.v].toArray e)).heap.size := fun _ b hb => by simp at hb; omega
    let gn : Gh := ⟨.pointer (some ⟨w.heap.size, 0, none⟩), w.heap.size, [w.heap.size], []⟩
    have hgs : ∀ (i : Nat) g', gs[i]? = some g' → (gs ++ [gn])[i]? = some g' := fun i g' e => by
      rw [List.getElem?_append_left (List.getElem?_eq_some_iff.1 e).1]; exact e
    refine ⟨.slice (some ⟨w.heap.size, 0, none⟩) 1 1, _, gs ++ [gn], .inl ?_, hr.new hbel _ _ hno ?_, ?_, hbel.mono hr.hb⟩
    · simp [execOp, Instr.buildSlice, run_underlying ht.und, sizeOf, typeInfo, zeroValue, hi, hs, hz, Instr.fill, newRow, hv, eu, Value.cells, ar1]
    · refine ⟨[gk.v], heap_alloc_new w _, hr.hb, rfl, rfl, rfl, ?_, fun i => ?_⟩
      · intro c hc; simp at hc; subst hc; rw [eu]; rfl
      · match i with
        | 0 => exact .own (hgs _ _ hgk)
        | i + 1 => exact .any _
    · have := RV.osub (w := w.alloc (.cells [gk.v].toArray e)) (ok := okOf (gs ++ [gn]) (os ++ [.bx e [.own k]])) (off := 0) (len := 1) (cap := 1) (p := some ⟨w.heap.size, 0, none⟩) (len_new (gs := gs) (g := gn)) (fun _ => rfl) (Nat.le_refl _) (by simp [maxLen])
      rw [hr.hl] at this
      exact this

theorem nodup_rows {m m' fl c : List Nat} (h : (m ++ fl).Nodup) (hm : m'.Nodup) (hmm : ∀ b, b ∈ m' → b ∉ fl ∧ b ∉ c) (hc : c.Nodup) (hd : ∀ b, b ∈ c → b ∉ m ++ fl) : (m' ++ (fl ++ c)).Nodup := by
  simp only [List.nodup_append, List.mem_append] at *
  obtain ⟨h1, h2, h3⟩ := h
  refine ⟨hm, ⟨h2, hc, ?_⟩, ?_⟩
  · intro a ha b hb e
    subst e
    exact hd a hb (.inr ha)
  · intro a ha b hb e
    subst e
    rcases hb with hb | hb
    · exact (hmm a ha).1 hb
    · exact (hmm a ha).2 hb

set_option maxHeartbeats 1000000 in
/-- One row is appended. -/
theorem l_append_row {t e e3 : TypeId} {bytes : Nat} [ht : TSlice P t e] [he : TElem P e (.slice none 0 0) bytes] {x y : Operand} {h m k : Nat} {e' e2 T : TypeId} {xss : List (List Int)} {ys : List Int}
    (hx : AV.ev env x = .own h) (hs : os[h]? = some (.sls e' e2 xss)) (hee : e' = e) (hy : AV.ev env y = .osub m 0 1) (hm : os[m]? = some (.bx T [.own k])) (hk : os[k]? = some (.sli e3 ys)) (he3 : e3 = e2)
    (hb : (xss.length + 1) * bytes ≤ 140737488355328) :
    LOp P ⟨d, .call { callee := .builtin .append, args := #[x, y], argTypes := #[t, t] }, ty, pos, af, g⟩ env os (.own h) (env.mp (AV.rin k h xss.length)) (((os.map (AO.via (AV.rin k h xss.length) h)).set h (.sls e e2 (xss ++ [ys]))).set k .dead) := by
  subst hee
  subst he3
  intro base w gs tm hr
  have hxv := hr.ev x
  rw [hx] at hxv
  have hyv := hr.ev y
  rw [hy] at hyv
  generalize hv : Act.eval ⟨tm, []⟩ x = v at hxv
  generalize hu : Act.eval ⟨tm, []⟩ y = u at hyv
  have hne : h ≠ k := fun e => by subst e; rw [hs] at hk; cases hk
  cases hxv with
  | @own _ gh hg =>
  cases hyv with
  | @osub _ _ _ cap pa gm hgm hp hc hcm =>
    have epa := hp (by omega)
    subst epa
    obtain ⟨cs, m1, m2, m3, m4, m5, m6, m7⟩ := hr.ho _ _ _ hgm hm
    have hcs := m7 0
    simp only [List.getD_cons_zero] at hcs
    obtain ⟨c0, rfl⟩ : ∃ c0, cs = [c0] := by
      match cs, m5 with
      | [c0], _ => exact ⟨c0, rfl⟩
    simp only [List.getD_cons_zero] at hcs
    cases hcs with
    | @own _ gk hgk =>
    obtain ⟨vs, bs, mb, a1, a2, a3, a4, a5, a6, a7, a8⟩ := hr.ho _ _ _ hg hs
    obtain ⟨b1, b2, b3⟩ := hr.ho _ _ _ hgk hk
    obtain ⟨ua, uc, eu⟩ := ownsRow_slice b1
    obtain ⟨ii, hi, hsz, hz, hby⟩ := he.info
    have h64 : vs.length + 1 ≤ maxLen := by
      have := he.pos
      have : xss.length + 1 ≤ (xss.length + 1) * bytes := Nat.le_mul_of_pos_right _ this
      simp only [maxLen]; omega
    obtain ⟨v', w', r1, r2, r3, r4, r5⟩ := run_append_own_at (P := P) w base t ty e' ii _ 1 bytes ht.und hi hz hsz hby rfl (by omega) gh.v vs.length vs a1 ⟨gm.b, 0, none⟩ 1 cap [gk.v] (by simp)
      (fun j u hj => by
        have hj0 : j = 0 := by have := (List.getElem?_eq_some_iff.1 hj).1; simp at this; exact this
        subst hj0
        rw [add_none, cell_of_row w _ _ _ _ (0, 0) m1]
        simpa using hj)
      (fun u hu => by simp at hu; subst hu; rw [eu]; rfl) h64 (by rw [a2]; exact hb) hr.hb
    have emb : gh.v.ownBlock.toList = mb := by
      rcases a6 with ⟨c1, c2⟩ | ⟨c1, c2⟩
      · rw [c1, c2]; rfl
      · rw [c1, c2]; rfl
    have hgb : ∀ b, b ∉ gh.bl → some b ≠ gh.v.ownBlock := fun b hb e => hb (by rw [a7, ← emb, ← e]; simp)
    have hnotmb : ∀ b, b ∉ mb → some b ≠ gh.v.ownBlock := fun b hb e => hb (by rw [← emb, ← e]; simp)
    have hdis : ∀ c, c ∈ gk.bl → c ∉ gh.bl := hr.hd k h gk gh _ _ (fun e => hne e.symm) hgk hg hk hs (by simp) (by simp)
    have hlt : ∀ b, v'.ownBlock = some b → b < w'.heap.size := by
      intro b hb
      rcases r2.2 with ⟨e1, _⟩ | ⟨gg, cc, cur, e1, _, hgg, _⟩
      · rw [e1] at hb; cases hb
      · rw [e1] at hb; cases hb; exact (Array.getElem?_eq_some_iff.1 hgg).1
    have hhg : h < gs.length := (List.getElem?_eq_some_iff.1 hg).1
    have hbl0 : ∀ b, b ∈ gh.bl → b < w.heap.size := fun b hb => (hr.hn _ _ _ hg hs (by simp) b hb).2
    have hblk : ∀ b, b ∈ gk.bl → b < w.heap.size := fun b hb => (hr.hn _ _ _ hgk hk (by simp) b hb).2
    let g' : Gh := ⟨v', v'.ownBlock.getD 0, v'.ownBlock.toList ++ (bs ++ [gk.bl]).flatten, vs ++ [gk.v]⟩
    have efl : (bs ++ [gk.bl]).flatten = bs.flatten ++ gk.bl := by simp
    have hv'b : ∀ b, b ∈ v'.ownBlock.toList → v'.ownBlock = some b := fun b hb => by
      cases hvb : v'.ownBlock with
      | none => rw [hvb] at hb; simp at hb
      | some c => rw [hvb] at hb; simp at hb; rw [hb]
    have sv : RowIn h k xss.length gs (gs.set h g') := by
      refine ⟨fun j z hj hz => ?_, fun z hz => ⟨g', by simp [hhg], fun i u hiu => ?_⟩, fun z hz => ⟨g', by simp [hhg], ?_⟩⟩
      · rw [List.getElem?_set, if_neg (fun e => hj e.symm)]; exact hz
      · rw [hg] at hz; cases hz
        rw [a4] at hiu
        show (vs ++ [gk.v])[i]? = some u
        rw [List.getElem?_append_left (List.getElem?_eq_some_iff.1 hiu).1]; exact hiu
      · rw [hgk] at hz; cases hz
        show (vs ++ [gk.v])[xss.length]? = some gk.v
        rw [← a2]; simp
    -- a row's block is none of the outer one's
    have rowblk : ∀ (j : Nat) u, vs[j]? = some u → ∀ c, u.ownBlock = some c → c ∈ bs.flatten := by
      intro j u hj c hc
      have hjb : j < bs.length := by
        have := (List.getElem?_eq_some_iff.1 hj).1
        omega
      exact List.mem_flatten.2 ⟨bs.getD j [], by rw [List.getD_eq_getElem?_getD, List.getElem?_eq_getElem hjb]; simp, by rw [← (a5 j u hj).2.2, hc]; simp⟩
    have a8' : (mb ++ bs.flatten).Nodup := by rw [← a7]; exact a8
    have mbfl : ∀ b, b ∈ mb → b ∉ bs.flatten := fun b hb hb2 => (List.nodup_append.1 a8').2.2 b hb b hb2 rfl
    have keep : ∀ c, c < w.heap.size → c ∉ mb → w'.heap[c]? = w.heap[c]? := fun c hc hcm => r3.block c hc (hnotmb c hcm)
    refine ⟨v', w', gs.set h g', .inl ?_, hr.absorb hg hs trivial hgk hk trivial hne g' _ (AV.rin k h xss.length) rfl (fun b hb hn => r3.block b hb (hgb b hn)) r3.size ?_ (fun kp hv => hv.rin kp sv) ?_, ?_, ?_⟩
    · have r1' := r1
      simp only [execOp, resolve, invoke, builtin, Sem.run_bind, Sem.run_pure, Result.andThen_ok, List.map_toArray, List.map_cons, List.map_nil, hv, hu, r1']
    · intro b hb
      rcases List.mem_append.1 hb with hb | hb
      · have hb' := hv'b b hb
        refine ⟨?_, hlt b hb'⟩
        rcases r5 with r5 | r5
        · left
          rw [hb'] at r5
          exact Classical.byContradiction fun hn => hgb b hn r5
        · right; right
          rw [hb'] at r5; cases r5; exact Nat.le_refl _
      · rw [efl] at hb
        rcases List.mem_append.1 hb with hb | hb
        · have : b ∈ gh.bl := by rw [a7]; exact List.mem_append.2 (.inr hb)
          exact ⟨.inl this, Nat.lt_of_lt_of_le (hbl0 b this) r3.size⟩
        · exact ⟨.inr (.inl hb), Nat.lt_of_lt_of_le (hblk b hb) r3.size⟩
    · intro kp
      refine ⟨vs ++ [gk.v], bs ++ [gk.bl], v'.ownBlock.toList, ?_, by simp [a2], by simp [a3], rfl, fun j u hj => ?_, ?_, rfl, ?_⟩
      · simpa using r2
      · rw [List.getElem?_append] at hj
        split at hj
        · rename_i hjl
          obtain ⟨q1, q2, q3⟩ := a5 j u hj
          have g1 : (xss ++ [ys]).getD j [] = xss.getD j [] := by
            simp only [List.getD_eq_getElem?_getD]; rw [List.getElem?_append_left (by omega)]
          have g2 : (bs ++ [gk.bl]).getD j [] = bs.getD j [] := by
            simp only [List.getD_eq_getElem?_getD]; rw [List.getElem?_append_left (by omega)]
          rw [g1, g2]
          refine ⟨ownsRow_of_block q1 fun c hc => ?_, q2, q3⟩
          have hcf := rowblk j u hj c hc
          exact keep c (hbl0 c (by rw [a7]; exact List.mem_append.2 (.inr hcf))) fun hm => mbfl c hm hcf
        · rename_i hjl
          have hj0 : j = vs.length := by
            have := (List.getElem?_eq_some_iff.1 hj).1
            simp at this; omega
          subst hj0
          simp at hj
          subst hj
          have g1 : (xss ++ [ys]).getD vs.length [] = ys := by rw [a2]; simp [List.getD_eq_getElem?_getD]
          have g2 : (bs ++ [gk.bl]).getD vs.length [] = gk.bl := by rw [a2, ← a3]; simp [List.getD_eq_getElem?_getD]
          rw [g1, g2]
          refine ⟨ownsRow_of_block b1 fun c hc => ?_, b2, b3.list⟩
          have hcm := b3.mem hc
          exact keep c (hblk c hcm) fun hm => hdis c hcm (by rw [a7]; exact List.mem_append.2 (.inl hm))
      · show (v'.ownBlock = none ∧ v'.ownBlock.toList = []) ∨ (v'.ownBlock = some (v'.ownBlock.getD 0) ∧ v'.ownBlock.toList = [v'.ownBlock.getD 0])
        cases v'.ownBlock with
        | none => exact .inl ⟨rfl, rfl⟩
        | some b => exact .inr ⟨rfl, rfl⟩
      · show (v'.ownBlock.toList ++ (bs ++ [gk.bl]).flatten).Nodup
        rw [efl]
        refine nodup_rows a8' ?_ ?_ b3.nodup (fun b hb => by rw [← a7]; exact hdis b hb)
        · cases v'.ownBlock <;> simp
        · intro b hb
          have hb' := hv'b b hb
          rcases r5 with r5 | r5
          · rw [hb'] at r5
            have hm : b ∈ mb := by rw [← emb, ← r5]; simp
            exact ⟨mbfl b hm, fun hc => hdis b hc (by rw [a7]; exact List.mem_append.2 (.inl hm))⟩
          · rw [hb'] at r5
            cases r5
            refine ⟨fun hc => ?_, fun hc => ?_⟩
            · have := hbl0 w.heap.size (by rw [a7]; exact List.mem_append.2 (.inr hc)); omega
            · have := hblk w.heap.size hc; omega
    · exact RV.own (g := g') (by simp [hhg])
    · refine ⟨r3.os, r3.tape, r3.output, r3.size, fun b hb => r3.block b (by have := hr.hb; omega) (hgb b fun hm => ?_)⟩
      have := (hr.hn _ _ _ hg hs (by simp) b hm).1
      omega
end

section
variable {P : Program} {env : Env} {os : List AO} {d : Tmp} {ty : TypeId} {pos : String} {af : Array Edge} {l rest : List Oper} {K : APost}
theorem w_bsr0 {t e e2 : TypeId} {bytes : Nat} [TSlice P t e] [TElem P e (.slice none 0 0) bytes] [TSlice P e e2] {m : Nat} (hm : os.length = m) (h' : AOps P .seq l rest K (env.up d (.own m)) (os ++ [.sls e e2 []])) :
    AOps P .seq l (⟨some d, .buildSlice t 0 #[], ty, pos, af, none⟩ :: rest) K env os := AOps.lo (hm ▸ l_bsr0) h'
theorem w_bsr1 {t e e3 : TypeId} {bytes : Nat} [TSlice P t e] [TElem P e (.slice none 0 0) bytes] {x : Operand} {k m : Nat} {ys : List Int} (hx : evo env x = some (.own k)) (hk : os[k]? = some (.sli e3 ys)) (hm : os.length = m)
    (h' : AOps P .seq l rest K (env.up d (.osub m 0 1)) (os ++ [.bx e [.own k]])) :
    AOps P .seq l (⟨some d, .buildSlice t 1 #[(0, x)], ty, pos, af, none⟩ :: rest) K env os := AOps.lo (hm ▸ l_bsr1 (ev_of hx) hk) h'
theorem w_appr {t e e3 : TypeId} {bytes : Nat} [TSlice P t e] [TElem P e (.slice none 0 0) bytes] {x y : Operand} {h m k : Nat} {e' e2 T : TypeId} {xss : List (List Int)} {ys : List Int}
    (hx : evo env x = some (.own h)) (hs : os[h]? = some (.sls e' e2 xss)) (hee : e' = e) (hy : evo env y = some (.osub m 0 1)) (hm : os[m]? = some (.bx T [.own k])) (hk : os[k]? = some (.sli e3 ys)) (he3 : e3 = e2)
    (hb : (xss.length + 1) * bytes ≤ 140737488355328) (h' : AOps P .seq l rest K (Env.up (env.mp (AV.rin k h xss.length)) d (.own h)) (((os.map (AO.via (AV.rin k h xss.length) h)).set h (.sls e e2 (xss ++ [ys]))).set k .dead)) :
    AOps P .seq l (⟨some d, .call { callee := .builtin .append, args := #[x, y], argTypes := #[t, t] }, ty, pos, af, none⟩ :: rest) K env os :=
  AOps.lo (l_append_row (ev_of hx) hs hee (ev_of hy) hm hk he3 hb) h'
end
end Go.Proofs.Ytifkgmbghcmdeaa
/-
  Own slices whose cells are rows of another own slice: literal ones, appends, cuts; the two made one. No condition.
-/
namespace Go.Proofs.Ytifkgmbghcmdeaa
open Go Go.RowKit

section
variable {P : Program} {env : Env} {os : List AO} {d : Option Tmp} {ty : TypeId} {pos : String} {af : Array Edge} {g : Option (Nat × Bool)}

end

section
variable {P : Program} {env : Env} {os : List AO} {d : Tmp} {ty : TypeId} {pos : String} {af : Array Edge} {l rest : List Oper} {K : APost}
end
end Go.Proofs.Ytifkgmbghcmdeaa
/-
  Own slices put together out of rows of another one and of one more row; functions that are handed an own slice of rows and hand one back in its place. No condition.
-/
namespace Go.Proofs.Ytifkgmbghcmdeaa
open Go Go.RowKit

/-- A state may be seen as another one. -/
def Turns (env : Env) (os : List AO) (env' : Env) (os' : List AO) : Prop := ∀ base w gs tm, Rel base w gs env os tm → ∃ gs', Rel base w gs' env' os' tm
theorem Turns.refl {env : Env} {os : List AO} : Turns env os env os := fun _ _ gs _ h => ⟨gs, h⟩
end Go.Proofs.Ytifkgmbghcmdeaa
/-
  Own slices of rows put together: parts of own slices of rows, appends of them; a cell of a row is written; functions that are handed an own slice of rows and hand one back in its place. No condition.
-/
namespace Go.Proofs.Ytifkgmbghcmdeaa
open Go Go.RowKit

section
variable {P : Program} {env : Env} {os : List AO} {d : Option Tmp} {ty : TypeId} {pos : String} {af : Array Edge} {g : Option (Nat × Bool)} {wl : Bool}

/-! ### Sources of appends -/
end

/-! ### Functions that hand back an own slice of rows in the place of the one that they were handed -/
/-- The function is handed the own slice of rows 'xss' (handle 0) and hands back one made of its memory and new memory. All else is as it was. -/
def AFnT (P : Program) (f : FuncId) (args : List AV) (T T2 : TypeId) (xss : List (List Int)) (Q : List (List Int) → Prop) : Prop :=
  HasBody P f ∧ ∀ base w g vs, base ≤ w.heap.size → Objs base w [g] [.sls T T2 xss] → vs.size = args.length → (∀ i : Nat, RV w (okOf [g] [.sls T T2 xss]) [g] (vs.getD i undef) (args.getD i .any)) →
    Calls P f vs w fun e w' => ∃ g' xss', e = .returned g'.v ∧ Q xss' ∧ RO base w' (fun _ => True) [g'] g' (.sls T T2 xss') ∧ (∀ b, b ∈ g'.bl → (b ∈ g.bl ∨ w.heap.size ≤ b) ∧ b < w'.heap.size) ∧ Below base w w' ∧ ∀ b, b < w.heap.size → b ∉ g.bl → w'.heap[b]? = w.heap[b]?

theorem AFnT.of {P : Program} {f : FuncId} {fn : Func} {c : Code} {args args' : List AV} {T T2 : TypeId} {xss : List (List Int)} {Q : List (List Int) → Prop} {n : Nat} (hf : P.funcs[f]? = some fn) (hb : fn.body = some c) (hnm : (fn.name == "runtime.NumGoroutine") = false) (hn : fn.ntmps - args.length = n) (ha : args' = args.map (AV.sh 1))
    (h : ∀ K, AWp P c (fun _ _ => False) (fun _ _ _ => False) (fun env os => ∃ env2 os2 k xss', Turns env os env2 os2 ∧ ResIs P fn env2 os2 (.own k) ∧ os2[k]? = some (.sls T T2 xss') ∧ Q xss' ∧ os2[0]? = some (.keep 1 K)) (Env.start args' n) [.keep 1 K, .sls T T2 xss]) :
    AFnT P f args T T2 xss Q := by
  refine ⟨⟨fn, c, hf, hnm, hb⟩, fun base w g vs hbase hO hsz hvs => calls_of_wp hf hb ?_⟩
  rw [show fn.ntmps - vs.size = n by rw [hsz]; exact hn]
  let bl : List Nat := (List.range w.heap.size).filter fun b => decide (base ≤ b) && !g.bl.contains b
  let gk : Gh := ⟨undef, 0, bl, []⟩
  let K : Kp := ⟨fun b => w.heap[b]?, [gk]⟩
  have hbl : ∀ b, b ∈ bl ↔ b < w.heap.size ∧ base ≤ b ∧ b ∉ g.bl := by
    intro b
    simp only [bl, List.mem_filter, List.mem_range, Bool.and_eq_true, decide_eq_true_eq, Bool.not_eq_true', List.contains_eq_mem, decide_eq_false_iff_not]
  have gg : ∀ {i : Nat} {x : Gh}, [gk, g][i]? = some x → (i = 0 ∧ x = gk) ∨ (i = 1 ∧ x = g) := by
    intro i x hx
    match i with
    | 0 => simp at hx; exact .inl ⟨rfl, hx.symm⟩
    | 1 => simp at hx; exact .inr ⟨rfl, hx.symm⟩
    | i + 2 => simp at hx
  have go : ∀ {i : Nat} {x : AO}, [AO.keep 1 K, AO.sls T T2 xss][i]? = some x → (i = 0 ∧ x = .keep 1 K) ∨ (i = 1 ∧ x = .sls T T2 xss) := by
    intro i x hx
    match i with
    | 0 => simp at hx; exact .inl ⟨rfl, hx.symm⟩
    | 1 => simp at hx; exact .inr ⟨rfl, hx.symm⟩
    | i + 2 => simp at hx
  have hkeep : Keeps (okOf [g] [.sls T T2 xss]) (okOf [gk, g] [.keep 1 K, .sls T T2 xss]) w w := by
    intro b hbk _
    refine ⟨fun i x y hx hy hny hm => ?_, rfl⟩
    rcases gg hx with ⟨rfl, rfl⟩ | ⟨rfl, rfl⟩
    · rcases go hy with ⟨_, rfl⟩ | ⟨h0, _⟩
      · exact hny.elim
      · omega
    · rcases go hy with ⟨h0, _⟩ | ⟨_, rfl⟩
      · omega
      · exact hbk 0 _ _ rfl rfl hny hm
  have hro0 := hO.ho 0 g _ rfl rfl
  have hn0 := hO.hn 0 g rfl
  have hrel : Rel base w [gk, g] (Env.start args' n) [.keep 1 K, .sls T T2 xss] (vs ++ Array.replicate n undef) := by
    refine ⟨hbase, rfl, by simp [Env.start, hsz, ha], fun i => start_rv args' n vs (fun i => ?_) i, ?_, ?_, ?_⟩
    · rw [ha, getD_map_any _ rfl]
      have := (hvs i).sh (gs0 := [gk]) hkeep
      exact this
    · intro i x y hx hy
      rcases gg hx with ⟨rfl, rfl⟩ | ⟨rfl, rfl⟩
      · rcases go hy with ⟨_, rfl⟩ | ⟨h0, _⟩
        · exact ⟨fun b _ => rfl, rfl, fun i x h => by
            match i with
            | 0 => exact h
            | i + 1 => simp [K] at h⟩
        · omega
      · rcases go hy with ⟨h0, _⟩ | ⟨_, rfl⟩
        · omega
        · exact AO.plain.ro trivial hro0
    · intro i j g1 g2 o1 o2 hij hg1 hg2 ho1 ho2 _ _ b hb1 hb2
      rcases gg hg1 with ⟨rfl, rfl⟩ | ⟨rfl, rfl⟩
      · rcases gg hg2 with ⟨rfl, rfl⟩ | ⟨rfl, rfl⟩
        · exact hij rfl
        · exact ((hbl b).1 hb1).2.2 hb2
      · rcases gg hg2 with ⟨rfl, rfl⟩ | ⟨rfl, rfl⟩
        · exact ((hbl b).1 hb2).2.2 hb1
        · exact hij rfl
    · intro i x y hx hy _ b hb
      rcases gg hx with ⟨rfl, rfl⟩ | ⟨rfl, rfl⟩
      · exact ⟨((hbl b).1 hb).2.1, ((hbl b).1 hb).1⟩
      · exact hn0 b hb
  refine wp_mono (h K base w w _ _ hrel (Below.refl _ _)) ?_
  intro e a w' hq
  cases e with
  | normal => obtain ⟨_, _, _, _, _, _, hx⟩ := hq; exact hx.elim
  | exit j => obtain ⟨_, _, _, _, _, _, hx⟩ := hq; exact hx.elim
  | ret =>
    obtain ⟨env, os1, gs1, hr1, hd, hbel, env2, os2, k, xss', ht, hres, hok, hQ, hkp⟩ := hq
    obtain ⟨gs2, hr⟩ := ht base w' gs1 _ hr1
    obtain ⟨v, hu, hv⟩ := hres _ _ _ _ hr
    cases hv with
    | @own _ g' hg' =>
      have hlt0 : 0 < gs2.length := by rw [hr.hl]; exact (List.getElem?_eq_some_iff.1 hkp).1
      obtain ⟨g0, hg0⟩ : ∃ g0, gs2[0]? = some g0 := ⟨_, List.getElem?_eq_getElem hlt0⟩
      obtain ⟨r1, r2, r3⟩ := hr.ho _ _ _ hg0 hkp
      have egk : g0 = gk := by
        have := r3 0 gk rfl
        rw [hg0] at this
        exact Option.some.inj this
      subst egk
      have hk0 : k ≠ 0 := fun e => by subst e; rw [hkp] at hok; cases hok
      refine ⟨hd, g'.v, hu, g', xss', rfl, hQ, AO.plain.ro trivial (hr.ho _ _ _ hg' hok), fun b hb => ?_, hbel, fun b hb hnot => ?_⟩
      · have hbn := hr.hn _ _ _ hg' hok (by simp) b hb
        refine ⟨?_, hbn.2⟩
        by_cases hbw : b < w.heap.size
        · left
          apply Classical.byContradiction
          intro hnb
          exact hr.hd k 0 g' _ _ _ hk0 hg' hg0 hok hkp (by simp) (by simp) b hb ((hbl b).2 ⟨hbw, hbn.1, hnb⟩)
        · right; omega
      · rcases Nat.lt_or_ge b base with h6 | h6
        · exact hbel.block b h6
        · exact r1 b ((hbl b).2 ⟨hb, h6, hnot⟩)
  | goto l => exact (hq : False).elim
  | panic ch => exact (hq : False).elim
  | outgrown => exact (hq : False).elim
theorem AFnT.start {P : Program} {f : FuncId} {fn : Func} {nt : Nat} {args : List AV} {T T2 : TypeId} {xss : List (List Int)} {Q : List (List Int) → Prop} (hf : P.funcs[f]? = some fn) (hnt : fn.ntmps = nt) {c : Code} (hb : fn.body = some c) (hnm : (fn.name == "runtime.NumGoroutine") = false)
    (h : ∀ K, AWp P c (fun _ _ => False) (fun _ _ _ => False) (fun env os => ∃ env2 os2 k xss', Turns env os env2 os2 ∧ ResIs P fn env2 os2 (.own k) ∧ os2[k]? = some (.sls T T2 xss') ∧ Q xss' ∧ os2[0]? = some (.keep 1 K)) (Env.start (args.map (AV.sh 1)) (nt - args.length)) [.keep 1 K, .sls T T2 xss]) :
    AFnT P f args T T2 xss Q := AFnT.of hf hb hnm (by rw [hnt]) rfl h

section
variable {w w' : World} {ok ok' : Nat → Prop} {gs : List Gh} {h : Nat} {g' : Gh}
end

section
variable {P : Program} {env : Env} {os : List AO} {d : Option Tmp} {ty : TypeId} {pos : String} {af : Array Edge} {g : Option (Nat × Bool)}
end

section
variable {P : Program} {env : Env} {os : List AO} {d : Tmp} {ty : TypeId} {pos : String} {af : Array Edge} {g : Option (Nat × Bool)} {l rest : List Oper} {K : APost} {q : Md}
end
end Go.Proofs.Ytifkgmbghcmdeaa
/-
  Maps from pairs of integers to integers: made, read, written, walked in whatever order. No condition.
-/
namespace Go.Proofs.Ytifkgmbghcmdeaa
open Go Go.RowKit
open Go.ChangeMaps (setBlock)

def mkey (i j : Int) : Value := .agg #[.int .i64 i, .int .i64 j]
/-- Pairs of integers as keys. -/
class TPair (P : Program) (kt : TypeId) (e : outParam TypeId) : Prop where
  hk : P.underlying kt = some (.array 2 e)
  he : P.underlying e = some (.int .i64)
  hi : ∃ ii, P.info? e = some ii
  hs : P.cellsOf e = 1
instance {P : Program} {kt e : TypeId} [h : TArr P kt e 2] [q : TKind P e .i64] : TPair P kt e := ⟨h.und, q.und, let ⟨i, h1, _⟩ := h.elm; ⟨i, h1⟩, by obtain ⟨i, h1, h2⟩ := h.elm; simp [Program.cellsOf, h1, h2]⟩
variable {P : Program}
/-! ### Maps from pairs to integers, as lists of triples in the order of their first writing -/
def entT (t : Int × Int × Int) : Value × Value := (mkey t.1 t.2.1, .int .i64 t.2.2)
def MapIs (es : Array MapEntry) (clock : Nat) (L : List (Int × Int × Int)) : Prop :=
  es.toList.map (fun e => (e.key, e.val)) = L.map entT ∧ (∀ e ∈ es.toList, e.born < clock) ∧ (es.toList.map (·.born)).Nodup
theorem keys_get {es : Array MapEntry} {L : List (Int × Int × Int)} (h : es.toList.map (fun e => (e.key, e.val)) = L.map entT) (k : Nat) (hk : k < L.length) :
    ∃ x, es[k]? = some x ∧ x.key = mkey (L.getD k (0, 0, 0)).1 (L.getD k (0, 0, 0)).2.1 ∧ x.val = .int .i64 (L.getD k (0, 0, 0)).2.2 := by
  have h1 := congrArg (·[k]?) h
  simp only [List.getElem?_map, List.getElem?_eq_getElem hk, Option.map_some, Array.getElem?_toList] at h1
  cases hx : es[k]? with
  | none => rw [hx] at h1; simp at h1
  | some x =>
    rw [hx] at h1
    simp only [Option.map_some, Option.some.injEq, entT, Prod.mk.injEq] at h1
    exact ⟨x, rfl, by rw [h1.1]; simp [List.getD_eq_getElem?_getD, hk], by rw [h1.2]; simp [List.getD_eq_getElem?_getD, hk]⟩
theorem size_of {es : Array MapEntry} {L : List (Int × Int × Int)} (h : es.toList.map (fun e => (e.key, e.val)) = L.map entT) : es.size = L.length := by
  have := congrArg List.length h
  simpa using this

theorem run_setmap {w : World} {r : Nat} {es : Array MapEntry} {c : Nat} (hr : w.heap[r]? = some (.map es c)) (o' : Obj) : (setObj r o').run P w = .ok () (setBlock w r o') := by
  simp [setObj, Sem.run, hr, setBlock]
/-! ### As objects, and as what is only read -/
def mapRo (L : List (Int × Int × Int)) : Ro where
  p w ok v := ∃ b es clock, v = .map (some b) ∧ ok b ∧ w.heap[b]? = some (.map es clock) ∧ MapIs es clock L
  up k h := by
    obtain ⟨b, es, clock, h1, h2, h3, h4⟩ := h
    have := k b h2 (Array.getElem?_eq_some_iff.1 h3).1
    exact ⟨b, es, clock, h1, this.1, this.2.trans h3, h4⟩
def mapAt (b : Nat) (es : Array MapEntry) (clock : Nat) : Ro where
  p w ok v := v = .map (some b) ∧ ok b ∧ w.heap[b]? = some (.map es clock)
  up k h := by
    obtain ⟨h1, h2, h3⟩ := h
    have := k b h2 (Array.getElem?_eq_some_iff.1 h3).1
    exact ⟨h1, this.1, this.2.trans h3⟩
def bornAt (es : Array MapEntry) (i : Nat) : Nat := ((es[i]?).map (·.born)).getD 0
/-- An iterator over the map at b, which has handed out the entries 'done'. -/
def itOb (b : Nat) (es : Array MapEntry) (clock : Nat) (done : List Nat) : Ob :=
  ob1 (fun r => .pointer (some ⟨r, 0, none⟩)) (fun o => ∃ since c0 seen, o = .mapIter (some b) since seen c0 ∧ since ≤ c0 ∧ (∀ x ∈ es.toList, x.born < since) ∧ seen.toList = done.map (bornAt es) ∧ (done = [] ∨ c0 = clock) ∧ since ≤ clock) fun _ => ⟨rfl, rfl⟩

/-- A slot may be seen otherwise. -/
theorem Rel.see {base : Nat} {w : World} {gs : List Gh} {env : Env} {os : List AO} {tm : Array Value} (h : Rel base w gs env os tm) {k : Nat} {a : AV} (ha : RV w (okOf gs os) gs (tm.getD k undef) a) : Rel base w gs (env.up k a) os tm where
  hb := h.hb
  hl := h.hl
  hs := by simpa [Env.up] using h.hs
  he i := by
    rw [Env.lk_up]
    split
    · rename_i hi; rw [hi.1]; exact ha
    · exact h.he i
  ho := h.ho
  hd := h.hd
  hn := h.hn

section
variable {P : Program} {wl : Bool} {env : Env} {os : List AO} {d : Option Tmp} {ty : TypeId} {pos : String} {af : Array Edge} {g : Option (Nat × Bool)}

theorem AWp.open {c : Code} {N : Env → List AO → Prop} {X : Nat → Env → List AO → Prop} {Rt : Env → List AO → Prop} (k : Nat) {L : List (Int × Int × Int)} (hk : env.fd k = some (.ro (mapRo L)))
    (h : ∀ b es clock, MapIs es clock L → AWp P c N X Rt (env.up k (.ro (mapAt b es clock))) os) : AWp P c N X Rt env os := by
  intro base w0 w gs tm hr
  have hv := hr.he k
  rw [Env.lk_of hk] at hv
  generalize hu : tm.getD k undef = u at hv
  cases hv with
  | ro h1 =>
    obtain ⟨b, es, clock, e1, e2, e3, hM⟩ := h1
    exact h b es clock hM base w0 w gs tm (hr.see (by rw [hu]; exact .ro ⟨e1, e2, e3⟩))

theorem Ret1.ob {h : Nat} {q : Ob} (hs : os[h]? = some (.ob q)) : Ret1 os (.own h) (.own 0) [.ob q] := fun base w gs env tm hr u hu => by
  cases hu with
  | @own _ g hg => exact ⟨[g], .one (hr.ho _ _ _ hg hs) fun b hb => hr.hn _ _ _ hg hs (by simp) b hb, .own rfl⟩

theorem map_at {base : Nat} {w : World} {gs : List Gh} {tm : Array Value} (hr : Rel base w gs env os tm) {x : Operand} {b : Nat} {es : Array MapEntry} {clock : Nat} (hx : AV.ev env x = .ro (mapAt b es clock)) :
    Act.eval ⟨tm, []⟩ x = .map (some b) ∧ okOf gs os b ∧ w.heap[b]? = some (.map es clock) := by
  have h := hr.ev x
  rw [hx] at h
  generalize Act.eval ⟨tm, []⟩ x = v at h
  cases h with
  | ro h1 => exact h1

theorem setBlock_other (w : World) (r c : Nat) (o : Obj) (h : c ≠ r) : (setBlock w r o).heap[c]? = w.heap[c]? := by
  simp only [setBlock]
  rw [Array.getElem?_setIfInBounds, if_neg (fun e => h e.symm)]
theorem setBlock_same (w : World) (r : Nat) (o : Obj) (h : r < w.heap.size) : (setBlock w r o).heap[r]? = some o := by
  simp only [setBlock]
  rw [Array.getElem?_setIfInBounds, if_pos rfl, if_pos h]
theorem setBlock_below {w w1 : World} {base r : Nat} {o : Obj} (h1 : w1 = w ∨ w1 = w.drew) (hr : base ≤ r) : Below base w (setBlock w1 r o) := by
  have : Below base w w1 := by rcases h1 with rfl | rfl; exact Below.refl _ _; exact (Below.refl _ _).drew
  exact ⟨this.os, this.tape, this.output, by simpa [setBlock] using this.size, fun k hk => by rw [setBlock_other _ _ _ _ (by omega)]; exact this.block k hk⟩

theorem born_inj {es : Array MapEntry} {clock : Nat} {L : List (Int × Int × Int)} (hM : MapIs es clock L) {i j : Nat} (hi : i < L.length) (hj : j < L.length) (h : bornAt es i = bornAt es j) : i = j := by
  obtain ⟨x, hx, _⟩ := keys_get hM.1 i hi
  obtain ⟨y, hy, _⟩ := keys_get hM.1 j hj
  simp only [bornAt, hx, hy, Option.map_some, Option.getD_some] at h
  have hn := hM.2.2
  have hs := size_of hM.1
  have gi : (es.toList.map (·.born))[i]? = some x.born := by simp [hx]
  have gj : (es.toList.map (·.born))[j]? = some y.born := by simp [hy]
  exact (List.getElem?_inj (by simp; omega) hn).1 (gi.trans (by rw [h]; exact gj.symm))

/-- One round of a loop over a map begins, or the loop ends. -/
theorem AOps.next {l rest : List Oper} {K : APost} {d : Tmp} {it : Operand} {h : Nat} {b : Nat} {es : Array MapEntry} {clock : Nat} {done : List Nat} {L : List (Int × Int × Int)} (m : Operand) (hM : MapIs es clock L) (hdone : ∀ i ∈ done, i < L.length)
    (hx : evo env it = some (.own h)) (hs : os[h]? = some (.ob (itOb b es clock done))) (hm : evo env m = some (.ro (mapAt b es clock)))
    (h0 : (∀ i, i < L.length → i ∈ done) → AOps P .seq l rest K (env.up d (.val (.tuple #[.bool false]))) os)
    (h1 : ∀ i, i < L.length → i ∉ done → AOps P .seq l rest K (env.up d (.val (.tuple #[.bool true, mkey (L.getD i (0, 0, 0)).1 (L.getD i (0, 0, 0)).2.1, .int .i64 (L.getD i (0, 0, 0)).2.2]))) (os.set h (.ob (itOb b es clock (done ++ [i]))))) :
    AOps P .seq l (⟨some d, .next it false, ty, pos, af, none⟩ :: rest) K env os := by
  intro base w0 w gs tm hr hb X Rt
  obtain ⟨_, hok, hmap⟩ := map_at hr (ev_of hm)
  have hh := hr.ev it
  rw [ev_of hx] at hh
  generalize hu : Act.eval ⟨tm, []⟩ it = u at hh
  cases hh with
  | @own _ gh hg =>
    obtain ⟨o, a1, ⟨since, c0, seen, rfl, q1, q2, q3, q4, q5⟩, a3, a4, a5⟩ := hr.ho _ _ _ hg hs
    have e5 : gh.v = .pointer (some ⟨gh.b, 0, none⟩) := a5
    have hlt : gh.b < w.heap.size := (Array.getElem?_eq_some_iff.1 a1).1
    have mem_seen : ∀ i, i < L.length → (bornAt es i ∈ seen.toList ↔ i ∈ done) := by
      intro i hi
      rw [q3, List.mem_map]
      constructor
      · rintro ⟨j, hj, e⟩
        have := born_inj hM (hdone j hj) hi e
        rwa [← this]
      · intro hi2; exact ⟨i, hi2, rfl⟩
    refine wpList_plain rfl fun K hK => ?_
    unfold Oper.wp
    rcases run_next_at (P := P) w ty gh.b b since c0 seen es clock a1 hmap q2 q1 with ⟨hz, hrun⟩ | ⟨e, he, w1, hw1, hrun⟩
    · have hrun' : (execOp (Act.eval ⟨tm, []⟩) ⟨some d, .next it false, ty, pos, af, none⟩).run P w = .ok (.value (.tuple #[.bool false])) w := by
        simp only [execOp, hu, e5, Sem.run_bind, hrun, Result.andThen_ok, Sem.run_pure]
      rw [hrun']
      refine hK _ _ (h0 (fun i hi => ?_) base w0 w gs _ (hr.put (.val _) d) hb X Rt)
      obtain ⟨x, hxe, _⟩ := keys_get hM.1 i hi
      have hnil : leftOf es seen = #[] := Array.eq_empty_of_size_eq_zero hz
      unfold leftOf at hnil
      rw [Array.filter_eq_empty_iff] at hnil
      have := hnil x (Array.mem_of_getElem? hxe)
      simp only [Bool.not_eq_true, Bool.not_eq_false', Array.contains_eq_mem, decide_eq_true_eq] at this
      refine (mem_seen i hi).1 ?_
      simpa [bornAt, hxe] using this
    · unfold leftOf at he
      simp only [Array.mem_toList_iff, Array.mem_filter, Bool.not_eq_true', Array.contains_eq_mem, decide_eq_false_iff_not] at he
      obtain ⟨hmem, hns⟩ := he
      obtain ⟨i, hi⟩ := Array.getElem?_of_mem hmem
      have hiL : i < L.length := by
        have := (Array.getElem?_eq_some_iff.1 hi).1
        have := size_of hM.1
        omega
      obtain ⟨x, hxe, k1, k2⟩ := keys_get hM.1 i hiL
      have ex : x = e := Option.some.inj (hxe.symm.trans hi)
      subst ex
      have hnd : i ∉ done := fun hc => hns (by have := (mem_seen i hiL).2 hc; simpa [bornAt, hxe] using this)
      have hrun' : (execOp (Act.eval ⟨tm, []⟩) ⟨some d, .next it false, ty, pos, af, none⟩).run P w = .ok (.value (.tuple #[.bool true, mkey (L.getD i (0, 0, 0)).1 (L.getD i (0, 0, 0)).2.1, .int .i64 (L.getD i (0, 0, 0)).2.2])) (setBlock w1 gh.b (.mapIter (some b) since (seen.push x.born) clock)) := by
        simp only [execOp, hu, e5, Sem.run_bind, hrun, Result.andThen_ok, Sem.run_pure, k1, k2]
      rw [hrun']
      have hw1h : w1.heap = w.heap := by rcases hw1 with rfl | rfl <;> rfl
      refine hK _ _ (h1 i hiL hnd base w0 _ gs _ ((hr.upd hg hs trivial (.ob (itOb b es clock (done ++ [i]))) trivial (fun c _ hc => ?_) ?_ fun _ => ?_).put (.val _) d) (hb.trans (setBlock_below hw1 a3)) X Rt)
      · rw [setBlock_other _ _ _ _ (fun e => hc (by rw [a4, e]; simp)), hw1h]
      · simp [setBlock, hw1h]
      · exact ⟨_, setBlock_same _ _ _ (by rw [hw1h]; exact hlt), ⟨since, clock, seen.push x.born, rfl, q5, q2, by simp [q3, bornAt, hxe], .inr rfl, q5⟩, a3, a4, a5⟩

variable {l rest : List Oper} {K : APost} {q : Md}
end
end Go.Proofs.Ytifkgmbghcmdeaa
/-
  A few polynomials (structs of one slice) handed on as a slice. No condition.
-/
namespace Go.Proofs.Ytifkgmbghcmdeaa
open Go Go.RowKit

/-- A slice of structs of one cell, each of which is a slice of rows. -/
def polsRo (fs : List (List (List Int))) : Ro where
  p w ok v := ∃ vs : List Value, RowAt w ok v vs ∧ vs.length = fs.length ∧ ∀ (i : Nat) u, vs[i]? = some u → IntssAt w ok u (fs.getD i [])
  up k h := by
    obtain ⟨vs, h1, h2, h3⟩ := h
    exact ⟨vs, h1.mono k, h2, fun i u hu => (h3 i u hu).mono k⟩
/-- A place of such a slice. -/
def polRo (f : List (List Int)) : Ro where
  p w ok v := ∃ b off u, v = .pointer (some ⟨b, off, none⟩) ∧ ok b ∧ w.cell? ⟨b, off, none⟩ = some u ∧ IntssAt w ok u f
  up k h := by
    obtain ⟨b, off, u, h1, h2, h3, h4⟩ := h
    have hlt := World.block_lt_of_cell? _ _ h3
    have hk := k b h2 hlt
    exact ⟨b, off, u, h1, hk.1, (World.cell?_of_block hk.2).trans h3, h4.mono k⟩

theorem run_load1 {P : Program} {t : TypeId} {zs : List Value} [ht : TStruct P t 1 zs] {a : Addr} {u : Value} {w : World} (hc : w.cell? a = some u) : (Instr.loadAt t (.pointer (some a))).run P w = .ok (.agg #[u]) w := by
  obtain ⟨dd, hu, hd⟩ := ht.und
  obtain ⟨ii, hi, hs, _⟩ := ht.info
  have h1 : (isAgg t).run P w = .ok true w := by
    unfold isAgg
    simp only [Sem.run_bind, run_underlying hu, Result.andThen_ok]
    cases dd <;> first | rfl | simp at hd
  have h2 : (loadCells a 1).run P w = .ok #[u] w := by
    have := run_loadCells_list (P := P) w a [u] (fun j v hv => by
      match j, hv with
      | 0, hv =>
        simp at hv; subst hv
        rw [Addr.add_zero']; exact hc)
    simpa using this
  simp only [Instr.loadAt, Instr.sureAddr, loadVar, Sem.run_bind, Sem.run_pure, Result.andThen_ok, h1, if_true, sizeOf, typeInfo, run_program]
  simp [hi, hs, h2]

section
variable {P : Program} {wl : Bool} {env : Env} {os : List AO} {d : Option Tmp} {ty : TypeId} {pos : String} {af : Array Edge} {g : Option (Nat × Bool)}

theorem ro_at {base : Nat} {w : World} {gs : List Gh} {tm : Array Value} (hr : Rel base w gs env os tm) {x : Operand} {r : Ro} (hx : AV.ev env x = .ro r) : r.p w (okOf gs os) (Act.eval ⟨tm, []⟩ x) := by
  have h := hr.ev x
  rw [hx] at h
  generalize Act.eval ⟨tm, []⟩ x = v at h
  cases h with
  | ro h1 => exact h1

theorem q_lenps {t e : TypeId} [ht : TSlice P t e] {x : Operand} {fs : List (List (List Int))} (hx : AV.ev env x = .ro (polsRo fs)) :
    QOp P wl ⟨d, .call { callee := .builtin .len, args := #[x], argTypes := #[t] }, ty, pos, af, g⟩ env os (.i fs.length) :=
  .of_run fun _ w gs tm hr => by
    obtain ⟨vs, ⟨a, cap, hv, _⟩, h2, _⟩ := ro_at hr hx
    rw [h2] at hv
    refine ⟨_, .val _, fun w' _ => ?_⟩
    simp [execOp, resolve, invoke, builtin, hv, Builtin.len_, run_underlying ht.und, goInt]

theorem q_idxps {t e : TypeId} {zs : List Value} [ht : TSlice P t e] [he : TStruct P e 1 zs] {x y : Operand} {fs : List (List (List Int))} {i : Int} (hx : AV.ev env x = .ro (polsRo fs)) (hy : AV.ev env y = .i i) (h0 : 0 ≤ i) (h1 : i < fs.length) :
    QOp P wl ⟨d, .indexAddr t x y, ty, pos, af, g⟩ env os (.ro (polRo (fs.getD i.toNat []))) :=
  .of_run fun _ w gs tm hr => by
    obtain ⟨vs, ⟨a, cap, hv, _, _, h4⟩, h2, h3⟩ := ro_at hr hx
    obtain ⟨b, off, rfl, hok, hc⟩ := h4 (by omega)
    obtain ⟨ie, hi, hs, _⟩ := he.info
    have hin : i.toNat < vs.length := by omega
    have hrun := fun w' => run_idx (P := P) ht.und hi hs ⟨b, off, none⟩ vs.length cap i h0 (by omega) w'
    have e3 : (⟨b, off, none⟩ : Addr).add i.toNat = ⟨b, off + i.toNat, none⟩ := add_none _ _ _
    refine ⟨.pointer (some ⟨b, off + i.toNat, none⟩), .ro ⟨b, off + i.toNat, vs[i.toNat], rfl, hok, hc _ _ (List.getElem?_eq_getElem hin), h3 _ _ (List.getElem?_eq_getElem hin)⟩, fun w' _ => ?_⟩
    simp only [execOp, hv, hr.evv hy, Sem.run_bind, hrun, Result.andThen_ok, Sem.run_pure, e3]

theorem q_ldps {t : TypeId} {zs : List Value} [ht : TStruct P t 1 zs] {x : Operand} {f : List (List Int)} (hx : AV.ev env x = .ro (polRo f)) :
    QOp P false ⟨d, .load t x, ty, pos, af, g⟩ env os (.agg [.intss f]) :=
  .of_runb fun _ w gs tm hr => by
    obtain ⟨b, off, u, hv, hok, hc, hf⟩ := ro_at hr hx
    have h1 : u.oneCell' = true := by obtain ⟨vs, ⟨a, cap, rfl, _⟩, _⟩ := hf; rfl
    refine ⟨.agg [u].toArray, .agg rfl (by simpa using h1) (rv_list rfl fun j hj => ?_), fun w' hw' => ?_⟩
    · match j, hj with
      | 0, _ => exact .intss hf
    · have hcell := below_cell hw' hc
      simp only [execOp, hv, Sem.run_bind, run_load1 (P := P) (t := t) hcell, Result.andThen_ok, Sem.run_pure]

variable {l rest : List Oper} {K : APost} {q : Md}
theorem w_lenps {d : Tmp} {t e : TypeId} [TSlice P t e] {x : Operand} {fs : List (List (List Int))} (hw : wantedA l env ⟨some d, .call { callee := .builtin .len, args := #[x], argTypes := #[t] }, ty, pos, af, g⟩ = some true) (hx : evo env x = some (.ro (polsRo fs)))
    (h' : AOps P q l rest K (env.up d (.i fs.length)) os) : AOps P q l (⟨some d, .call { callee := .builtin .len, args := #[x], argTypes := #[t] }, ty, pos, af, g⟩ :: rest) K env os := AOps.qo hw (q_lenps (ev_of hx)) h'
theorem w_idxps {d : Tmp} {t e : TypeId} {zs : List Value} [TSlice P t e] [TStruct P e 1 zs] {x y : Operand} {fs : List (List (List Int))} {i : Int} (hw : wantedA l env ⟨some d, .indexAddr t x y, ty, pos, af, g⟩ = some true) (hx : evo env x = some (.ro (polsRo fs))) (hy : evo env y = some (.i i)) (h0 : 0 ≤ i) (h1 : i < fs.length)
    (h' : AOps P q l rest K (env.up d (.ro (polRo (fs.getD i.toNat [])))) os) : AOps P q l (⟨some d, .indexAddr t x y, ty, pos, af, g⟩ :: rest) K env os := AOps.qo hw (q_idxps (ev_of hx) (ev_of hy) h0 h1) h'
theorem w_ldps {d : Tmp} {t : TypeId} {zs : List Value} [TStruct P t 1 zs] {x : Operand} {f : List (List Int)} (hw : wantedA l env ⟨some d, .load t x, ty, pos, af, g⟩ = some true) (hq : q.wl = false) (hx : evo env x = some (.ro (polRo f)))
    (h' : AOps P q l rest K (env.up d (.agg [.intss f])) os) : AOps P q l (⟨some d, .load t x, ty, pos, af, g⟩ :: rest) K env os := AOps.qo hw (by rw [hq]; exact q_ldps (ev_of hx)) h'
end
end Go.Proofs.Ytifkgmbghcmdeaa
/-
  An argument that is a slice of structs of one slice of rows. No condition.
-/
namespace Go.Proofs.Ytifkgmbghcmdeaa
open Go Go.RowKit Go.ChangeShapes Go.WideShapes Go.Deep
section
variable {H : Type} {enc : TypeId × Value → H} {P : Program} {w : World} {base : Nat} {held : Bool}
theorem pick_pols {V : Nat → Value} : ∀ (len : Nat), (∀ i, i < len → ∃ f, IntssAt w (fun _ => True) (V i) f) → ∃ fs : List (List (List Int)), fs.length = len ∧ ∀ i, i < len → IntssAt w (fun _ => True) (V i) (fs.getD i [])
  | 0, _ => ⟨[], rfl, fun i hi => by omega⟩
  | k + 1, hex => by
    obtain ⟨fs, h1, h2⟩ := pick_pols k fun i hi => hex i (by omega)
    obtain ⟨f, hf⟩ := hex k (by omega)
    refine ⟨fs ++ [f], by simp [h1], fun i hi => ?_⟩
    by_cases e : i < k
    · rw [List.getD_eq_getElem?_getD, List.getElem?_append_left (by omega), ← List.getD_eq_getElem?_getD]
      exact h2 i e
    · have : i = k := by omega
      subst this
      simpa [List.getD_eq_getElem?_getD, h1] using hf
theorem trod_pol {t e q : TypeId} {f0 : Field} {fuel : Nat} {v : Value} {x : DataW H × List MemPlace} (hs : P.underlying t = some (.struct #[f0])) (hone : oneCellFields P #[f0] = true)
    (h0 : P.underlying f0.type = some (.slice e)) (he : P.underlying e = some (.slice q)) (hq : P.underlying q = some (.int .i64)) (ce : P.cellsOf e = 1) (cq : P.cellsOf q = 1)
    (h : DataW.trod enc P w base (fun _ => true) held fuel t [v] = some x) : ∃ f, IntssAt w (fun _ => True) v f := by
  obtain ⟨y0, n, _, _, hf⟩ := trod_struct1 hs h
  obtain ⟨o0, k0⟩ := hone_of hone 0 f0 rfl
  exact trod_intss h0 he hq ce cq (by simpa [o0, k0] using hf)
theorem trod_pols {t b e q : TypeId} {f0 : Field} {fuel : Nat} {v : Value} {x : DataW H × List MemPlace} (ht : P.underlying t = some (.slice b)) (hs : P.underlying b = some (.struct #[f0])) (hone : oneCellFields P #[f0] = true) (hC : P.cellsOf b = 1)
    (h0 : P.underlying f0.type = some (.slice e)) (he : P.underlying e = some (.slice q)) (hq : P.underlying q = some (.int .i64)) (ce : P.cellsOf e = 1) (cq : P.cellsOf q = 1)
    (h : DataW.trod enc P w base (fun _ => true) held fuel t [v] = some x) : ∃ fs, fs.length ≤ maxLen ∧ (polsRo fs).p w (fun _ => True) v := by
  rcases open_slice1 ht hC h with ⟨hv, _⟩ | ⟨a, len, cap, m, n, V, D, Pl, hv, _, hl, hm, hmm, _, hr⟩
  · obtain rfl : v = _ := (List.cons.inj hv).1
    exact ⟨[], by simp, [], ⟨none, 0, rfl, Nat.le_refl _, by simp [maxLen], fun hp => by cases hp⟩, rfl, fun i u hu => by cases hu⟩
  · obtain rfl : v = _ := (List.cons.inj hv).1
    have hmc : m = cap := by simpa using hmm
    have hex : ∀ i, i < len → ∃ f, IntssAt w (fun _ => True) (V i) f := fun i hi => trod_pol hs hone h0 he hq ce cq (hr i (by omega)).2
    have hall := pick_pols len hex
    obtain ⟨fs, h1, h2⟩ := hall
    refine ⟨fs, by omega, (List.range len).map V, ?_, by simp [h1], fun i u hu => ?_⟩
    · have e : ((List.range len).map V).length = len := by simp
      refine ⟨some a, cap, by rw [e], by omega, hm, fun hp => ?_⟩
      rw [e] at hp
      obtain ⟨b, o, sp⟩ := a
      have hs : sp = none := Go.Proofs.cell_spot (hr 0 (by omega)).1
      subst hs
      refine ⟨b, o, rfl, trivial, fun i u hu => ?_⟩
      have hi := (List.getElem?_eq_some_iff.1 hu).1
      rw [e] at hi
      have hci := (hr i (by omega)).1
      rw [← Addr.add_lit, hci]
      simp [hi] at hu
      rw [hu]
    · have hi := (List.getElem?_eq_some_iff.1 hu).1
      simp at hi
      simp [hi] at hu
      subst hu
      exact h2 i hi
theorem arg_pols {t b e q : TypeId} {f0 : Field} {v : Value} {d : DataW H} {ps : List MemPlace} (ht : P.underlying t = some (.slice b)) (hs : P.underlying b = some (.struct #[f0])) (hone : oneCellFields P #[f0] = true) (hC : P.cellsOf b = 1)
    (h0 : P.underlying f0.type = some (.slice e)) (he : P.underlying e = some (.slice q)) (hq : P.underlying q = some (.int .i64)) (ce : P.cellsOf e = 1) (cq : P.cellsOf q = 1)
    (hval : Value.okWide P w .any 0 t v) (hd : DataW.Trod enc P w base (fun _ => true) held t v d ps) : ∃ fs, fs.length ≤ maxLen ∧ RV w (fun _ => True) [] v (.ro (polsRo fs)) := by
  obtain ⟨a, l, c, rfl⟩ := okWide_slice ht hval
  obtain ⟨fuel, hf⟩ := hd
  obtain ⟨fs, h1, h2⟩ := trod_pols ht hs hone hC h0 he hq ce cq (by simpa [Value.cells] using hf)
  exact ⟨fs, h1, .ro h2⟩
end
end Go.Proofs.Ytifkgmbghcmdeaa
/-
  The field of 55441 elements: powers by squaring, inverses. No condition.
-/
namespace Go.Proofs.Ytifkgmbghcmdeaa
set_option linter.unusedSimpArgs false
set_option linter.unusedVariables false

def copB (n lo : Nat) : Nat → Bool
  | 0 => true
  | k + 1 => Nat.beq (Nat.gcd (lo + k) n) 1 && copB n lo k
theorem copB_get {n lo : Nat} : ∀ {k : Nat}, copB n lo k = true → ∀ a, lo ≤ a → a < lo + k → Nat.gcd a n = 1
  | 0, _, a, h0, h1 => by omega
  | k + 1, h, a, h0, h1 => by
    simp only [copB, Bool.and_eq_true] at h
    by_cases e : a = lo + k
    · subst e; exact Nat.eq_of_beq_eq_true h.1
    · exact copB_get h.2 a h0 (by omega)
theorem copsmall : copB 55441 1 235 = true := by decide +kernel
/-- 55441 is a prime: what divides a product divides a factor. -/
theorem coprime_p {a : Nat} (h0 : 0 < a) (h1 : a < 55441) : Nat.gcd a 55441 = 1 := by
  -- a common divisor d: d or 55441 / d is at most 235
  have hd := Nat.gcd_dvd_right a 55441
  have hda := Nat.gcd_dvd_left a 55441
  generalize hg : Nat.gcd a 55441 = d at hd hda
  obtain ⟨m, hm⟩ := hd
  have hdle := Nat.le_of_dvd h0 hda
  rcases Nat.lt_or_ge d 236 with h | h
  · have hd0 : 0 < d := Nat.pos_of_ne_zero fun e => by subst e; omega
    have := copB_get copsmall d (by omega) (by omega)
    rw [Nat.gcd_eq_left ⟨m, hm⟩] at this
    exact this
  · have hm2 : m < 236 := by
      rcases Nat.lt_or_ge m 236 with h2 | h2
      · exact h2
      · have := Nat.mul_le_mul h h2; omega
    have hm0 : 0 < m := Nat.pos_of_ne_zero fun e => by subst e; omega
    have := copB_get copsmall m (by omega) (by omega)
    rw [Nat.gcd_eq_left ⟨d, by rw [Nat.mul_comm]; exact hm⟩] at this
    subst this
    omega
theorem prime_p {a b : Nat} (h : a * b % 55441 = 0) : a % 55441 = 0 ∨ b % 55441 = 0 := by
  by_cases ha : a % 55441 = 0
  · exact .inl ha
  · right
    have hc : Nat.gcd (a % 55441) 55441 = 1 := coprime_p (by omega) (by omega)
    have hd : 55441 ∣ (a % 55441) * b := Nat.dvd_of_mod_eq_zero (by rw [Nat.mod_mul_mod]; exact h)
    have hcc : Nat.Coprime 55441 (a % 55441) := by rw [Nat.coprime_iff_gcd_eq_one, Nat.gcd_comm]; exact hc
    exact Nat.mod_eq_zero_of_dvd (hcc.dvd_of_dvd_mul_left hd)

def prodL : List Nat → Nat
  | [] => 1
  | x :: l => x * prodL l
theorem prodL_perm {l m : List Nat} (h : l.Perm m) : prodL l = prodL m := by
  induction h with
  | nil => rfl
  | cons x _ ih => simp only [prodL, ih]
  | swap x y l => simp only [prodL]; rw [← Nat.mul_assoc, ← Nat.mul_assoc, Nat.mul_comm y x]
  | trans _ _ i1 i2 => exact i1.trans i2
theorem prodL_ne : ∀ {l : List Nat}, (∀ x ∈ l, x % 55441 ≠ 0) → prodL l % 55441 ≠ 0
  | [], _ => by simp [prodL]
  | x :: l, h => by
    intro e
    rcases prime_p e with e | e
    · exact h x (by simp) e
    · exact prodL_ne (fun y hy => h y (by simp [hy])) e
theorem prodL_mul (a : Nat) : ∀ l : List Nat, prodL (l.map fun x => a * x % 55441) % 55441 = a ^ l.length * prodL l % 55441
  | [] => by simp [prodL]
  | x :: l => by
    simp only [List.map_cons, prodL, List.length_cons]
    rw [Nat.mod_mul_mod, Nat.mul_mod, prodL_mul a l, ← Nat.mul_mod, Nat.pow_succ]
    congr 1
    simp only [Nat.mul_assoc, Nat.mul_comm, Nat.mul_left_comm]
theorem nodup_map_of {f : Nat → Nat} : ∀ {l : List Nat}, l.Nodup → (∀ x ∈ l, ∀ y ∈ l, f x = f y → x = y) → (l.map f).Nodup
  | [], _, _ => by simp
  | x :: l, h, hf => by
    rw [List.nodup_cons] at h
    rw [List.map_cons, List.nodup_cons]
    refine ⟨fun hm => ?_, nodup_map_of h.2 fun a ha b hb => hf a (by simp [ha]) b (by simp [hb])⟩
    obtain ⟨y, hy, e⟩ := List.mem_map.1 hm
    have := hf y (by simp [hy]) x (by simp) e
    subst this
    exact h.1 hy
theorem modsub {a b : Nat} (h : a % 55441 = b % 55441) (hle : b ≤ a) : (a - b) % 55441 = 0 := by omega
theorem inj_p {a x y : Nat} (ha : a % 55441 ≠ 0) (hx : x < 55441) (hy : y < 55441) (h : a * x % 55441 = a * y % 55441) : x = y := by
  rcases Nat.le_total x y with hle | hle
  · have h1 := modsub h.symm (Nat.mul_le_mul_left a hle)
    rw [← Nat.mul_sub] at h1
    rcases prime_p h1 with e | e
    · exact absurd e ha
    · omega
  · have h1 := modsub h (Nat.mul_le_mul_left a hle)
    rw [← Nat.mul_sub] at h1
    rcases prime_p h1 with e | e
    · exact absurd e ha
    · omega
/-- What lies in a list without repetition, as long as another one in which it lies, fills it. -/
theorem full_of : ∀ {l m : List Nat}, l.Nodup → (∀ x ∈ l, x ∈ m) → m.length ≤ l.length → l.Perm m
  | [], m, _, _, h => by
    have : m = [] := List.length_eq_zero_iff.1 (by simpa using h)
    subst this
    exact List.Perm.nil
  | x :: l, m, hl, hs, hlen => by
    rw [List.nodup_cons] at hl
    have hx : x ∈ m := hs x (by simp)
    have hp := List.perm_cons_erase hx
    have ih := full_of (l := l) (m := m.erase x) hl.2 (fun y hy => by
      have hne : y ≠ x := fun e => hl.1 (e ▸ hy)
      exact (List.mem_erase_of_ne hne).2 (hs y (by simp [hy]))) (by
      rw [List.length_erase_of_mem hx]; simp at hlen; omega)
    exact (ih.cons x).trans hp.symm
theorem fermat {a : Nat} (ha : a % 55441 ≠ 0) : a ^ 55440 % 55441 = 1 := by
  have hnd : (List.range' 1 55440).Nodup := List.nodup_range'
  have hmem : ∀ {x : Nat}, x ∈ List.range' 1 55440 ↔ 1 ≤ x ∧ x < 55441 := by
    intro x
    rw [List.mem_range'_1]
  have hp : ((List.range' 1 55440).map fun x => a * x % 55441).Perm (List.range' 1 55440) := by
    refine full_of (nodup_map_of hnd fun x hx y hy e => inj_p ha (hmem.1 hx).2 (hmem.1 hy).2 e) (fun x hx => ?_) (by rw [List.length_map]; exact Nat.le_refl _)
    obtain ⟨y, hy, rfl⟩ := List.mem_map.1 hx
    have hy' := hmem.1 hy
    refine hmem.2 ⟨Nat.pos_of_ne_zero fun e => ?_, Nat.mod_lt _ (by omega)⟩
    rcases prime_p e with e | e
    · exact ha e
    · omega
  have h1 := prodL_mul a (List.range' 1 55440)
  rw [prodL_perm hp, List.length_range'] at h1
  have h2 := prodL_ne (l := List.range' 1 55440) fun x hx => by have := hmem.1 hx; omega
  generalize prodL (List.range' 1 55440) = q at h1 h2
  generalize (55440 : Nat) = E at h1 ⊢
  have hpos : 1 ≤ a ^ E := Nat.pow_pos (Nat.pos_of_ne_zero fun e => by subst e; simp at ha)
  generalize a ^ E = z at h1 hpos ⊢
  have h3 : (z * q - q) % 55441 = 0 := modsub h1.symm (by calc q = 1 * q := (Nat.one_mul q).symm
                                                          _ ≤ z * q := Nat.mul_le_mul_right q hpos)
  have h4 : z * q - q = (z - 1) * q := by rw [Nat.sub_mul, Nat.one_mul]
  rw [h4] at h3
  rcases prime_p h3 with e | e
  · omega
  · exact absurd e h2
end Go.Proofs.Ytifkgmbghcmdeaa
/-
  Rows over the field of 55441 elements: spans, first places, echelon forms. No condition.
-/
namespace Go.Proofs.Ytifkgmbghcmdeaa
set_option linter.unusedSimpArgs false
set_option linter.unusedVariables false

theorem emul (a b : Int) : a * (b % 55441) % 55441 = a * b % 55441 := by
  rw [Int.mul_emod, Int.emod_emod_of_dvd _ (Int.dvd_refl _), ← Int.mul_emod]
/-- A sum of multiples of vectors, below n. -/
inductive Sp (n : Nat) (G : (Nat → Int) → Prop) : (Nat → Int) → Prop
  | zero {v : Nat → Int} : (∀ i, i < n → v i % 55441 = 0) → Sp n G v
  | add {v g w : Nat → Int} (c : Int) : Sp n G v → G g → (∀ i, i < n → w i % 55441 = (v i + c * g i) % 55441) → Sp n G w
variable {n m : Nat} {G G' : (Nat → Int) → Prop} {v w g : Nat → Int}

theorem Sp.congr (h : Sp n G v) (e : ∀ i, i < n → w i % 55441 = v i % 55441) : Sp n G w := by
  cases h with
  | zero h => exact .zero fun i hi => (e i hi).trans (h i hi)
  | add c h hg h' => exact .add c h hg fun i hi => (e i hi).trans (h' i hi)
theorem Sp.gen (hg : G g) : Sp n G g := .add (v := fun _ => 0) 1 (.zero fun i _ => rfl) hg fun i _ => by simp
theorem mod_comb {a b c d x : Int} (h : b % 55441 = d % 55441) : (a + c * b) % 55441 = (a + c * d) % 55441 := by
  rw [Int.add_emod, ← emul, h, emul, ← Int.add_emod]
theorem Sp.comb (hv : Sp n G v) (c : Int) (hw : Sp n G w) : Sp n G (fun i => v i + c * w i) := by
  induction hw with
  | zero h => exact hv.congr fun i hi => by rw [mod_comb (x := 0) (d := 0) (by rw [h i hi]; rfl)]; simp
  | @add v' g w c' h hg h' ih =>
    refine .add (c * c') ih hg fun i hi => ?_
    show (v i + c * w i) % 55441 = (v i + c * v' i + c * c' * g i) % 55441
    rw [mod_comb (x := 0) (h' i hi), Int.mul_add, Int.mul_assoc, Int.add_assoc]
theorem Sp.smul (c : Int) (hw : Sp n G w) : Sp n G (fun i => c * w i) :=
  ((Sp.zero (G := G) (n := n) (v := fun _ => 0) fun _ _ => rfl).comb c hw).congr fun i _ => by simp
theorem Sp.trans (h : ∀ g, G g → Sp n G' g) (hv : Sp n G v) : Sp n G' v := by
  induction hv with
  | zero h => exact .zero h
  | add c _ hg h' ih => exact (ih.comb c (h _ hg)).congr h'
theorem Sp.mono (h : ∀ g, G g → G' g) (hv : Sp n G v) : Sp n G' v := hv.trans fun g hg => .gen (h g hg)
theorem Sp.cut (hmn : m ≤ n) (hv : Sp n G v) : Sp m G v := by
  induction hv with
  | zero h => exact .zero fun i hi => h i (by omega)
  | add c _ hg h' ih => exact .add c ih hg fun i hi => h' i (by omega)
theorem Sp.lift (hv : Sp m G v) (n : Nat) : ∃ v', Sp n G v' ∧ ∀ i, i < m → v' i % 55441 = v i % 55441 := by
  induction hv with
  | zero h => exact ⟨fun _ => 0, .zero fun _ _ => rfl, fun i hi => (h i hi).symm⟩
  | @add v g w c _ hg h' ih =>
    obtain ⟨v', h1, h2⟩ := ih
    refine ⟨fun i => v' i + c * g i, .add c h1 hg fun _ _ => rfl, fun i hi => ?_⟩
    rw [h' i hi, Int.add_emod, h2 i hi, ← Int.add_emod]

/-- The first place of a vector. -/
structure Lead (n : Nat) (v : Nat → Int) (p : Nat) : Prop where
  lt : p < n
  ne : v p % 55441 ≠ 0
  zero : ∀ i, i < p → v i % 55441 = 0
/-- The first places of the vectors of a span. -/
def Leads (n : Nat) (G : (Nat → Int) → Prop) (p : Nat) : Prop := ∃ v, Sp n G v ∧ Lead n v p
theorem leads_mono (h : ∀ g, G g → Sp n G' g) {p : Nat} (hp : Leads n G p) : Leads n G' p := let ⟨v, h1, h2⟩ := hp; ⟨v, h1.trans h, h2⟩
theorem leads_cut (hmn : m ≤ n) {p : Nat} (hp : p < m) : Leads n G p ↔ Leads m G p := by
  constructor
  · rintro ⟨v, h1, h2⟩
    exact ⟨v, h1.cut hmn, hp, h2.ne, h2.zero⟩
  · rintro ⟨v, h1, h2⟩
    obtain ⟨v', h3, h4⟩ := h1.lift n
    exact ⟨v', h3, by omega, by rw [h4 p hp]; exact h2.ne, fun i hi => by rw [h4 i (by omega)]; exact h2.zero i hi⟩

/-! ### Echelon forms -/
abbrev Rw := Nat × (Nat → Int)
structure EchV (n : Nat) (L : List Rw) : Prop where
  lt : ∀ t ∈ L, t.1 < n
  one : ∀ t ∈ L, t.2 t.1 % 55441 = 1
  zero : ∀ t ∈ L, ∀ i, i < t.1 → t.2 i % 55441 = 0
  nd : L.Pairwise fun a b => a.1 ≠ b.1
def GL (L : List Rw) (g : Nat → Int) : Prop := ∃ t ∈ L, t.2 = g
def sumR (c : Nat → Int) (L : List Rw) (i : Nat) : Int := match L with
  | [] => 0
  | t :: r => c t.1 * t.2 i + sumR c r i
theorem sumR_add (c : Nat → Int) (q : Nat) (x : Int) (i : Nat) : ∀ L : List Rw, (∀ t ∈ L, t.1 ≠ q) → sumR (fun k => if k = q then c k + x else c k) L i = sumR c L i
  | [], _ => rfl
  | t :: r, h => by
    simp only [sumR]
    rw [sumR_add c q x i r fun t ht => h t (by simp [ht]), if_neg (h t (by simp))]
theorem sumR_bump (c : Nat → Int) (x : Int) (i : Nat) : ∀ {L : List Rw}, L.Pairwise (fun a b => a.1 ≠ b.1) → ∀ t ∈ L, sumR (fun k => if k = t.1 then c k + x else c k) L i = sumR c L i + x * t.2 i
  | [], _, t, ht => by cases ht
  | s :: r, h, t, ht => by
    rw [List.pairwise_cons] at h
    simp only [sumR]
    rcases List.mem_cons.1 ht with rfl | ht
    · rw [sumR_add c _ x i r fun u hu => fun e => h.1 u hu e.symm, if_pos rfl, Int.add_mul]
      omega
    · rw [sumR_bump c x i h.2 t ht, if_neg (h.1 t ht)]
      omega
/-- The vectors of the span of an echelon form are sums. -/
theorem sp_sum {L : List Rw} (hL : EchV n L) (h : Sp n (GL L) v) : ∃ c : Nat → Int, ∀ i, i < n → v i % 55441 = sumR c L i % 55441 := by
  induction h with
  | zero h =>
    refine ⟨fun _ => 0, fun i hi => (h i hi).trans ?_⟩
    have : ∀ L : List Rw, sumR (fun _ => 0) L i = 0 := fun L => by
      induction L with
      | nil => rfl
      | cons t r ih => simp [sumR, ih]
    rw [this]; rfl
  | @add v g w c h hg h' ih =>
    obtain ⟨c0, h0⟩ := ih
    obtain ⟨t, ht, rfl⟩ := hg
    refine ⟨fun k => if k = t.1 then c0 k + c else c0 k, fun i hi => ?_⟩
    rw [h' i hi, sumR_bump c0 c i hL.nd t ht, Int.add_emod, h0 i hi, ← Int.add_emod]
/-- Below p all numbers of the sum are 0, if the sum is. -/
theorem sumR_low {c : Nat → Int} {p : Nat} : ∀ {L : List Rw}, (∀ t ∈ L, t.1 < p → c t.1 % 55441 = 0) → (∀ t ∈ L, p < t.1 → t.2 p % 55441 = 0) → (∀ t ∈ L, t.1 ≠ p) → sumR c L p % 55441 = 0
  | [], _, _, _ => rfl
  | t :: r, h1, h2, h3 => by
    have ih := sumR_low (L := r) (fun u hu => h1 u (by simp [hu])) (fun u hu => h2 u (by simp [hu])) fun u hu => h3 u (by simp [hu])
    have ht : c t.1 * t.2 p % 55441 = 0 := by
      rcases Nat.lt_or_ge t.1 p with h | h
      · rw [Int.mul_emod, h1 t (by simp) h]; simp
      · have hne := h3 t (by simp)
        rw [← emul, h2 t (by simp) (by omega)]; simp
    simp only [sumR]
    omega
theorem sumR_at {c : Nat → Int} {t : Rw} : ∀ {L : List Rw}, L.Pairwise (fun a b => a.1 ≠ b.1) → t ∈ L → (∀ u ∈ L, u.1 < t.1 → c u.1 % 55441 = 0) → (∀ u ∈ L, t.1 < u.1 → u.2 t.1 % 55441 = 0) → t.2 t.1 % 55441 = 1 → sumR c L t.1 % 55441 = c t.1 % 55441
  | [], _, ht, _, _, _ => by cases ht
  | s :: r, h, ht, h1, h2, h3 => by
    rw [List.pairwise_cons] at h
    simp only [sumR]
    rcases List.mem_cons.1 ht with rfl | ht
    · have := sumR_low (c := c) (p := t.1) (L := r) (fun u hu => h1 u (by simp [hu])) (fun u hu => h2 u (by simp [hu])) fun u hu e => h.1 u hu e.symm
      have e : c t.1 * t.2 t.1 % 55441 = c t.1 % 55441 := by rw [← emul, h3, Int.mul_one]
      omega
    · have ih := sumR_at (L := r) h.2 ht (fun u hu => h1 u (by simp [hu])) (fun u hu => h2 u (by simp [hu])) h3
      have hs : c s.1 * s.2 t.1 % 55441 = 0 := by
        have hne := h.1 t ht
        rcases Nat.lt_or_ge s.1 t.1 with h5 | h5
        · rw [Int.mul_emod, h1 s (by simp) h5]; simp
        · rw [← emul, h2 s (by simp) (by omega)]; simp
      omega
theorem ech_leads {L : List Rw} (hL : EchV n L) (p : Nat) : Leads n (GL L) p ↔ ∃ t ∈ L, t.1 = p := by
  constructor
  · rintro ⟨v, hv, hl⟩
    obtain ⟨c, hc⟩ := sp_sum hL hv
    apply Classical.byContradiction
    intro hno
    have hne : ∀ t ∈ L, t.1 ≠ p := fun t ht e => hno ⟨t, ht, e⟩
    have low : ∀ k, k ≤ p → ∀ t ∈ L, t.1 < k → c t.1 % 55441 = 0 := by
      intro k
      induction k with
      | zero => intro _ t _ h; omega
      | succ k ih =>
        intro hk t ht h
        by_cases e : t.1 = k
        · have h1 := sumR_at (c := c) hL.nd ht (fun u hu h => ih (by omega) u hu (by omega)) (fun u hu h => hL.zero u hu _ h) (hL.one t ht)
          have h2 := hc t.1 (hL.lt t ht)
          rw [hl.zero t.1 (by omega)] at h2
          omega
        · exact ih (by omega) t ht (by omega)
    have h3 := sumR_low (c := c) (p := p) (L := L) (fun t ht h => low p (Nat.le_refl _) t ht h) (fun t ht h => hL.zero t ht _ h) hne
    have h4 := hc p hl.lt
    exact hl.ne (by omega)
  · rintro ⟨t, ht, rfl⟩
    exact ⟨t.2, .gen ⟨t, ht, rfl⟩, hL.lt t ht, by rw [hL.one t ht]; decide, hL.zero t ht⟩
/-- One more row: its multiple, less multiples of the rows that are there. -/
theorem gl_snoc {L : List Rw} {r row : Nat → Int} {p : Nat} {s s' : Int} {q : Nat → Int} (hq : Sp n (GL L) q) (hr : ∀ i, i < n → r i % 55441 = s * (row i + q i) % 55441) (hs : s * s' % 55441 = 1) :
    (∀ g, GL (L ++ [(p, r)]) g → Sp n (fun g => GL L g ∨ g = row) g) ∧ ∀ g, (GL L g ∨ g = row) → Sp n (GL (L ++ [(p, r)])) g := by
  have h1 : Sp n (fun g => GL L g ∨ g = row) q := hq.mono fun g hg => .inl hg
  have h2 : Sp n (GL (L ++ [(p, r)])) q := hq.mono fun g ⟨t, ht, e⟩ => ⟨t, by simp [ht], e⟩
  constructor
  · rintro g ⟨t, ht, rfl⟩
    rcases List.mem_append.1 ht with ht | ht
    · exact .gen (.inl ⟨t, ht, rfl⟩)
    · simp only [List.mem_singleton] at ht
      subst ht
      refine (((Sp.gen (G := fun g => GL L g ∨ g = row) (n := n) (g := row) (.inr rfl)).comb 1 h1).smul s).congr fun i hi => ?_
      show r i % 55441 = _
      rw [hr i hi]; simp
  · rintro g (⟨t, ht, rfl⟩ | rfl)
    · exact .gen ⟨t, by simp [ht], rfl⟩
    · refine (((Sp.gen (G := GL (L ++ [(p, r)])) (n := n) (g := r) ⟨(p, r), by simp, rfl⟩).smul s').comb (-1) h2).congr fun i hi => ?_
      have h3 : s' * r i % 55441 = (g i + q i) % 55441 := by
        rw [← emul, hr i hi, emul, ← Int.mul_assoc, Int.mul_comm s' s, Int.mul_comm, ← emul, hs, Int.mul_one]
      show g i % 55441 = (s' * r i + -1 * q i) % 55441
      omega
end Go.Proofs.Ytifkgmbghcmdeaa
/-
  The facts on this seat's table of types, by program. No condition.
-/
namespace Go.Proofs.Ytifkgmbghcmdeaa
open Go Go.RowKit
theorem info1 : (Try.prog.info? 1).map (fun i => (i.zero, i.size, i.bytes)) = some (some (.nilFunc), 1, 8) := by kernel_rfl
instance : TCell Try.prog 1 := ⟨⟨_, Try.underlying1, rfl⟩, let ⟨i, h, _, h2, _⟩ := info_parts info1; ⟨i, h, h2⟩⟩
instance : TElem Try.prog 1 (.nilFunc) 8 := ⟨let ⟨i, h, h1, h2, h3⟩ := info_parts info1; ⟨i, h, h2, h1, h3⟩, by decide⟩
instance : TKind Try.prog 2 .i64 := ⟨Try.underlying2⟩
theorem info2 : (Try.prog.info? 2).map (fun i => (i.zero, i.size, i.bytes)) = some (some (.int .i64 0), 1, 8) := by kernel_rfl
instance : TCell Try.prog 2 := ⟨⟨_, Try.underlying2, rfl⟩, let ⟨i, h, _, h2, _⟩ := info_parts info2; ⟨i, h, h2⟩⟩
instance : TElem Try.prog 2 (.int .i64 0) 8 := ⟨let ⟨i, h, h1, h2, h3⟩ := info_parts info2; ⟨i, h, h2, h1, h3⟩, by decide⟩
instance : TKind Try.prog 3 .i64 := ⟨Try.underlying3⟩
theorem info3 : (Try.prog.info? 3).map (fun i => (i.zero, i.size, i.bytes)) = some (some (.int .i64 0), 1, 8) := by kernel_rfl
instance : TCell Try.prog 3 := ⟨⟨_, Try.underlying3, rfl⟩, let ⟨i, h, _, h2, _⟩ := info_parts info3; ⟨i, h, h2⟩⟩
instance : TElem Try.prog 3 (.int .i64 0) 8 := ⟨let ⟨i, h, h1, h2, h3⟩ := info_parts info3; ⟨i, h, h2, h1, h3⟩, by decide⟩
instance : TBool Try.prog 4 := ⟨Try.underlying4⟩
theorem info4 : (Try.prog.info? 4).map (fun i => (i.zero, i.size, i.bytes)) = some (some (.bool false), 1, 1) := by kernel_rfl
instance : TCell Try.prog 4 := ⟨⟨_, Try.underlying4, rfl⟩, let ⟨i, h, _, h2, _⟩ := info_parts info4; ⟨i, h, h2⟩⟩
instance : TElem Try.prog 4 (.bool false) 1 := ⟨let ⟨i, h, h1, h2, h3⟩ := info_parts info4; ⟨i, h, h2, h1, h3⟩, by decide⟩
instance : TKind Try.prog 5 .u8 := ⟨Try.underlying5⟩
theorem info5 : (Try.prog.info? 5).map (fun i => (i.zero, i.size, i.bytes)) = some (some (.int .u8 0), 1, 1) := by kernel_rfl
instance : TCell Try.prog 5 := ⟨⟨_, Try.underlying5, rfl⟩, let ⟨i, h, _, h2, _⟩ := info_parts info5; ⟨i, h, h2⟩⟩
instance : TElem Try.prog 5 (.int .u8 0) 1 := ⟨let ⟨i, h, h1, h2, h3⟩ := info_parts info5; ⟨i, h, h2, h1, h3⟩, by decide⟩
instance : TKind Try.prog 6 .u8 := ⟨Try.underlying6⟩
theorem info6 : (Try.prog.info? 6).map (fun i => (i.zero, i.size, i.bytes)) = some (some (.int .u8 0), 1, 1) := by kernel_rfl
instance : TCell Try.prog 6 := ⟨⟨_, Try.underlying6, rfl⟩, let ⟨i, h, _, h2, _⟩ := info_parts info6; ⟨i, h, h2⟩⟩
instance : TElem Try.prog 6 (.int .u8 0) 1 := ⟨let ⟨i, h, h1, h2, h3⟩ := info_parts info6; ⟨i, h, h2, h1, h3⟩, by decide⟩
instance : TStr Try.prog 9 := ⟨Try.underlying9⟩
theorem info9 : (Try.prog.info? 9).map (fun i => (i.zero, i.size, i.bytes)) = some (some (.string ⟨#[]⟩), 1, 16) := by kernel_rfl
instance : TCell Try.prog 9 := ⟨⟨_, Try.underlying9, rfl⟩, let ⟨i, h, _, h2, _⟩ := info_parts info9; ⟨i, h, h2⟩⟩
instance : TElem Try.prog 9 (.string ⟨#[]⟩) 16 := ⟨let ⟨i, h, h1, h2, h3⟩ := info_parts info9; ⟨i, h, h2, h1, h3⟩, by decide⟩
instance : TStr Try.prog 10 := ⟨Try.underlying10⟩
theorem info10 : (Try.prog.info? 10).map (fun i => (i.zero, i.size, i.bytes)) = some (some (.string ⟨#[]⟩), 1, 16) := by kernel_rfl
instance : TCell Try.prog 10 := ⟨⟨_, Try.underlying10, rfl⟩, let ⟨i, h, _, h2, _⟩ := info_parts info10; ⟨i, h, h2⟩⟩
instance : TElem Try.prog 10 (.string ⟨#[]⟩) 16 := ⟨let ⟨i, h, h1, h2, h3⟩ := info_parts info10; ⟨i, h, h2, h1, h3⟩, by decide⟩
instance : TStr Try.prog 11 := ⟨Try.underlying11⟩
theorem info11 : (Try.prog.info? 11).map (fun i => (i.zero, i.size, i.bytes)) = some (some (.string ⟨#[]⟩), 1, 16) := by kernel_rfl
instance : TCell Try.prog 11 := ⟨⟨_, Try.underlying11, rfl⟩, let ⟨i, h, _, h2, _⟩ := info_parts info11; ⟨i, h, h2⟩⟩
instance : TElem Try.prog 11 (.string ⟨#[]⟩) 16 := ⟨let ⟨i, h, h1, h2, h3⟩ := info_parts info11; ⟨i, h, h2, h1, h3⟩, by decide⟩
instance : TKind Try.prog 12 .u64 := ⟨Try.underlying12⟩
theorem info12 : (Try.prog.info? 12).map (fun i => (i.zero, i.size, i.bytes)) = some (some (.int .u64 0), 1, 8) := by kernel_rfl
instance : TCell Try.prog 12 := ⟨⟨_, Try.underlying12, rfl⟩, let ⟨i, h, _, h2, _⟩ := info_parts info12; ⟨i, h, h2⟩⟩
instance : TElem Try.prog 12 (.int .u64 0) 8 := ⟨let ⟨i, h, h1, h2, h3⟩ := info_parts info12; ⟨i, h, h2, h1, h3⟩, by decide⟩
theorem info15 : (Try.prog.info? 15).map (fun i => (i.zero, i.size, i.bytes)) = some (some (.pointer none), 1, 8) := by kernel_rfl
instance : TCell Try.prog 15 := ⟨⟨_, Try.underlying15, rfl⟩, let ⟨i, h, _, h2, _⟩ := info_parts info15; ⟨i, h, h2⟩⟩
instance : TElem Try.prog 15 (.pointer none) 8 := ⟨let ⟨i, h, h1, h2, h3⟩ := info_parts info15; ⟨i, h, h2, h1, h3⟩, by decide⟩
theorem info16 : (Try.prog.info? 16).map (fun i => (i.zero, i.size, i.bytes)) = some (some (.pointer none), 1, 8) := by kernel_rfl
instance : TCell Try.prog 16 := ⟨⟨_, Try.underlying16, rfl⟩, let ⟨i, h, _, h2, _⟩ := info_parts info16; ⟨i, h, h2⟩⟩
instance : TElem Try.prog 16 (.pointer none) 8 := ⟨let ⟨i, h, h1, h2, h3⟩ := info_parts info16; ⟨i, h, h2, h1, h3⟩, by decide⟩
theorem info17 : (Try.prog.info? 17).map (fun i => (i.zero, i.size, i.bytes)) = some (some (.pointer none), 1, 8) := by kernel_rfl
instance : TCell Try.prog 17 := ⟨⟨_, Try.underlying17, rfl⟩, let ⟨i, h, _, h2, _⟩ := info_parts info17; ⟨i, h, h2⟩⟩
instance : TElem Try.prog 17 (.pointer none) 8 := ⟨let ⟨i, h, h1, h2, h3⟩ := info_parts info17; ⟨i, h, h2, h1, h3⟩, by decide⟩
instance : TKind Try.prog 21 .i32 := ⟨Try.underlying21⟩
theorem info21 : (Try.prog.info? 21).map (fun i => (i.zero, i.size, i.bytes)) = some (some (.int .i32 0), 1, 4) := by kernel_rfl
instance : TCell Try.prog 21 := ⟨⟨_, Try.underlying21, rfl⟩, let ⟨i, h, _, h2, _⟩ := info_parts info21; ⟨i, h, h2⟩⟩
instance : TElem Try.prog 21 (.int .i32 0) 4 := ⟨let ⟨i, h, h1, h2, h3⟩ := info_parts info21; ⟨i, h, h2, h1, h3⟩, by decide⟩
instance : TSlice Try.prog 22 2 := ⟨Try.underlying22⟩
theorem info22 : (Try.prog.info? 22).map (fun i => (i.zero, i.size, i.bytes)) = some (some (.slice none 0 0), 1, 24) := by kernel_rfl
instance : TCell Try.prog 22 := ⟨⟨_, Try.underlying22, rfl⟩, let ⟨i, h, _, h2, _⟩ := info_parts info22; ⟨i, h, h2⟩⟩
instance : TElem Try.prog 22 (.slice none 0 0) 24 := ⟨let ⟨i, h, h1, h2, h3⟩ := info_parts info22; ⟨i, h, h2, h1, h3⟩, by decide⟩
theorem info23 : (Try.prog.info? 23).map (fun i => (i.zero, i.size, i.bytes)) = some (some (.agg [.int .i64 0, .slice none 0 0].toArray), 2, 32) := by kernel_rfl
instance : TStruct Try.prog 23 2 [.int .i64 0, .slice none 0 0] := ⟨⟨_, Try.underlying23, rfl⟩, let ⟨i, h, h1, h2, _⟩ := info_parts info23; ⟨i, h, h2, h1, rfl⟩⟩
instance : TBuild Try.prog 23 2 [.int .i64 0, .slice none 0 0] := .str (let ⟨i, h, h1, _, _⟩ := info_parts info23; ⟨i, h, h1, rfl⟩) ⟨_, Try.underlying23, by kernel_rfl⟩
instance : TField Try.prog 23 0 0 := ⟨let ⟨i, h, _, h2, _⟩ := info_parts info2; ⟨_, _, i, Try.underlying23, rfl, rfl, h, h2, _, Try.underlying2, rfl⟩⟩
instance : TField Try.prog 23 1 1 := ⟨let ⟨i, h, _, h2, _⟩ := info_parts info22; ⟨_, _, i, Try.underlying23, rfl, rfl, h, h2, _, Try.underlying22, rfl⟩⟩
theorem info24 : (Try.prog.info? 24).map (fun i => (i.zero, i.size, i.bytes)) = some (some (.agg [.int .i64 0, .slice none 0 0].toArray), 2, 32) := by kernel_rfl
instance : TStruct Try.prog 24 2 [.int .i64 0, .slice none 0 0] := ⟨⟨_, Try.underlying24, rfl⟩, let ⟨i, h, h1, h2, _⟩ := info_parts info24; ⟨i, h, h2, h1, rfl⟩⟩
instance : TBuild Try.prog 24 2 [.int .i64 0, .slice none 0 0] := .str (let ⟨i, h, h1, _, _⟩ := info_parts info24; ⟨i, h, h1, rfl⟩) ⟨_, Try.underlying24, by kernel_rfl⟩
instance : TField Try.prog 24 0 0 := ⟨let ⟨i, h, _, h2, _⟩ := info_parts info2; ⟨_, _, i, Try.underlying24, rfl, rfl, h, h2, _, Try.underlying2, rfl⟩⟩
instance : TField Try.prog 24 1 1 := ⟨let ⟨i, h, _, h2, _⟩ := info_parts info22; ⟨_, _, i, Try.underlying24, rfl, rfl, h, h2, _, Try.underlying22, rfl⟩⟩
theorem info25 : (Try.prog.info? 25).map (fun i => (i.zero, i.size, i.bytes)) = some (some (.nilFunc), 1, 8) := by kernel_rfl
instance : TCell Try.prog 25 := ⟨⟨_, Try.underlying25, rfl⟩, let ⟨i, h, _, h2, _⟩ := info_parts info25; ⟨i, h, h2⟩⟩
instance : TElem Try.prog 25 (.nilFunc) 8 := ⟨let ⟨i, h, h1, h2, h3⟩ := info_parts info25; ⟨i, h, h2, h1, h3⟩, by decide⟩
theorem info27 : (Try.prog.info? 27).map (fun i => (i.zero, i.size, i.bytes)) = some (some (.nilFunc), 1, 8) := by kernel_rfl
instance : TCell Try.prog 27 := ⟨⟨_, Try.underlying27, rfl⟩, let ⟨i, h, _, h2, _⟩ := info_parts info27; ⟨i, h, h2⟩⟩
instance : TElem Try.prog 27 (.nilFunc) 8 := ⟨let ⟨i, h, h1, h2, h3⟩ := info_parts info27; ⟨i, h, h2, h1, h3⟩, by decide⟩
theorem info28 : (Try.prog.info? 28).map (fun i => (i.zero, i.size, i.bytes)) = some (some (.agg [.int .i64 0, .slice none 0 0].toArray), 2, 32) := by kernel_rfl
instance : TStruct Try.prog 28 2 [.int .i64 0, .slice none 0 0] := ⟨⟨_, Try.underlying28, rfl⟩, let ⟨i, h, h1, h2, _⟩ := info_parts info28; ⟨i, h, h2, h1, rfl⟩⟩
instance : TBuild Try.prog 28 2 [.int .i64 0, .slice none 0 0] := .str (let ⟨i, h, h1, _, _⟩ := info_parts info28; ⟨i, h, h1, rfl⟩) ⟨_, Try.underlying28, by kernel_rfl⟩
instance : TField Try.prog 28 0 0 := ⟨let ⟨i, h, _, h2, _⟩ := info_parts info2; ⟨_, _, i, Try.underlying28, rfl, rfl, h, h2, _, Try.underlying2, rfl⟩⟩
instance : TField Try.prog 28 1 1 := ⟨let ⟨i, h, _, h2, _⟩ := info_parts info22; ⟨_, _, i, Try.underlying28, rfl, rfl, h, h2, _, Try.underlying22, rfl⟩⟩
theorem info29 : (Try.prog.info? 29).map (fun i => (i.zero, i.size, i.bytes)) = some (some (.nilFunc), 1, 8) := by kernel_rfl
instance : TCell Try.prog 29 := ⟨⟨_, Try.underlying29, rfl⟩, let ⟨i, h, _, h2, _⟩ := info_parts info29; ⟨i, h, h2⟩⟩
instance : TElem Try.prog 29 (.nilFunc) 8 := ⟨let ⟨i, h, h1, h2, h3⟩ := info_parts info29; ⟨i, h, h2, h1, h3⟩, by decide⟩
theorem info30 : (Try.prog.info? 30).map (fun i => (i.zero, i.size, i.bytes)) = some (some (.nilFunc), 1, 8) := by kernel_rfl
instance : TCell Try.prog 30 := ⟨⟨_, Try.underlying30, rfl⟩, let ⟨i, h, _, h2, _⟩ := info_parts info30; ⟨i, h, h2⟩⟩
instance : TElem Try.prog 30 (.nilFunc) 8 := ⟨let ⟨i, h, h1, h2, h3⟩ := info_parts info30; ⟨i, h, h2, h1, h3⟩, by decide⟩
theorem info31 : (Try.prog.info? 31).map (fun i => (i.zero, i.size, i.bytes)) = some (some (.nilFunc), 1, 8) := by kernel_rfl
instance : TCell Try.prog 31 := ⟨⟨_, Try.underlying31, rfl⟩, let ⟨i, h, _, h2, _⟩ := info_parts info31; ⟨i, h, h2⟩⟩
instance : TElem Try.prog 31 (.nilFunc) 8 := ⟨let ⟨i, h, h1, h2, h3⟩ := info_parts info31; ⟨i, h, h2, h1, h3⟩, by decide⟩
theorem info32 : (Try.prog.info? 32).map (fun i => (i.zero, i.size, i.bytes)) = some (some (.nilFunc), 1, 8) := by kernel_rfl
instance : TCell Try.prog 32 := ⟨⟨_, Try.underlying32, rfl⟩, let ⟨i, h, _, h2, _⟩ := info_parts info32; ⟨i, h, h2⟩⟩
instance : TElem Try.prog 32 (.nilFunc) 8 := ⟨let ⟨i, h, h1, h2, h3⟩ := info_parts info32; ⟨i, h, h2, h1, h3⟩, by decide⟩
theorem info33 : (Try.prog.info? 33).map (fun i => (i.zero, i.size, i.bytes)) = some (some (.nilFunc), 1, 8) := by kernel_rfl
instance : TCell Try.prog 33 := ⟨⟨_, Try.underlying33, rfl⟩, let ⟨i, h, _, h2, _⟩ := info_parts info33; ⟨i, h, h2⟩⟩
instance : TElem Try.prog 33 (.nilFunc) 8 := ⟨let ⟨i, h, h1, h2, h3⟩ := info_parts info33; ⟨i, h, h2, h1, h3⟩, by decide⟩
theorem info34 : (Try.prog.info? 34).map (fun i => (i.zero, i.size, i.bytes)) = some (some (.nilFunc), 1, 8) := by kernel_rfl
instance : TCell Try.prog 34 := ⟨⟨_, Try.underlying34, rfl⟩, let ⟨i, h, _, h2, _⟩ := info_parts info34; ⟨i, h, h2⟩⟩
instance : TElem Try.prog 34 (.nilFunc) 8 := ⟨let ⟨i, h, h1, h2, h3⟩ := info_parts info34; ⟨i, h, h2, h1, h3⟩, by decide⟩
instance : TSlice Try.prog 35 47 := ⟨Try.underlying35⟩
theorem info35 : (Try.prog.info? 35).map (fun i => (i.zero, i.size, i.bytes)) = some (some (.slice none 0 0), 1, 24) := by kernel_rfl
instance : TCell Try.prog 35 := ⟨⟨_, Try.underlying35, rfl⟩, let ⟨i, h, _, h2, _⟩ := info_parts info35; ⟨i, h, h2⟩⟩
instance : TElem Try.prog 35 (.slice none 0 0) 24 := ⟨let ⟨i, h, h1, h2, h3⟩ := info_parts info35; ⟨i, h, h2, h1, h3⟩, by decide⟩
theorem info36 : (Try.prog.info? 36).map (fun i => (i.zero, i.size, i.bytes)) = some (some (.nilFunc), 1, 8) := by kernel_rfl
instance : TCell Try.prog 36 := ⟨⟨_, Try.underlying36, rfl⟩, let ⟨i, h, _, h2, _⟩ := info_parts info36; ⟨i, h, h2⟩⟩
instance : TElem Try.prog 36 (.nilFunc) 8 := ⟨let ⟨i, h, h1, h2, h3⟩ := info_parts info36; ⟨i, h, h2, h1, h3⟩, by decide⟩
theorem info37 : (Try.prog.info? 37).map (fun i => (i.zero, i.size, i.bytes)) = some (some (.nilFunc), 1, 8) := by kernel_rfl
instance : TCell Try.prog 37 := ⟨⟨_, Try.underlying37, rfl⟩, let ⟨i, h, _, h2, _⟩ := info_parts info37; ⟨i, h, h2⟩⟩
instance : TElem Try.prog 37 (.nilFunc) 8 := ⟨let ⟨i, h, h1, h2, h3⟩ := info_parts info37; ⟨i, h, h2, h1, h3⟩, by decide⟩
instance : TSlice Try.prog 38 50 := ⟨Try.underlying38⟩
theorem info38 : (Try.prog.info? 38).map (fun i => (i.zero, i.size, i.bytes)) = some (some (.slice none 0 0), 1, 24) := by kernel_rfl
instance : TCell Try.prog 38 := ⟨⟨_, Try.underlying38, rfl⟩, let ⟨i, h, _, h2, _⟩ := info_parts info38; ⟨i, h, h2⟩⟩
instance : TElem Try.prog 38 (.slice none 0 0) 24 := ⟨let ⟨i, h, h1, h2, h3⟩ := info_parts info38; ⟨i, h, h2, h1, h3⟩, by decide⟩
theorem info39 : (Try.prog.info? 39).map (fun i => (i.zero, i.size, i.bytes)) = some (some (.nilFunc), 1, 8) := by kernel_rfl
instance : TCell Try.prog 39 := ⟨⟨_, Try.underlying39, rfl⟩, let ⟨i, h, _, h2, _⟩ := info_parts info39; ⟨i, h, h2⟩⟩
instance : TElem Try.prog 39 (.nilFunc) 8 := ⟨let ⟨i, h, h1, h2, h3⟩ := info_parts info39; ⟨i, h, h2, h1, h3⟩, by decide⟩
theorem info40 : (Try.prog.info? 40).map (fun i => (i.zero, i.size, i.bytes)) = some (some (.nilFunc), 1, 8) := by kernel_rfl
instance : TCell Try.prog 40 := ⟨⟨_, Try.underlying40, rfl⟩, let ⟨i, h, _, h2, _⟩ := info_parts info40; ⟨i, h, h2⟩⟩
instance : TElem Try.prog 40 (.nilFunc) 8 := ⟨let ⟨i, h, h1, h2, h3⟩ := info_parts info40; ⟨i, h, h2, h1, h3⟩, by decide⟩
theorem info41 : (Try.prog.info? 41).map (fun i => (i.zero, i.size, i.bytes)) = some (some (.nilFunc), 1, 8) := by kernel_rfl
instance : TCell Try.prog 41 := ⟨⟨_, Try.underlying41, rfl⟩, let ⟨i, h, _, h2, _⟩ := info_parts info41; ⟨i, h, h2⟩⟩
instance : TElem Try.prog 41 (.nilFunc) 8 := ⟨let ⟨i, h, h1, h2, h3⟩ := info_parts info41; ⟨i, h, h2, h1, h3⟩, by decide⟩
theorem info42 : (Try.prog.info? 42).map (fun i => (i.zero, i.size, i.bytes)) = some (some (.nilFunc), 1, 8) := by kernel_rfl
instance : TCell Try.prog 42 := ⟨⟨_, Try.underlying42, rfl⟩, let ⟨i, h, _, h2, _⟩ := info_parts info42; ⟨i, h, h2⟩⟩
instance : TElem Try.prog 42 (.nilFunc) 8 := ⟨let ⟨i, h, h1, h2, h3⟩ := info_parts info42; ⟨i, h, h2, h1, h3⟩, by decide⟩
theorem info44 : (Try.prog.info? 44).map (fun i => (i.zero, i.size, i.bytes)) = some (some (.nilFunc), 1, 8) := by kernel_rfl
instance : TCell Try.prog 44 := ⟨⟨_, Try.underlying44, rfl⟩, let ⟨i, h, _, h2, _⟩ := info_parts info44; ⟨i, h, h2⟩⟩
instance : TElem Try.prog 44 (.nilFunc) 8 := ⟨let ⟨i, h, h1, h2, h3⟩ := info_parts info44; ⟨i, h, h2, h1, h3⟩, by decide⟩
instance : TSlice Try.prog 45 22 := ⟨Try.underlying45⟩
theorem info45 : (Try.prog.info? 45).map (fun i => (i.zero, i.size, i.bytes)) = some (some (.slice none 0 0), 1, 24) := by kernel_rfl
instance : TCell Try.prog 45 := ⟨⟨_, Try.underlying45, rfl⟩, let ⟨i, h, _, h2, _⟩ := info_parts info45; ⟨i, h, h2⟩⟩
instance : TElem Try.prog 45 (.slice none 0 0) 24 := ⟨let ⟨i, h, h1, h2, h3⟩ := info_parts info45; ⟨i, h, h2, h1, h3⟩, by decide⟩
theorem info46 : (Try.prog.info? 46).map (fun i => (i.zero, i.size, i.bytes)) = some (some (.agg [.slice none 0 0].toArray), 1, 24) := by kernel_rfl
instance : TStruct Try.prog 46 1 [.slice none 0 0] := ⟨⟨_, Try.underlying46, rfl⟩, let ⟨i, h, h1, h2, _⟩ := info_parts info46; ⟨i, h, h2, h1, rfl⟩⟩
instance : TElem Try.prog 46 (.agg [.slice none 0 0].toArray) 24 := ⟨let ⟨i, h, h1, h2, h3⟩ := info_parts info46; ⟨i, h, h2, h1, h3⟩, by decide⟩
instance : TBuild Try.prog 46 1 [.slice none 0 0] := .str (let ⟨i, h, h1, _, _⟩ := info_parts info46; ⟨i, h, h1, rfl⟩) ⟨_, Try.underlying46, by kernel_rfl⟩
instance : TField Try.prog 46 0 0 := ⟨let ⟨i, h, _, h2, _⟩ := info_parts info45; ⟨_, _, i, Try.underlying46, rfl, rfl, h, h2, _, Try.underlying45, rfl⟩⟩
theorem info47 : (Try.prog.info? 47).map (fun i => (i.zero, i.size, i.bytes)) = some (some (.agg [.slice none 0 0].toArray), 1, 24) := by kernel_rfl
instance : TStruct Try.prog 47 1 [.slice none 0 0] := ⟨⟨_, Try.underlying47, rfl⟩, let ⟨i, h, h1, h2, _⟩ := info_parts info47; ⟨i, h, h2, h1, rfl⟩⟩
instance : TElem Try.prog 47 (.agg [.slice none 0 0].toArray) 24 := ⟨let ⟨i, h, h1, h2, h3⟩ := info_parts info47; ⟨i, h, h2, h1, h3⟩, by decide⟩
instance : TBuild Try.prog 47 1 [.slice none 0 0] := .str (let ⟨i, h, h1, _, _⟩ := info_parts info47; ⟨i, h, h1, rfl⟩) ⟨_, Try.underlying47, by kernel_rfl⟩
instance : TField Try.prog 47 0 0 := ⟨let ⟨i, h, _, h2, _⟩ := info_parts info45; ⟨_, _, i, Try.underlying47, rfl, rfl, h, h2, _, Try.underlying45, rfl⟩⟩
theorem info48 : (Try.prog.info? 48).map (fun i => (i.zero, i.size, i.bytes)) = some (some (.nilFunc), 1, 8) := by kernel_rfl
instance : TCell Try.prog 48 := ⟨⟨_, Try.underlying48, rfl⟩, let ⟨i, h, _, h2, _⟩ := info_parts info48; ⟨i, h, h2⟩⟩
instance : TElem Try.prog 48 (.nilFunc) 8 := ⟨let ⟨i, h, h1, h2, h3⟩ := info_parts info48; ⟨i, h, h2, h1, h3⟩, by decide⟩
theorem info49 : (Try.prog.info? 49).map (fun i => (i.zero, i.size, i.bytes)) = some (some (.nilFunc), 1, 8) := by kernel_rfl
instance : TCell Try.prog 49 := ⟨⟨_, Try.underlying49, rfl⟩, let ⟨i, h, _, h2, _⟩ := info_parts info49; ⟨i, h, h2⟩⟩
instance : TElem Try.prog 49 (.nilFunc) 8 := ⟨let ⟨i, h, h1, h2, h3⟩ := info_parts info49; ⟨i, h, h2, h1, h3⟩, by decide⟩
theorem info50 : (Try.prog.info? 50).map (fun i => (i.zero, i.size, i.bytes)) = some (some (.agg [.slice none 0 0].toArray), 1, 24) := by kernel_rfl
instance : TStruct Try.prog 50 1 [.slice none 0 0] := ⟨⟨_, Try.underlying50, rfl⟩, let ⟨i, h, h1, h2, _⟩ := info_parts info50; ⟨i, h, h2, h1, rfl⟩⟩
instance : TElem Try.prog 50 (.agg [.slice none 0 0].toArray) 24 := ⟨let ⟨i, h, h1, h2, h3⟩ := info_parts info50; ⟨i, h, h2, h1, h3⟩, by decide⟩
instance : TBuild Try.prog 50 1 [.slice none 0 0] := .str (let ⟨i, h, h1, _, _⟩ := info_parts info50; ⟨i, h, h1, rfl⟩) ⟨_, Try.underlying50, by kernel_rfl⟩
instance : TField Try.prog 50 0 0 := ⟨let ⟨i, h, _, h2, _⟩ := info_parts info45; ⟨_, _, i, Try.underlying50, rfl, rfl, h, h2, _, Try.underlying45, rfl⟩⟩
theorem info51 : (Try.prog.info? 51).map (fun i => (i.zero, i.size, i.bytes)) = some (some (.nilFunc), 1, 8) := by kernel_rfl
instance : TCell Try.prog 51 := ⟨⟨_, Try.underlying51, rfl⟩, let ⟨i, h, _, h2, _⟩ := info_parts info51; ⟨i, h, h2⟩⟩
instance : TElem Try.prog 51 (.nilFunc) 8 := ⟨let ⟨i, h, h1, h2, h3⟩ := info_parts info51; ⟨i, h, h2, h1, h3⟩, by decide⟩
theorem info52 : (Try.prog.info? 52).map (fun i => (i.zero, i.size, i.bytes)) = some (some (.nilFunc), 1, 8) := by kernel_rfl
instance : TCell Try.prog 52 := ⟨⟨_, Try.underlying52, rfl⟩, let ⟨i, h, _, h2, _⟩ := info_parts info52; ⟨i, h, h2⟩⟩
instance : TElem Try.prog 52 (.nilFunc) 8 := ⟨let ⟨i, h, h1, h2, h3⟩ := info_parts info52; ⟨i, h, h2, h1, h3⟩, by decide⟩
theorem info53 : (Try.prog.info? 53).map (fun i => (i.zero, i.size, i.bytes)) = some (some (.nilFunc), 1, 8) := by kernel_rfl
instance : TCell Try.prog 53 := ⟨⟨_, Try.underlying53, rfl⟩, let ⟨i, h, _, h2, _⟩ := info_parts info53; ⟨i, h, h2⟩⟩
instance : TElem Try.prog 53 (.nilFunc) 8 := ⟨let ⟨i, h, h1, h2, h3⟩ := info_parts info53; ⟨i, h, h2, h1, h3⟩, by decide⟩
theorem info55 : (Try.prog.info? 55).map (fun i => (i.zero, i.size, i.bytes)) = some (some (.nilFunc), 1, 8) := by kernel_rfl
instance : TCell Try.prog 55 := ⟨⟨_, Try.underlying55, rfl⟩, let ⟨i, h, _, h2, _⟩ := info_parts info55; ⟨i, h, h2⟩⟩
instance : TElem Try.prog 55 (.nilFunc) 8 := ⟨let ⟨i, h, h1, h2, h3⟩ := info_parts info55; ⟨i, h, h2, h1, h3⟩, by decide⟩
theorem info56 : (Try.prog.info? 56).map (fun i => (i.zero, i.size, i.bytes)) = some (some (.nilFunc), 1, 8) := by kernel_rfl
instance : TCell Try.prog 56 := ⟨⟨_, Try.underlying56, rfl⟩, let ⟨i, h, _, h2, _⟩ := info_parts info56; ⟨i, h, h2⟩⟩
instance : TElem Try.prog 56 (.nilFunc) 8 := ⟨let ⟨i, h, h1, h2, h3⟩ := info_parts info56; ⟨i, h, h2, h1, h3⟩, by decide⟩
theorem info57 : (Try.prog.info? 57).map (fun i => (i.zero, i.size, i.bytes)) = some (some (.nilFunc), 1, 8) := by kernel_rfl
instance : TCell Try.prog 57 := ⟨⟨_, Try.underlying57, rfl⟩, let ⟨i, h, _, h2, _⟩ := info_parts info57; ⟨i, h, h2⟩⟩
instance : TElem Try.prog 57 (.nilFunc) 8 := ⟨let ⟨i, h, h1, h2, h3⟩ := info_parts info57; ⟨i, h, h2, h1, h3⟩, by decide⟩
theorem info58 : (Try.prog.info? 58).map (fun i => (i.zero, i.size, i.bytes)) = some (some (.nilFunc), 1, 8) := by kernel_rfl
instance : TCell Try.prog 58 := ⟨⟨_, Try.underlying58, rfl⟩, let ⟨i, h, _, h2, _⟩ := info_parts info58; ⟨i, h, h2⟩⟩
instance : TElem Try.prog 58 (.nilFunc) 8 := ⟨let ⟨i, h, h1, h2, h3⟩ := info_parts info58; ⟨i, h, h2, h1, h3⟩, by decide⟩
theorem info59 : (Try.prog.info? 59).map (fun i => (i.zero, i.size, i.bytes)) = some (some (.nilFunc), 1, 8) := by kernel_rfl
instance : TCell Try.prog 59 := ⟨⟨_, Try.underlying59, rfl⟩, let ⟨i, h, _, h2, _⟩ := info_parts info59; ⟨i, h, h2⟩⟩
instance : TElem Try.prog 59 (.nilFunc) 8 := ⟨let ⟨i, h, h1, h2, h3⟩ := info_parts info59; ⟨i, h, h2, h1, h3⟩, by decide⟩
theorem info60 : (Try.prog.info? 60).map (fun i => (i.zero, i.size, i.bytes)) = some (some (.nilFunc), 1, 8) := by kernel_rfl
instance : TCell Try.prog 60 := ⟨⟨_, Try.underlying60, rfl⟩, let ⟨i, h, _, h2, _⟩ := info_parts info60; ⟨i, h, h2⟩⟩
instance : TElem Try.prog 60 (.nilFunc) 8 := ⟨let ⟨i, h, h1, h2, h3⟩ := info_parts info60; ⟨i, h, h2, h1, h3⟩, by decide⟩
theorem info61 : (Try.prog.info? 61).map (fun i => (i.zero, i.size, i.bytes)) = some (some (.map none), 1, 8) := by kernel_rfl
instance : TCell Try.prog 61 := ⟨⟨_, Try.underlying61, rfl⟩, let ⟨i, h, _, h2, _⟩ := info_parts info61; ⟨i, h, h2⟩⟩
instance : TElem Try.prog 61 (.map none) 8 := ⟨let ⟨i, h, h1, h2, h3⟩ := info_parts info61; ⟨i, h, h2, h1, h3⟩, by decide⟩
instance : TMap Try.prog 61 3 22 := ⟨Try.underlying61⟩
theorem info62 : (Try.prog.info? 62).map (fun i => (i.zero, i.size, i.bytes)) = some (some (.agg [.map none].toArray), 1, 8) := by kernel_rfl
instance : TStruct Try.prog 62 1 [.map none] := ⟨⟨_, Try.underlying62, rfl⟩, let ⟨i, h, h1, h2, _⟩ := info_parts info62; ⟨i, h, h2, h1, rfl⟩⟩
instance : TElem Try.prog 62 (.agg [.map none].toArray) 8 := ⟨let ⟨i, h, h1, h2, h3⟩ := info_parts info62; ⟨i, h, h2, h1, h3⟩, by decide⟩
instance : TBuild Try.prog 62 1 [.map none] := .str (let ⟨i, h, h1, _, _⟩ := info_parts info62; ⟨i, h, h1, rfl⟩) ⟨_, Try.underlying62, by kernel_rfl⟩
instance : TField Try.prog 62 0 0 := ⟨let ⟨i, h, _, h2, _⟩ := info_parts info61; ⟨_, _, i, Try.underlying62, rfl, rfl, h, h2, _, Try.underlying61, rfl⟩⟩
theorem info63 : (Try.prog.info? 63).map (fun i => (i.zero, i.size, i.bytes)) = some (some (.agg [.map none].toArray), 1, 8) := by kernel_rfl
instance : TStruct Try.prog 63 1 [.map none] := ⟨⟨_, Try.underlying63, rfl⟩, let ⟨i, h, h1, h2, _⟩ := info_parts info63; ⟨i, h, h2, h1, rfl⟩⟩
instance : TElem Try.prog 63 (.agg [.map none].toArray) 8 := ⟨let ⟨i, h, h1, h2, h3⟩ := info_parts info63; ⟨i, h, h2, h1, h3⟩, by decide⟩
instance : TBuild Try.prog 63 1 [.map none] := .str (let ⟨i, h, h1, _, _⟩ := info_parts info63; ⟨i, h, h1, rfl⟩) ⟨_, Try.underlying63, by kernel_rfl⟩
instance : TField Try.prog 63 0 0 := ⟨let ⟨i, h, _, h2, _⟩ := info_parts info61; ⟨_, _, i, Try.underlying63, rfl, rfl, h, h2, _, Try.underlying61, rfl⟩⟩
theorem info64 : (Try.prog.info? 64).map (fun i => (i.zero, i.size, i.bytes)) = some (some (.nilFunc), 1, 8) := by kernel_rfl
instance : TCell Try.prog 64 := ⟨⟨_, Try.underlying64, rfl⟩, let ⟨i, h, _, h2, _⟩ := info_parts info64; ⟨i, h, h2⟩⟩
instance : TElem Try.prog 64 (.nilFunc) 8 := ⟨let ⟨i, h, h1, h2, h3⟩ := info_parts info64; ⟨i, h, h2, h1, h3⟩, by decide⟩
theorem info65 : (Try.prog.info? 65).map (fun i => (i.zero, i.size, i.bytes)) = some (some (.nilFunc), 1, 8) := by kernel_rfl
instance : TCell Try.prog 65 := ⟨⟨_, Try.underlying65, rfl⟩, let ⟨i, h, _, h2, _⟩ := info_parts info65; ⟨i, h, h2⟩⟩
instance : TElem Try.prog 65 (.nilFunc) 8 := ⟨let ⟨i, h, h1, h2, h3⟩ := info_parts info65; ⟨i, h, h2, h1, h3⟩, by decide⟩
theorem info66 : (Try.prog.info? 66).map (fun i => (i.zero, i.size, i.bytes)) = some (some (.nilFunc), 1, 8) := by kernel_rfl
instance : TCell Try.prog 66 := ⟨⟨_, Try.underlying66, rfl⟩, let ⟨i, h, _, h2, _⟩ := info_parts info66; ⟨i, h, h2⟩⟩
instance : TElem Try.prog 66 (.nilFunc) 8 := ⟨let ⟨i, h, h1, h2, h3⟩ := info_parts info66; ⟨i, h, h2, h1, h3⟩, by decide⟩
theorem info68 : (Try.prog.info? 68).map (fun i => (i.zero, i.size, i.bytes)) = some (some (.nilFunc), 1, 8) := by kernel_rfl
instance : TCell Try.prog 68 := ⟨⟨_, Try.underlying68, rfl⟩, let ⟨i, h, _, h2, _⟩ := info_parts info68; ⟨i, h, h2⟩⟩
instance : TElem Try.prog 68 (.nilFunc) 8 := ⟨let ⟨i, h, h1, h2, h3⟩ := info_parts info68; ⟨i, h, h2, h1, h3⟩, by decide⟩
theorem info69 : (Try.prog.info? 69).map (fun i => (i.zero, i.size, i.bytes)) = some (some (.nilFunc), 1, 8) := by kernel_rfl
instance : TCell Try.prog 69 := ⟨⟨_, Try.underlying69, rfl⟩, let ⟨i, h, _, h2, _⟩ := info_parts info69; ⟨i, h, h2⟩⟩
instance : TElem Try.prog 69 (.nilFunc) 8 := ⟨let ⟨i, h, h1, h2, h3⟩ := info_parts info69; ⟨i, h, h2, h1, h3⟩, by decide⟩
theorem info70 : (Try.prog.info? 70).map (fun i => (i.zero, i.size, i.bytes)) = some (some (.nilFunc), 1, 8) := by kernel_rfl
instance : TCell Try.prog 70 := ⟨⟨_, Try.underlying70, rfl⟩, let ⟨i, h, _, h2, _⟩ := info_parts info70; ⟨i, h, h2⟩⟩
instance : TElem Try.prog 70 (.nilFunc) 8 := ⟨let ⟨i, h, h1, h2, h3⟩ := info_parts info70; ⟨i, h, h2, h1, h3⟩, by decide⟩
theorem info71 : (Try.prog.info? 71).map (fun i => (i.zero, i.size, i.bytes)) = some (some (.nilFunc), 1, 8) := by kernel_rfl
instance : TCell Try.prog 71 := ⟨⟨_, Try.underlying71, rfl⟩, let ⟨i, h, _, h2, _⟩ := info_parts info71; ⟨i, h, h2⟩⟩
instance : TElem Try.prog 71 (.nilFunc) 8 := ⟨let ⟨i, h, h1, h2, h3⟩ := info_parts info71; ⟨i, h, h2, h1, h3⟩, by decide⟩
theorem info72 : (Try.prog.info? 72).map (fun i => (i.zero, i.size, i.bytes)) = some (some (.nilFunc), 1, 8) := by kernel_rfl
instance : TCell Try.prog 72 := ⟨⟨_, Try.underlying72, rfl⟩, let ⟨i, h, _, h2, _⟩ := info_parts info72; ⟨i, h, h2⟩⟩
instance : TElem Try.prog 72 (.nilFunc) 8 := ⟨let ⟨i, h, h1, h2, h3⟩ := info_parts info72; ⟨i, h, h2, h1, h3⟩, by decide⟩
theorem info73 : (Try.prog.info? 73).map (fun i => (i.zero, i.size, i.bytes)) = some (some (.nilFunc), 1, 8) := by kernel_rfl
instance : TCell Try.prog 73 := ⟨⟨_, Try.underlying73, rfl⟩, let ⟨i, h, _, h2, _⟩ := info_parts info73; ⟨i, h, h2⟩⟩
instance : TElem Try.prog 73 (.nilFunc) 8 := ⟨let ⟨i, h, h1, h2, h3⟩ := info_parts info73; ⟨i, h, h2, h1, h3⟩, by decide⟩
theorem info74 : (Try.prog.info? 74).map (fun i => (i.zero, i.size, i.bytes)) = some (some (.nilFunc), 1, 8) := by kernel_rfl
instance : TCell Try.prog 74 := ⟨⟨_, Try.underlying74, rfl⟩, let ⟨i, h, _, h2, _⟩ := info_parts info74; ⟨i, h, h2⟩⟩
instance : TElem Try.prog 74 (.nilFunc) 8 := ⟨let ⟨i, h, h1, h2, h3⟩ := info_parts info74; ⟨i, h, h2, h1, h3⟩, by decide⟩
theorem info75 : (Try.prog.info? 75).map (fun i => (i.zero, i.size, i.bytes)) = some (some (.nilFunc), 1, 8) := by kernel_rfl
instance : TCell Try.prog 75 := ⟨⟨_, Try.underlying75, rfl⟩, let ⟨i, h, _, h2, _⟩ := info_parts info75; ⟨i, h, h2⟩⟩
instance : TElem Try.prog 75 (.nilFunc) 8 := ⟨let ⟨i, h, h1, h2, h3⟩ := info_parts info75; ⟨i, h, h2, h1, h3⟩, by decide⟩
theorem info76 : (Try.prog.info? 76).map (fun i => (i.zero, i.size, i.bytes)) = some (some (.nilFunc), 1, 8) := by kernel_rfl
instance : TCell Try.prog 76 := ⟨⟨_, Try.underlying76, rfl⟩, let ⟨i, h, _, h2, _⟩ := info_parts info76; ⟨i, h, h2⟩⟩
instance : TElem Try.prog 76 (.nilFunc) 8 := ⟨let ⟨i, h, h1, h2, h3⟩ := info_parts info76; ⟨i, h, h2, h1, h3⟩, by decide⟩
theorem info77 : (Try.prog.info? 77).map (fun i => (i.zero, i.size, i.bytes)) = some (some (.nilFunc), 1, 8) := by kernel_rfl
instance : TCell Try.prog 77 := ⟨⟨_, Try.underlying77, rfl⟩, let ⟨i, h, _, h2, _⟩ := info_parts info77; ⟨i, h, h2⟩⟩
instance : TElem Try.prog 77 (.nilFunc) 8 := ⟨let ⟨i, h, h1, h2, h3⟩ := info_parts info77; ⟨i, h, h2, h1, h3⟩, by decide⟩
theorem info78 : (Try.prog.info? 78).map (fun i => (i.zero, i.size, i.bytes)) = some (some (.nilFunc), 1, 8) := by kernel_rfl
instance : TCell Try.prog 78 := ⟨⟨_, Try.underlying78, rfl⟩, let ⟨i, h, _, h2, _⟩ := info_parts info78; ⟨i, h, h2⟩⟩
instance : TElem Try.prog 78 (.nilFunc) 8 := ⟨let ⟨i, h, h1, h2, h3⟩ := info_parts info78; ⟨i, h, h2, h1, h3⟩, by decide⟩
theorem info79 : (Try.prog.info? 79).map (fun i => (i.zero, i.size, i.bytes)) = some (some (.nilFunc), 1, 8) := by kernel_rfl
instance : TCell Try.prog 79 := ⟨⟨_, Try.underlying79, rfl⟩, let ⟨i, h, _, h2, _⟩ := info_parts info79; ⟨i, h, h2⟩⟩
instance : TElem Try.prog 79 (.nilFunc) 8 := ⟨let ⟨i, h, h1, h2, h3⟩ := info_parts info79; ⟨i, h, h2, h1, h3⟩, by decide⟩
theorem info80 : (Try.prog.info? 80).map (fun i => (i.zero, i.size, i.bytes)) = some (some (.nilFunc), 1, 8) := by kernel_rfl
instance : TCell Try.prog 80 := ⟨⟨_, Try.underlying80, rfl⟩, let ⟨i, h, _, h2, _⟩ := info_parts info80; ⟨i, h, h2⟩⟩
instance : TElem Try.prog 80 (.nilFunc) 8 := ⟨let ⟨i, h, h1, h2, h3⟩ := info_parts info80; ⟨i, h, h2, h1, h3⟩, by decide⟩
theorem info81 : (Try.prog.info? 81).map (fun i => (i.zero, i.size, i.bytes)) = some (some (.nilFunc), 1, 8) := by kernel_rfl
instance : TCell Try.prog 81 := ⟨⟨_, Try.underlying81, rfl⟩, let ⟨i, h, _, h2, _⟩ := info_parts info81; ⟨i, h, h2⟩⟩
instance : TElem Try.prog 81 (.nilFunc) 8 := ⟨let ⟨i, h, h1, h2, h3⟩ := info_parts info81; ⟨i, h, h2, h1, h3⟩, by decide⟩
theorem info82 : (Try.prog.info? 82).map (fun i => (i.zero, i.size, i.bytes)) = some (some (.map none), 1, 8) := by kernel_rfl
instance : TCell Try.prog 82 := ⟨⟨_, Try.underlying82, rfl⟩, let ⟨i, h, _, h2, _⟩ := info_parts info82; ⟨i, h, h2⟩⟩
instance : TElem Try.prog 82 (.map none) 8 := ⟨let ⟨i, h, h1, h2, h3⟩ := info_parts info82; ⟨i, h, h2, h1, h3⟩, by decide⟩
instance : TMap Try.prog 82 86 2 := ⟨Try.underlying82⟩
theorem info83 : (Try.prog.info? 83).map (fun i => (i.zero, i.size, i.bytes)) = some (some (.map none), 1, 8) := by kernel_rfl
instance : TCell Try.prog 83 := ⟨⟨_, Try.underlying83, rfl⟩, let ⟨i, h, _, h2, _⟩ := info_parts info83; ⟨i, h, h2⟩⟩
instance : TElem Try.prog 83 (.map none) 8 := ⟨let ⟨i, h, h1, h2, h3⟩ := info_parts info83; ⟨i, h, h2, h1, h3⟩, by decide⟩
instance : TMap Try.prog 83 86 2 := ⟨Try.underlying83⟩
theorem info84 : (Try.prog.info? 84).map (fun i => (i.zero, i.size, i.bytes)) = some (some (.nilFunc), 1, 8) := by kernel_rfl
instance : TCell Try.prog 84 := ⟨⟨_, Try.underlying84, rfl⟩, let ⟨i, h, _, h2, _⟩ := info_parts info84; ⟨i, h, h2⟩⟩
instance : TElem Try.prog 84 (.nilFunc) 8 := ⟨let ⟨i, h, h1, h2, h3⟩ := info_parts info84; ⟨i, h, h2, h1, h3⟩, by decide⟩
theorem info85 : (Try.prog.info? 85).map (fun i => (i.zero, i.size, i.bytes)) = some (some (.agg [.int .i64 0, .int .i64 0].toArray), 2, 16) := by kernel_rfl
instance : TStruct Try.prog 85 2 [.int .i64 0, .int .i64 0] := ⟨⟨_, Try.underlying85, rfl⟩, let ⟨i, h, h1, h2, _⟩ := info_parts info85; ⟨i, h, h2, h1, rfl⟩⟩
instance : TArr Try.prog 85 2 2 := ⟨Try.underlying85, let ⟨i, h, _, h2, _⟩ := info_parts info2; ⟨i, h, h2⟩⟩
instance : TBuild Try.prog 85 2 [.int .i64 0, .int .i64 0] := .arr (let ⟨i, h, h1, _, _⟩ := info_parts info85; ⟨i, h, h1, rfl⟩) (let ⟨i, h, _, h2, _⟩ := info_parts info2; ⟨_, i, Try.underlying85, h, h2⟩)
theorem info86 : (Try.prog.info? 86).map (fun i => (i.zero, i.size, i.bytes)) = some (some (.agg [.int .i64 0, .int .i64 0].toArray), 2, 16) := by kernel_rfl
instance : TStruct Try.prog 86 2 [.int .i64 0, .int .i64 0] := ⟨⟨_, Try.underlying86, rfl⟩, let ⟨i, h, h1, h2, _⟩ := info_parts info86; ⟨i, h, h2, h1, rfl⟩⟩
instance : TArr Try.prog 86 2 2 := ⟨Try.underlying86, let ⟨i, h, _, h2, _⟩ := info_parts info2; ⟨i, h, h2⟩⟩
instance : TBuild Try.prog 86 2 [.int .i64 0, .int .i64 0] := .arr (let ⟨i, h, h1, _, _⟩ := info_parts info86; ⟨i, h, h1, rfl⟩) (let ⟨i, h, _, h2, _⟩ := info_parts info2; ⟨_, i, Try.underlying86, h, h2⟩)
theorem info87 : (Try.prog.info? 87).map (fun i => (i.zero, i.size, i.bytes)) = some (some (.nilFunc), 1, 8) := by kernel_rfl
instance : TCell Try.prog 87 := ⟨⟨_, Try.underlying87, rfl⟩, let ⟨i, h, _, h2, _⟩ := info_parts info87; ⟨i, h, h2⟩⟩
instance : TElem Try.prog 87 (.nilFunc) 8 := ⟨let ⟨i, h, h1, h2, h3⟩ := info_parts info87; ⟨i, h, h2, h1, h3⟩, by decide⟩
theorem info89 : (Try.prog.info? 89).map (fun i => (i.zero, i.size, i.bytes)) = some (some (.nilFunc), 1, 8) := by kernel_rfl
instance : TCell Try.prog 89 := ⟨⟨_, Try.underlying89, rfl⟩, let ⟨i, h, _, h2, _⟩ := info_parts info89; ⟨i, h, h2⟩⟩
instance : TElem Try.prog 89 (.nilFunc) 8 := ⟨let ⟨i, h, h1, h2, h3⟩ := info_parts info89; ⟨i, h, h2, h1, h3⟩, by decide⟩
theorem info90 : (Try.prog.info? 90).map (fun i => (i.zero, i.size, i.bytes)) = some (some (.nilFunc), 1, 8) := by kernel_rfl
instance : TCell Try.prog 90 := ⟨⟨_, Try.underlying90, rfl⟩, let ⟨i, h, _, h2, _⟩ := info_parts info90; ⟨i, h, h2⟩⟩
instance : TElem Try.prog 90 (.nilFunc) 8 := ⟨let ⟨i, h, h1, h2, h3⟩ := info_parts info90; ⟨i, h, h2, h1, h3⟩, by decide⟩
theorem info91 : (Try.prog.info? 91).map (fun i => (i.zero, i.size, i.bytes)) = some (some (.nilFunc), 1, 8) := by kernel_rfl
instance : TCell Try.prog 91 := ⟨⟨_, Try.underlying91, rfl⟩, let ⟨i, h, _, h2, _⟩ := info_parts info91; ⟨i, h, h2⟩⟩
instance : TElem Try.prog 91 (.nilFunc) 8 := ⟨let ⟨i, h, h1, h2, h3⟩ := info_parts info91; ⟨i, h, h2, h1, h3⟩, by decide⟩
theorem info92 : (Try.prog.info? 92).map (fun i => (i.zero, i.size, i.bytes)) = some (some (.nilFunc), 1, 8) := by kernel_rfl
instance : TCell Try.prog 92 := ⟨⟨_, Try.underlying92, rfl⟩, let ⟨i, h, _, h2, _⟩ := info_parts info92; ⟨i, h, h2⟩⟩
instance : TElem Try.prog 92 (.nilFunc) 8 := ⟨let ⟨i, h, h1, h2, h3⟩ := info_parts info92; ⟨i, h, h2, h1, h3⟩, by decide⟩
theorem info93 : (Try.prog.info? 93).map (fun i => (i.zero, i.size, i.bytes)) = some (some (.nilFunc), 1, 8) := by kernel_rfl
instance : TCell Try.prog 93 := ⟨⟨_, Try.underlying93, rfl⟩, let ⟨i, h, _, h2, _⟩ := info_parts info93; ⟨i, h, h2⟩⟩
instance : TElem Try.prog 93 (.nilFunc) 8 := ⟨let ⟨i, h, h1, h2, h3⟩ := info_parts info93; ⟨i, h, h2, h1, h3⟩, by decide⟩
theorem info94 : (Try.prog.info? 94).map (fun i => (i.zero, i.size, i.bytes)) = some (some (.nilFunc), 1, 8) := by kernel_rfl
instance : TCell Try.prog 94 := ⟨⟨_, Try.underlying94, rfl⟩, let ⟨i, h, _, h2, _⟩ := info_parts info94; ⟨i, h, h2⟩⟩
instance : TElem Try.prog 94 (.nilFunc) 8 := ⟨let ⟨i, h, h1, h2, h3⟩ := info_parts info94; ⟨i, h, h2, h1, h3⟩, by decide⟩
theorem info95 : (Try.prog.info? 95).map (fun i => (i.zero, i.size, i.bytes)) = some (some (.nilFunc), 1, 8) := by kernel_rfl
instance : TCell Try.prog 95 := ⟨⟨_, Try.underlying95, rfl⟩, let ⟨i, h, _, h2, _⟩ := info_parts info95; ⟨i, h, h2⟩⟩
instance : TElem Try.prog 95 (.nilFunc) 8 := ⟨let ⟨i, h, h1, h2, h3⟩ := info_parts info95; ⟨i, h, h2, h1, h3⟩, by decide⟩
theorem info96 : (Try.prog.info? 96).map (fun i => (i.zero, i.size, i.bytes)) = some (some (.nilFunc), 1, 8) := by kernel_rfl
instance : TCell Try.prog 96 := ⟨⟨_, Try.underlying96, rfl⟩, let ⟨i, h, _, h2, _⟩ := info_parts info96; ⟨i, h, h2⟩⟩
instance : TElem Try.prog 96 (.nilFunc) 8 := ⟨let ⟨i, h, h1, h2, h3⟩ := info_parts info96; ⟨i, h, h2, h1, h3⟩, by decide⟩
theorem info97 : (Try.prog.info? 97).map (fun i => (i.zero, i.size, i.bytes)) = some (some (.nilFunc), 1, 8) := by kernel_rfl
instance : TCell Try.prog 97 := ⟨⟨_, Try.underlying97, rfl⟩, let ⟨i, h, _, h2, _⟩ := info_parts info97; ⟨i, h, h2⟩⟩
instance : TElem Try.prog 97 (.nilFunc) 8 := ⟨let ⟨i, h, h1, h2, h3⟩ := info_parts info97; ⟨i, h, h2, h1, h3⟩, by decide⟩
theorem info98 : (Try.prog.info? 98).map (fun i => (i.zero, i.size, i.bytes)) = some (some (.nilFunc), 1, 8) := by kernel_rfl
instance : TCell Try.prog 98 := ⟨⟨_, Try.underlying98, rfl⟩, let ⟨i, h, _, h2, _⟩ := info_parts info98; ⟨i, h, h2⟩⟩
instance : TElem Try.prog 98 (.nilFunc) 8 := ⟨let ⟨i, h, h1, h2, h3⟩ := info_parts info98; ⟨i, h, h2, h1, h3⟩, by decide⟩
theorem info99 : (Try.prog.info? 99).map (fun i => (i.zero, i.size, i.bytes)) = some (some (.nilFunc), 1, 8) := by kernel_rfl
instance : TCell Try.prog 99 := ⟨⟨_, Try.underlying99, rfl⟩, let ⟨i, h, _, h2, _⟩ := info_parts info99; ⟨i, h, h2⟩⟩
instance : TElem Try.prog 99 (.nilFunc) 8 := ⟨let ⟨i, h, h1, h2, h3⟩ := info_parts info99; ⟨i, h, h2, h1, h3⟩, by decide⟩
theorem info100 : (Try.prog.info? 100).map (fun i => (i.zero, i.size, i.bytes)) = some (some (.nilFunc), 1, 8) := by kernel_rfl
instance : TCell Try.prog 100 := ⟨⟨_, Try.underlying100, rfl⟩, let ⟨i, h, _, h2, _⟩ := info_parts info100; ⟨i, h, h2⟩⟩
instance : TElem Try.prog 100 (.nilFunc) 8 := ⟨let ⟨i, h, h1, h2, h3⟩ := info_parts info100; ⟨i, h, h2, h1, h3⟩, by decide⟩
theorem info101 : (Try.prog.info? 101).map (fun i => (i.zero, i.size, i.bytes)) = some (some (.nilFunc), 1, 8) := by kernel_rfl
instance : TCell Try.prog 101 := ⟨⟨_, Try.underlying101, rfl⟩, let ⟨i, h, _, h2, _⟩ := info_parts info101; ⟨i, h, h2⟩⟩
instance : TElem Try.prog 101 (.nilFunc) 8 := ⟨let ⟨i, h, h1, h2, h3⟩ := info_parts info101; ⟨i, h, h2, h1, h3⟩, by decide⟩
theorem info102 : (Try.prog.info? 102).map (fun i => (i.zero, i.size, i.bytes)) = some (some (.nilFunc), 1, 8) := by kernel_rfl
instance : TCell Try.prog 102 := ⟨⟨_, Try.underlying102, rfl⟩, let ⟨i, h, _, h2, _⟩ := info_parts info102; ⟨i, h, h2⟩⟩
instance : TElem Try.prog 102 (.nilFunc) 8 := ⟨let ⟨i, h, h1, h2, h3⟩ := info_parts info102; ⟨i, h, h2, h1, h3⟩, by decide⟩
theorem info103 : (Try.prog.info? 103).map (fun i => (i.zero, i.size, i.bytes)) = some (some (.nilFunc), 1, 8) := by kernel_rfl
instance : TCell Try.prog 103 := ⟨⟨_, Try.underlying103, rfl⟩, let ⟨i, h, _, h2, _⟩ := info_parts info103; ⟨i, h, h2⟩⟩
instance : TElem Try.prog 103 (.nilFunc) 8 := ⟨let ⟨i, h, h1, h2, h3⟩ := info_parts info103; ⟨i, h, h2, h1, h3⟩, by decide⟩
theorem info104 : (Try.prog.info? 104).map (fun i => (i.zero, i.size, i.bytes)) = some (some (.nilFunc), 1, 8) := by kernel_rfl
instance : TCell Try.prog 104 := ⟨⟨_, Try.underlying104, rfl⟩, let ⟨i, h, _, h2, _⟩ := info_parts info104; ⟨i, h, h2⟩⟩
instance : TElem Try.prog 104 (.nilFunc) 8 := ⟨let ⟨i, h, h1, h2, h3⟩ := info_parts info104; ⟨i, h, h2, h1, h3⟩, by decide⟩
theorem info105 : (Try.prog.info? 105).map (fun i => (i.zero, i.size, i.bytes)) = some (some (.nilFunc), 1, 8) := by kernel_rfl
instance : TCell Try.prog 105 := ⟨⟨_, Try.underlying105, rfl⟩, let ⟨i, h, _, h2, _⟩ := info_parts info105; ⟨i, h, h2⟩⟩
instance : TElem Try.prog 105 (.nilFunc) 8 := ⟨let ⟨i, h, h1, h2, h3⟩ := info_parts info105; ⟨i, h, h2, h1, h3⟩, by decide⟩
theorem info106 : (Try.prog.info? 106).map (fun i => (i.zero, i.size, i.bytes)) = some (some (.nilFunc), 1, 8) := by kernel_rfl
instance : TCell Try.prog 106 := ⟨⟨_, Try.underlying106, rfl⟩, let ⟨i, h, _, h2, _⟩ := info_parts info106; ⟨i, h, h2⟩⟩
instance : TElem Try.prog 106 (.nilFunc) 8 := ⟨let ⟨i, h, h1, h2, h3⟩ := info_parts info106; ⟨i, h, h2, h1, h3⟩, by decide⟩
instance : TKind Try.prog 107 .u64 := ⟨Try.underlying107⟩
theorem info107 : (Try.prog.info? 107).map (fun i => (i.zero, i.size, i.bytes)) = some (some (.int .u64 0), 1, 8) := by kernel_rfl
instance : TCell Try.prog 107 := ⟨⟨_, Try.underlying107, rfl⟩, let ⟨i, h, _, h2, _⟩ := info_parts info107; ⟨i, h, h2⟩⟩
instance : TElem Try.prog 107 (.int .u64 0) 8 := ⟨let ⟨i, h, h1, h2, h3⟩ := info_parts info107; ⟨i, h, h2, h1, h3⟩, by decide⟩
theorem info108 : (Try.prog.info? 108).map (fun i => (i.zero, i.size, i.bytes)) = some (some (.nilFunc), 1, 8) := by kernel_rfl
instance : TCell Try.prog 108 := ⟨⟨_, Try.underlying108, rfl⟩, let ⟨i, h, _, h2, _⟩ := info_parts info108; ⟨i, h, h2⟩⟩
instance : TElem Try.prog 108 (.nilFunc) 8 := ⟨let ⟨i, h, h1, h2, h3⟩ := info_parts info108; ⟨i, h, h2, h1, h3⟩, by decide⟩
theorem info109 : (Try.prog.info? 109).map (fun i => (i.zero, i.size, i.bytes)) = some (some (.nilFunc), 1, 8) := by kernel_rfl
instance : TCell Try.prog 109 := ⟨⟨_, Try.underlying109, rfl⟩, let ⟨i, h, _, h2, _⟩ := info_parts info109; ⟨i, h, h2⟩⟩
instance : TElem Try.prog 109 (.nilFunc) 8 := ⟨let ⟨i, h, h1, h2, h3⟩ := info_parts info109; ⟨i, h, h2, h1, h3⟩, by decide⟩
instance : TKind Try.prog 110 .i64 := ⟨Try.underlying110⟩
theorem info110 : (Try.prog.info? 110).map (fun i => (i.zero, i.size, i.bytes)) = some (some (.int .i64 0), 1, 8) := by kernel_rfl
instance : TCell Try.prog 110 := ⟨⟨_, Try.underlying110, rfl⟩, let ⟨i, h, _, h2, _⟩ := info_parts info110; ⟨i, h, h2⟩⟩
instance : TElem Try.prog 110 (.int .i64 0) 8 := ⟨let ⟨i, h, h1, h2, h3⟩ := info_parts info110; ⟨i, h, h2, h1, h3⟩, by decide⟩
theorem info112 : (Try.prog.info? 112).map (fun i => (i.zero, i.size, i.bytes)) = some (some (.nilFunc), 1, 8) := by kernel_rfl
instance : TCell Try.prog 112 := ⟨⟨_, Try.underlying112, rfl⟩, let ⟨i, h, _, h2, _⟩ := info_parts info112; ⟨i, h, h2⟩⟩
instance : TElem Try.prog 112 (.nilFunc) 8 := ⟨let ⟨i, h, h1, h2, h3⟩ := info_parts info112; ⟨i, h, h2, h1, h3⟩, by decide⟩
theorem info113 : (Try.prog.info? 113).map (fun i => (i.zero, i.size, i.bytes)) = some (some (.nilFunc), 1, 8) := by kernel_rfl
instance : TCell Try.prog 113 := ⟨⟨_, Try.underlying113, rfl⟩, let ⟨i, h, _, h2, _⟩ := info_parts info113; ⟨i, h, h2⟩⟩
instance : TElem Try.prog 113 (.nilFunc) 8 := ⟨let ⟨i, h, h1, h2, h3⟩ := info_parts info113; ⟨i, h, h2, h1, h3⟩, by decide⟩
theorem info114 : (Try.prog.info? 114).map (fun i => (i.zero, i.size, i.bytes)) = some (some (.nilFunc), 1, 8) := by kernel_rfl
instance : TCell Try.prog 114 := ⟨⟨_, Try.underlying114, rfl⟩, let ⟨i, h, _, h2, _⟩ := info_parts info114; ⟨i, h, h2⟩⟩
instance : TElem Try.prog 114 (.nilFunc) 8 := ⟨let ⟨i, h, h1, h2, h3⟩ := info_parts info114; ⟨i, h, h2, h1, h3⟩, by decide⟩
theorem info116 : (Try.prog.info? 116).map (fun i => (i.zero, i.size, i.bytes)) = some (some (.nilFunc), 1, 8) := by kernel_rfl
instance : TCell Try.prog 116 := ⟨⟨_, Try.underlying116, rfl⟩, let ⟨i, h, _, h2, _⟩ := info_parts info116; ⟨i, h, h2⟩⟩
instance : TElem Try.prog 116 (.nilFunc) 8 := ⟨let ⟨i, h, h1, h2, h3⟩ := info_parts info116; ⟨i, h, h2, h1, h3⟩, by decide⟩
theorem info117 : (Try.prog.info? 117).map (fun i => (i.zero, i.size, i.bytes)) = some (some (.nilFunc), 1, 8) := by kernel_rfl
instance : TCell Try.prog 117 := ⟨⟨_, Try.underlying117, rfl⟩, let ⟨i, h, _, h2, _⟩ := info_parts info117; ⟨i, h, h2⟩⟩
instance : TElem Try.prog 117 (.nilFunc) 8 := ⟨let ⟨i, h, h1, h2, h3⟩ := info_parts info117; ⟨i, h, h2, h1, h3⟩, by decide⟩
instance : TKind Try.prog 118 .u32 := ⟨Try.underlying118⟩
theorem info118 : (Try.prog.info? 118).map (fun i => (i.zero, i.size, i.bytes)) = some (some (.int .u32 0), 1, 4) := by kernel_rfl
instance : TCell Try.prog 118 := ⟨⟨_, Try.underlying118, rfl⟩, let ⟨i, h, _, h2, _⟩ := info_parts info118; ⟨i, h, h2⟩⟩
instance : TElem Try.prog 118 (.int .u32 0) 4 := ⟨let ⟨i, h, h1, h2, h3⟩ := info_parts info118; ⟨i, h, h2, h1, h3⟩, by decide⟩
theorem info119 : (Try.prog.info? 119).map (fun i => (i.zero, i.size, i.bytes)) = some (some (.nilFunc), 1, 8) := by kernel_rfl
instance : TCell Try.prog 119 := ⟨⟨_, Try.underlying119, rfl⟩, let ⟨i, h, _, h2, _⟩ := info_parts info119; ⟨i, h, h2⟩⟩
instance : TElem Try.prog 119 (.nilFunc) 8 := ⟨let ⟨i, h, h1, h2, h3⟩ := info_parts info119; ⟨i, h, h2, h1, h3⟩, by decide⟩
instance : TKind Try.prog 120 .u64 := ⟨Try.underlying120⟩
theorem info120 : (Try.prog.info? 120).map (fun i => (i.zero, i.size, i.bytes)) = some (some (.int .u64 0), 1, 8) := by kernel_rfl
instance : TCell Try.prog 120 := ⟨⟨_, Try.underlying120, rfl⟩, let ⟨i, h, _, h2, _⟩ := info_parts info120; ⟨i, h, h2⟩⟩
instance : TElem Try.prog 120 (.int .u64 0) 8 := ⟨let ⟨i, h, h1, h2, h3⟩ := info_parts info120; ⟨i, h, h2, h1, h3⟩, by decide⟩
instance : TKind Try.prog 121 .u64 := ⟨Try.underlying121⟩
theorem info121 : (Try.prog.info? 121).map (fun i => (i.zero, i.size, i.bytes)) = some (some (.int .u64 0), 1, 8) := by kernel_rfl
instance : TCell Try.prog 121 := ⟨⟨_, Try.underlying121, rfl⟩, let ⟨i, h, _, h2, _⟩ := info_parts info121; ⟨i, h, h2⟩⟩
instance : TElem Try.prog 121 (.int .u64 0) 8 := ⟨let ⟨i, h, h1, h2, h3⟩ := info_parts info121; ⟨i, h, h2, h1, h3⟩, by decide⟩
theorem info122 : (Try.prog.info? 122).map (fun i => (i.zero, i.size, i.bytes)) = some (some (.nilFunc), 1, 8) := by kernel_rfl
instance : TCell Try.prog 122 := ⟨⟨_, Try.underlying122, rfl⟩, let ⟨i, h, _, h2, _⟩ := info_parts info122; ⟨i, h, h2⟩⟩
instance : TElem Try.prog 122 (.nilFunc) 8 := ⟨let ⟨i, h, h1, h2, h3⟩ := info_parts info122; ⟨i, h, h2, h1, h3⟩, by decide⟩
theorem info123 : (Try.prog.info? 123).map (fun i => (i.zero, i.size, i.bytes)) = some (some (.nilFunc), 1, 8) := by kernel_rfl
instance : TCell Try.prog 123 := ⟨⟨_, Try.underlying123, rfl⟩, let ⟨i, h, _, h2, _⟩ := info_parts info123; ⟨i, h, h2⟩⟩
instance : TElem Try.prog 123 (.nilFunc) 8 := ⟨let ⟨i, h, h1, h2, h3⟩ := info_parts info123; ⟨i, h, h2, h1, h3⟩, by decide⟩
theorem info124 : (Try.prog.info? 124).map (fun i => (i.zero, i.size, i.bytes)) = some (some (.nilFunc), 1, 8) := by kernel_rfl
instance : TCell Try.prog 124 := ⟨⟨_, Try.underlying124, rfl⟩, let ⟨i, h, _, h2, _⟩ := info_parts info124; ⟨i, h, h2⟩⟩
instance : TElem Try.prog 124 (.nilFunc) 8 := ⟨let ⟨i, h, h1, h2, h3⟩ := info_parts info124; ⟨i, h, h2, h1, h3⟩, by decide⟩
theorem info125 : (Try.prog.info? 125).map (fun i => (i.zero, i.size, i.bytes)) = some (some (.pointer none), 1, 8) := by kernel_rfl
instance : TCell Try.prog 125 := ⟨⟨_, Try.underlying125, rfl⟩, let ⟨i, h, _, h2, _⟩ := info_parts info125; ⟨i, h, h2⟩⟩
instance : TElem Try.prog 125 (.pointer none) 8 := ⟨let ⟨i, h, h1, h2, h3⟩ := info_parts info125; ⟨i, h, h2, h1, h3⟩, by decide⟩
theorem info126 : (Try.prog.info? 126).map (fun i => (i.zero, i.size, i.bytes)) = some (some (.nilFunc), 1, 8) := by kernel_rfl
instance : TCell Try.prog 126 := ⟨⟨_, Try.underlying126, rfl⟩, let ⟨i, h, _, h2, _⟩ := info_parts info126; ⟨i, h, h2⟩⟩
instance : TElem Try.prog 126 (.nilFunc) 8 := ⟨let ⟨i, h, h1, h2, h3⟩ := info_parts info126; ⟨i, h, h2, h1, h3⟩, by decide⟩
theorem info127 : (Try.prog.info? 127).map (fun i => (i.zero, i.size, i.bytes)) = some (some (.pointer none), 1, 8) := by kernel_rfl
instance : TCell Try.prog 127 := ⟨⟨_, Try.underlying127, rfl⟩, let ⟨i, h, _, h2, _⟩ := info_parts info127; ⟨i, h, h2⟩⟩
instance : TElem Try.prog 127 (.pointer none) 8 := ⟨let ⟨i, h, h1, h2, h3⟩ := info_parts info127; ⟨i, h, h2, h1, h3⟩, by decide⟩
theorem info129 : (Try.prog.info? 129).map (fun i => (i.zero, i.size, i.bytes)) = some (some (.nilFunc), 1, 8) := by kernel_rfl
instance : TCell Try.prog 129 := ⟨⟨_, Try.underlying129, rfl⟩, let ⟨i, h, _, h2, _⟩ := info_parts info129; ⟨i, h, h2⟩⟩
instance : TElem Try.prog 129 (.nilFunc) 8 := ⟨let ⟨i, h, h1, h2, h3⟩ := info_parts info129; ⟨i, h, h2, h1, h3⟩, by decide⟩
theorem info130 : (Try.prog.info? 130).map (fun i => (i.zero, i.size, i.bytes)) = some (some (.nilFunc), 1, 8) := by kernel_rfl
instance : TCell Try.prog 130 := ⟨⟨_, Try.underlying130, rfl⟩, let ⟨i, h, _, h2, _⟩ := info_parts info130; ⟨i, h, h2⟩⟩
instance : TElem Try.prog 130 (.nilFunc) 8 := ⟨let ⟨i, h, h1, h2, h3⟩ := info_parts info130; ⟨i, h, h2, h1, h3⟩, by decide⟩
theorem info136 : (Try.prog.info? 136).map (fun i => (i.zero, i.size, i.bytes)) = some (some (.nilFunc), 1, 8) := by kernel_rfl
instance : TCell Try.prog 136 := ⟨⟨_, Try.underlying136, rfl⟩, let ⟨i, h, _, h2, _⟩ := info_parts info136; ⟨i, h, h2⟩⟩
instance : TElem Try.prog 136 (.nilFunc) 8 := ⟨let ⟨i, h, h1, h2, h3⟩ := info_parts info136; ⟨i, h, h2, h1, h3⟩, by decide⟩
instance : TKind Try.prog 137 .u8 := ⟨Try.underlying137⟩
theorem info137 : (Try.prog.info? 137).map (fun i => (i.zero, i.size, i.bytes)) = some (some (.int .u8 0), 1, 1) := by kernel_rfl
instance : TCell Try.prog 137 := ⟨⟨_, Try.underlying137, rfl⟩, let ⟨i, h, _, h2, _⟩ := info_parts info137; ⟨i, h, h2⟩⟩
instance : TElem Try.prog 137 (.int .u8 0) 1 := ⟨let ⟨i, h, h1, h2, h3⟩ := info_parts info137; ⟨i, h, h2, h1, h3⟩, by decide⟩
instance : TKind Try.prog 138 .u8 := ⟨Try.underlying138⟩
theorem info138 : (Try.prog.info? 138).map (fun i => (i.zero, i.size, i.bytes)) = some (some (.int .u8 0), 1, 1) := by kernel_rfl
instance : TCell Try.prog 138 := ⟨⟨_, Try.underlying138, rfl⟩, let ⟨i, h, _, h2, _⟩ := info_parts info138; ⟨i, h, h2⟩⟩
instance : TElem Try.prog 138 (.int .u8 0) 1 := ⟨let ⟨i, h, h1, h2, h3⟩ := info_parts info138; ⟨i, h, h2, h1, h3⟩, by decide⟩
theorem info139 : (Try.prog.info? 139).map (fun i => (i.zero, i.size, i.bytes)) = some (some (.nilFunc), 1, 8) := by kernel_rfl
instance : TCell Try.prog 139 := ⟨⟨_, Try.underlying139, rfl⟩, let ⟨i, h, _, h2, _⟩ := info_parts info139; ⟨i, h, h2⟩⟩
instance : TElem Try.prog 139 (.nilFunc) 8 := ⟨let ⟨i, h, h1, h2, h3⟩ := info_parts info139; ⟨i, h, h2, h1, h3⟩, by decide⟩
theorem info140 : (Try.prog.info? 140).map (fun i => (i.zero, i.size, i.bytes)) = some (some (.pointer none), 1, 8) := by kernel_rfl
instance : TCell Try.prog 140 := ⟨⟨_, Try.underlying140, rfl⟩, let ⟨i, h, _, h2, _⟩ := info_parts info140; ⟨i, h, h2⟩⟩
instance : TElem Try.prog 140 (.pointer none) 8 := ⟨let ⟨i, h, h1, h2, h3⟩ := info_parts info140; ⟨i, h, h2, h1, h3⟩, by decide⟩
instance : TKind Try.prog 141 .i32 := ⟨Try.underlying141⟩
theorem info141 : (Try.prog.info? 141).map (fun i => (i.zero, i.size, i.bytes)) = some (some (.int .i32 0), 1, 4) := by kernel_rfl
instance : TCell Try.prog 141 := ⟨⟨_, Try.underlying141, rfl⟩, let ⟨i, h, _, h2, _⟩ := info_parts info141; ⟨i, h, h2⟩⟩
instance : TElem Try.prog 141 (.int .i32 0) 4 := ⟨let ⟨i, h, h1, h2, h3⟩ := info_parts info141; ⟨i, h, h2, h1, h3⟩, by decide⟩
instance : TKind Try.prog 142 .i32 := ⟨Try.underlying142⟩
theorem info142 : (Try.prog.info? 142).map (fun i => (i.zero, i.size, i.bytes)) = some (some (.int .i32 0), 1, 4) := by kernel_rfl
instance : TCell Try.prog 142 := ⟨⟨_, Try.underlying142, rfl⟩, let ⟨i, h, _, h2, _⟩ := info_parts info142; ⟨i, h, h2⟩⟩
instance : TElem Try.prog 142 (.int .i32 0) 4 := ⟨let ⟨i, h, h1, h2, h3⟩ := info_parts info142; ⟨i, h, h2, h1, h3⟩, by decide⟩
end Go.Proofs.Ytifkgmbghcmdeaa
/-
  Contracts of the small functions that all seats share. No condition.
-/
namespace Go.Proofs.Ytifkgmbghcmdeaa
open Go Go.RowKit
attribute [local irreducible] AWp AOps ResIs Ret1 QOp LOp COp AFnV AFn Imms LeE LeO
set_option maxHeartbeats 1000000
set_option linter.unusedSimpArgs false
set_option linter.unusedVariables false

theorem inRange_c (n a b : Int) : AFnV Try.prog 42 [.i n, .i a, .i b] (.bool (decide (a ≤ n ∧ n ≤ b))) := by
  (refine AFnV.start Try.func42 Try.ntmps42 rfl (by kernel_rfl) fun hk => ?_; simp only [Env.start, enumF, List.length_cons, List.length_nil, Nat.reduceAdd, Nat.reduceSub, List.cons_append, List.nil_append])
  repeat' (first
  | (apply AOps.nil; try simp only [List.nil_append, List.cons_append, List.set_cons_zero, List.set_cons_succ, List.length_cons, List.length_nil, Nat.reduceAdd, AV.sh, AV.sh1, AV.sh0, AO.sh, List.map_cons, List.map_nil, Nat.zero_add, Nat.add_zero, setAll])
  | ((apply AOps.splitP; exact rfl; exact rfl) <;> intro h)
  | ((apply AOps.splitN; exact rfl; exact rfl) <;> intro h)
  | (apply w_move; exact rfl; exact rfl)
  | (apply w_assign; exact rfl; exact rfl)
  | apply AWp.seq
  | apply AWp.region
  | ((apply AWp.condP; exact rfl) <;> intro h)
  | ((apply AWp.condN; exact rfl) <;> intro h)
  | (apply AWp.condT; exact rfl)
  | (apply AWp.condF; exact rfl)
  | ((apply AWp.condB; exact rfl) <;> intro h)
  | apply AWp.block
  | apply AWp.ret
  | apply AWp.exit
  | apply AWp.skip
  | (apply AWp.regionQ; kernel_rfl; kernel_rfl)
  | (apply if_pos'; exact rfl)
  | (apply if_neg'; decide)
  | (apply w_skip; exact rfl)
  | (apply w_pickT; exact rfl; exact rfl; exact rfl)
  | (apply w_pickF; exact rfl; exact rfl; exact rfl)
  | (apply w_len; exact rfl; exact rfl; first | exact .ints _ | exact .intss _ | exact .sli rfl | exact .sls rfl | exact .slr rfl | exact .orow rfl | exact .nil)
  | ((first | apply w_lss | apply w_leq | apply w_gtr | apply w_geq | apply w_eql | apply w_neq | apply w_add | apply w_sub | apply w_mul | apply w_idx | apply w_ld | apply w_fld | apply w_fa | apply w_extv | apply w_min | apply w_max | apply w_slhi | apply w_sllo | apply w_bs2); iterate 3 exact rfl)
  | ((first | apply w_eqlb | apply w_neqb | apply w_idxs | apply w_lds | apply w_ext); iterate 3 exact rfl)
  | (apply w_rem; exact rfl; exact rfl; exact rfl; (focus (omega; done)); (focus (omega; done)))
  | (apply w_quo; exact rfl; exact rfl; exact rfl; (focus (omega; done)); (focus (omega; done)))
  | (apply w_remT; exact rfl; exact rfl; exact rfl)
  | (apply w_quoT; exact rfl; exact rfl; exact rfl)
  | ((first | apply w_not | apply w_neg | apply w_conv | apply w_build0 | apply w_bs1 | apply w_boxa); iterate 2 exact rfl)
  | (apply w_idxo; exact rfl; exact rfl; (first | exact .sli rfl | exact .sls rfl | exact .slr rfl); exact rfl)
  | ((first | apply w_idxr | apply w_ldr); iterate 4 exact rfl)
  | (apply w_ldo; iterate 4 exact rfl)
  | (apply w_ldls; iterate 4 exact rfl)
  | (apply w_ldrp; iterate 4 exact rfl)
  | (apply w_ldb; iterate 5 exact rfl)
  | (apply w_ldst; iterate 5 exact rfl)
  | ((first | apply w_sllh | apply w_stbi); iterate 4 exact rfl)
  | ((first | apply w_oslo | apply w_oshi | apply w_stbii); iterate 4 exact rfl)
  | (apply w_copy; exact rfl; (first | exact .own rfl rfl rfl | exact .osub); exact rfl; rotate_left 1; exact rfl; (first | exact .ints _ | exact .sli rfl | exact .orow rfl | exact .nil | exact .osub rfl (by simp; omega)))
  | (apply w_build1; exact rfl; exact rfl; (first | exact one_val rfl rfl | exact one_ints | exact one_intss | exact one_own rfl True.intro))
  | (apply w_build2; exact rfl; exact rfl; exact rfl; (first | exact one_val rfl rfl | exact one_ints | exact one_intss | exact one_own rfl True.intro); (first | exact one_val rfl rfl | exact one_ints | exact one_intss | exact one_own rfl True.intro))
  | (apply w_bs0; iterate 1 exact rfl)
  | (apply w_appn; exact rfl; exact rfl; (first | exact .ints _ | exact .sli rfl | exact .orow rfl | exact .nil | exact .osub rfl (by simp; omega)); exact rfl)
  | (apply w_app; exact rfl; exact rfl; exact rfl; exact rfl; (first | exact .ints _ | exact .sli rfl | exact .orow rfl | exact .nil | exact .osub rfl (by simp; omega)); rotate_left 1; simp only [Env.mp, List.map_cons, List.map_nil, List.set_cons_zero, List.set_cons_succ, AV.kill, AV.kill1, AO.kill, AV.noRow, AV.noRow1, AO.via, reduceIte, Nat.reduceEqDiff, Nat.reduceLT, Env.up, Nat.zero_ne_one, Nat.one_ne_zero, Nat.reduceAdd, List.cons_append, List.nil_append]; rotate_left 1)
  | (apply w_alst; iterate 2 exact rfl)
  | (apply w_alone; iterate 3 exact rfl)
  | (apply w_mki; exact rfl; exact rfl; rotate_left 3; exact rfl; rotate_left 1)
  | (apply w_mkr; exact rfl; exact rfl; rotate_left 3; exact rfl; rotate_left 1)
  | (apply w_strow; exact rfl; exact rfl; rotate_left 1; exact rfl; exact rfl; exact rfl; exact rfl; simp only [Env.mp, List.map_cons, List.map_nil, List.set_cons_zero, List.set_cons_succ, AV.kill, AV.kill1, AO.kill, AV.noRow, AV.noRow1, AO.via, reduceIte, Nat.reduceEqDiff, Nat.reduceLT, Env.up, Nat.zero_ne_one, Nat.one_ne_zero, Nat.reduceAdd, List.cons_append, List.nil_append]; rotate_left 1)
  | (apply w_sti; exact rfl; exact rfl; rotate_left 1; exact rfl; rotate_left 2)
  | (apply w_stst; iterate 5 exact rfl)
  | (apply w_stbv; iterate 6 exact rfl)
  | (apply w_stbo; exact rfl; exact rfl; exact rfl; exact rfl; exact rfl; exact True.intro)
  | ((apply AOps.splitB; exact rfl; exact rfl) <;> intro h)
  | apply AllOf.nil
  | (apply AllOf.cons; exact rfl)
  | (apply AAny.take; exact rfl; exact rfl; kernel_rfl; kernel_rfl)
  | (apply AAny.all; exact rfl)
  | (apply AAny.done; exact rfl)
  | (apply inI_of <;> omega)
  | omega
  | (simp <;> omega))
  · exact .bool Try.results42 rfl (by simp [*])
  · exact .bool Try.results42 rfl (by simp [*])

theorem l01In_c (n a b : Int) : AFnV Try.prog 37 [.i n, .i a, .i b] (.bool (decide (a ≤ n ∧ n ≤ b))) := by
  (refine AFnV.start Try.func37 Try.ntmps37 rfl (by kernel_rfl) fun hk => ?_; simp only [Env.start, enumF, List.length_cons, List.length_nil, Nat.reduceAdd, Nat.reduceSub, List.cons_append, List.nil_append])
  repeat' (first
  | (apply AOps.nil; try simp only [List.nil_append, List.cons_append, List.set_cons_zero, List.set_cons_succ, List.length_cons, List.length_nil, Nat.reduceAdd, AV.sh, AV.sh1, AV.sh0, AO.sh, List.map_cons, List.map_nil, Nat.zero_add, Nat.add_zero, setAll])
  | ((apply AOps.splitP; exact rfl; exact rfl) <;> intro h)
  | ((apply AOps.splitN; exact rfl; exact rfl) <;> intro h)
  | (apply w_move; exact rfl; exact rfl)
  | (apply w_assign; exact rfl; exact rfl)
  | apply AWp.seq
  | apply AWp.region
  | ((apply AWp.condP; exact rfl) <;> intro h)
  | ((apply AWp.condN; exact rfl) <;> intro h)
  | (apply AWp.condT; exact rfl)
  | (apply AWp.condF; exact rfl)
  | ((apply AWp.condB; exact rfl) <;> intro h)
  | apply AWp.block
  | apply AWp.ret
  | apply AWp.exit
  | apply AWp.skip
  | (apply AWp.regionQ; kernel_rfl; kernel_rfl)
  | (apply if_pos'; exact rfl)
  | (apply if_neg'; decide)
  | (apply w_skip; exact rfl)
  | (apply w_pickT; exact rfl; exact rfl; exact rfl)
  | (apply w_pickF; exact rfl; exact rfl; exact rfl)
  | (apply w_len; exact rfl; exact rfl; first | exact .ints _ | exact .intss _ | exact .sli rfl | exact .sls rfl | exact .slr rfl | exact .orow rfl | exact .nil)
  | ((first | apply w_lss | apply w_leq | apply w_gtr | apply w_geq | apply w_eql | apply w_neq | apply w_add | apply w_sub | apply w_mul | apply w_idx | apply w_ld | apply w_fld | apply w_fa | apply w_extv | apply w_min | apply w_max | apply w_slhi | apply w_sllo | apply w_bs2); iterate 3 exact rfl)
  | ((first | apply w_eqlb | apply w_neqb | apply w_idxs | apply w_lds | apply w_ext); iterate 3 exact rfl)
  | (apply w_rem; exact rfl; exact rfl; exact rfl; (focus (omega; done)); (focus (omega; done)))
  | (apply w_quo; exact rfl; exact rfl; exact rfl; (focus (omega; done)); (focus (omega; done)))
  | (apply w_remT; exact rfl; exact rfl; exact rfl)
  | (apply w_quoT; exact rfl; exact rfl; exact rfl)
  | ((first | apply w_not | apply w_neg | apply w_conv | apply w_build0 | apply w_bs1 | apply w_boxa); iterate 2 exact rfl)
  | (apply w_idxo; exact rfl; exact rfl; (first | exact .sli rfl | exact .sls rfl | exact .slr rfl); exact rfl)
  | ((first | apply w_idxr | apply w_ldr); iterate 4 exact rfl)
  | (apply w_ldo; iterate 4 exact rfl)
  | (apply w_ldls; iterate 4 exact rfl)
  | (apply w_ldrp; iterate 4 exact rfl)
  | (apply w_ldb; iterate 5 exact rfl)
  | (apply w_ldst; iterate 5 exact rfl)
  | ((first | apply w_sllh | apply w_stbi); iterate 4 exact rfl)
  | ((first | apply w_oslo | apply w_oshi | apply w_stbii); iterate 4 exact rfl)
  | (apply w_copy; exact rfl; (first | exact .own rfl rfl rfl | exact .osub); exact rfl; rotate_left 1; exact rfl; (first | exact .ints _ | exact .sli rfl | exact .orow rfl | exact .nil | exact .osub rfl (by simp; omega)))
  | (apply w_build1; exact rfl; exact rfl; (first | exact one_val rfl rfl | exact one_ints | exact one_intss | exact one_own rfl True.intro))
  | (apply w_build2; exact rfl; exact rfl; exact rfl; (first | exact one_val rfl rfl | exact one_ints | exact one_intss | exact one_own rfl True.intro); (first | exact one_val rfl rfl | exact one_ints | exact one_intss | exact one_own rfl True.intro))
  | (apply w_bs0; iterate 1 exact rfl)
  | (apply w_appn; exact rfl; exact rfl; (first | exact .ints _ | exact .sli rfl | exact .orow rfl | exact .nil | exact .osub rfl (by simp; omega)); exact rfl)
  | (apply w_app; exact rfl; exact rfl; exact rfl; exact rfl; (first | exact .ints _ | exact .sli rfl | exact .orow rfl | exact .nil | exact .osub rfl (by simp; omega)); rotate_left 1; simp only [Env.mp, List.map_cons, List.map_nil, List.set_cons_zero, List.set_cons_succ, AV.kill, AV.kill1, AO.kill, AV.noRow, AV.noRow1, AO.via, reduceIte, Nat.reduceEqDiff, Nat.reduceLT, Env.up, Nat.zero_ne_one, Nat.one_ne_zero, Nat.reduceAdd, List.cons_append, List.nil_append]; rotate_left 1)
  | (apply w_alst; iterate 2 exact rfl)
  | (apply w_alone; iterate 3 exact rfl)
  | (apply w_mki; exact rfl; exact rfl; rotate_left 3; exact rfl; rotate_left 1)
  | (apply w_mkr; exact rfl; exact rfl; rotate_left 3; exact rfl; rotate_left 1)
  | (apply w_strow; exact rfl; exact rfl; rotate_left 1; exact rfl; exact rfl; exact rfl; exact rfl; simp only [Env.mp, List.map_cons, List.map_nil, List.set_cons_zero, List.set_cons_succ, AV.kill, AV.kill1, AO.kill, AV.noRow, AV.noRow1, AO.via, reduceIte, Nat.reduceEqDiff, Nat.reduceLT, Env.up, Nat.zero_ne_one, Nat.one_ne_zero, Nat.reduceAdd, List.cons_append, List.nil_append]; rotate_left 1)
  | (apply w_sti; exact rfl; exact rfl; rotate_left 1; exact rfl; rotate_left 2)
  | (apply w_stst; iterate 5 exact rfl)
  | (apply w_stbv; iterate 6 exact rfl)
  | (apply w_stbo; exact rfl; exact rfl; exact rfl; exact rfl; exact rfl; exact True.intro)
  | ((apply AOps.splitB; exact rfl; exact rfl) <;> intro h)
  | apply AllOf.nil
  | (apply AllOf.cons; exact rfl)
  | (apply AAny.take; exact rfl; exact rfl; kernel_rfl; kernel_rfl)
  | (apply AAny.all; exact rfl)
  | (apply AAny.done; exact rfl)
  | (apply inI_of <;> omega)
  | omega
  | (simp <;> omega))
  · exact .bool Try.results37 rfl (by simp [*])
  · exact .bool Try.results37 rfl (by simp [*])

def withinL (xs : List Int) (a b : Int) : Bool := xs.all fun x => decide (a ≤ x ∧ x ≤ b)

theorem withinL_snoc (xs : List Int) (a b : Int) (i : Int) (h0 : 0 ≤ i) (h1 : i < xs.length) : withinL (xs.take (i + 1).toNat) a b = (withinL (xs.take i.toNat) a b && decide (a ≤ geti xs i ∧ geti xs i ≤ b)) := by
  have e : (i + 1).toNat = i.toNat + 1 := by omega
  have hi : i.toNat < xs.length := by omega
  rw [e, List.take_succ_eq_append_getElem hi]
  rw [withinL, List.all_append]
  simp [withinL, geti, hi]
theorem withinL_false (xs : List Int) (a b : Int) (i : Int) (h0 : 0 ≤ i) (h1 : i < xs.length) (h : ¬ (a ≤ geti xs i ∧ geti xs i ≤ b)) : withinL xs a b = false := by
  unfold withinL
  rw [List.all_eq_false]
  exact ⟨geti xs i, geti_mem h0 h1, by simpa using h⟩

theorem within_c (xs : List Int) (a b : Int) : AFnV Try.prog 80 [.ints xs, .i a, .i b] (.bool (withinL xs a b)) := by
  (refine AFnV.start Try.func80 Try.ntmps80 rfl (by kernel_rfl) fun hk => ?_; simp only [Env.start, enumF, List.length_cons, List.length_nil, Nat.reduceAdd, Nat.reduceSub, List.cons_append, List.nil_append])
  obtain ⟨hk, hl⟩ : ArgOk (.ints xs) := hk _ (by simp)
  repeat' (first
  | (apply AOps.nil; try simp only [List.nil_append, List.cons_append, List.set_cons_zero, List.set_cons_succ, List.length_cons, List.length_nil, Nat.reduceAdd, AV.sh, AV.sh1, AV.sh0, AO.sh, List.map_cons, List.map_nil, Nat.zero_add, Nat.add_zero, setAll])
  | ((apply AOps.splitP; exact rfl; exact rfl) <;> intro h)
  | ((apply AOps.splitN; exact rfl; exact rfl) <;> intro h)
  | (apply w_move; exact rfl; exact rfl)
  | (apply w_assign; exact rfl; exact rfl)
  | apply AWp.seq
  | apply AWp.region
  | ((apply AWp.condP; exact rfl) <;> intro h)
  | ((apply AWp.condN; exact rfl) <;> intro h)
  | (apply AWp.condT; exact rfl)
  | (apply AWp.condF; exact rfl)
  | ((apply AWp.condB; exact rfl) <;> intro h)
  | apply AWp.block
  | apply AWp.ret
  | apply AWp.exit
  | apply AWp.skip
  | (apply AWp.regionQ; kernel_rfl; kernel_rfl)
  | (apply if_pos'; exact rfl)
  | (apply if_neg'; decide)
  | (apply w_skip; exact rfl)
  | (apply w_pickT; exact rfl; exact rfl; exact rfl)
  | (apply w_pickF; exact rfl; exact rfl; exact rfl)
  | (apply w_len; exact rfl; exact rfl; first | exact .ints _ | exact .intss _ | exact .sli rfl | exact .sls rfl | exact .slr rfl | exact .orow rfl | exact .nil)
  | (apply w_call (inRange_c _ _ _); exact rfl; exact rfl; focus ((repeat (first | exact im_nil | refine im_cons rfl (.val _) ?_ | refine im_cons rfl (.ints _) ?_ | refine im_cons rfl (.intss _) ?_ | refine im_cons rfl (.sli rfl) ?_ | refine im_cons rfl (.sls rfl) ?_ | refine im_cons rfl (.orow rfl) ?_ | refine im_cons rfl (.osub rfl (by simp; omega)) ?_ | refine im_cons rfl (.nil) ?_ | refine im_cons rfl (.nils) ?_ | refine im_cons rfl (im_agg2 (.val _) (.ints _)) ?_ | refine im_cons rfl (im_agg2 (.val _) (.sli rfl)) ?_ | refine im_cons rfl (im_agg2 (.val _) (.nil)) ?_ | refine im_cons rfl (im_agg2 (.ints _) (.intss _)) ?_ | refine im_cons rfl (im_agg2 (.ints _) (.sls rfl)) ?_ | refine im_cons rfl (im_agg2 (.sli rfl) (.intss _)) ?_ | refine im_cons rfl (im_agg2 (.sli rfl) (.sls rfl)) ?_ | refine im_cons rfl (im_agg1 (.ints _)) ?_ | refine im_cons rfl (im_agg1 (.sli rfl)) ?_ | refine im_cons rfl (im_agg1 (.intss _)) ?_ | refine im_cons rfl (im_agg1 (.sls rfl)) ?_ | refine im_cons rfl (im_agg1 (.nil)) ?_ | refine im_cons rfl (im_agg1 (.nils)) ?_)); done))
  | ((first | apply w_lss | apply w_leq | apply w_gtr | apply w_geq | apply w_eql | apply w_neq | apply w_add | apply w_sub | apply w_mul | apply w_idx | apply w_ld | apply w_fld | apply w_fa | apply w_extv | apply w_min | apply w_max | apply w_slhi | apply w_sllo | apply w_bs2); iterate 3 exact rfl)
  | ((first | apply w_eqlb | apply w_neqb | apply w_idxs | apply w_lds | apply w_ext); iterate 3 exact rfl)
  | (apply w_rem; exact rfl; exact rfl; exact rfl; (focus (omega; done)); (focus (omega; done)))
  | (apply w_quo; exact rfl; exact rfl; exact rfl; (focus (omega; done)); (focus (omega; done)))
  | (apply w_remT; exact rfl; exact rfl; exact rfl)
  | (apply w_quoT; exact rfl; exact rfl; exact rfl)
  | ((first | apply w_not | apply w_neg | apply w_conv | apply w_build0 | apply w_bs1 | apply w_boxa); iterate 2 exact rfl)
  | (apply w_idxo; exact rfl; exact rfl; (first | exact .sli rfl | exact .sls rfl | exact .slr rfl); exact rfl)
  | ((first | apply w_idxr | apply w_ldr); iterate 4 exact rfl)
  | (apply w_ldo; iterate 4 exact rfl)
  | (apply w_ldls; iterate 4 exact rfl)
  | (apply w_ldrp; iterate 4 exact rfl)
  | (apply w_ldb; iterate 5 exact rfl)
  | (apply w_ldst; iterate 5 exact rfl)
  | ((first | apply w_sllh | apply w_stbi); iterate 4 exact rfl)
  | ((first | apply w_oslo | apply w_oshi | apply w_stbii); iterate 4 exact rfl)
  | (apply w_copy; exact rfl; (first | exact .own rfl rfl rfl | exact .osub); exact rfl; rotate_left 1; exact rfl; (first | exact .ints _ | exact .sli rfl | exact .orow rfl | exact .nil | exact .osub rfl (by simp; omega)))
  | (apply w_build1; exact rfl; exact rfl; (first | exact one_val rfl rfl | exact one_ints | exact one_intss | exact one_own rfl True.intro))
  | (apply w_build2; exact rfl; exact rfl; exact rfl; (first | exact one_val rfl rfl | exact one_ints | exact one_intss | exact one_own rfl True.intro); (first | exact one_val rfl rfl | exact one_ints | exact one_intss | exact one_own rfl True.intro))
  | (apply w_bs0; iterate 1 exact rfl)
  | (apply w_appn; exact rfl; exact rfl; (first | exact .ints _ | exact .sli rfl | exact .orow rfl | exact .nil | exact .osub rfl (by simp; omega)); exact rfl)
  | (apply w_app; exact rfl; exact rfl; exact rfl; exact rfl; (first | exact .ints _ | exact .sli rfl | exact .orow rfl | exact .nil | exact .osub rfl (by simp; omega)); rotate_left 1; simp only [Env.mp, List.map_cons, List.map_nil, List.set_cons_zero, List.set_cons_succ, AV.kill, AV.kill1, AO.kill, AV.noRow, AV.noRow1, AO.via, reduceIte, Nat.reduceEqDiff, Nat.reduceLT, Env.up, Nat.zero_ne_one, Nat.one_ne_zero, Nat.reduceAdd, List.cons_append, List.nil_append]; rotate_left 1)
  | (apply w_alst; iterate 2 exact rfl)
  | (apply w_alone; iterate 3 exact rfl)
  | (apply w_mki; exact rfl; exact rfl; rotate_left 3; exact rfl; rotate_left 1)
  | (apply w_mkr; exact rfl; exact rfl; rotate_left 3; exact rfl; rotate_left 1)
  | (apply w_strow; exact rfl; exact rfl; rotate_left 1; exact rfl; exact rfl; exact rfl; exact rfl; simp only [Env.mp, List.map_cons, List.map_nil, List.set_cons_zero, List.set_cons_succ, AV.kill, AV.kill1, AO.kill, AV.noRow, AV.noRow1, AO.via, reduceIte, Nat.reduceEqDiff, Nat.reduceLT, Env.up, Nat.zero_ne_one, Nat.one_ne_zero, Nat.reduceAdd, List.cons_append, List.nil_append]; rotate_left 1)
  | (apply w_sti; exact rfl; exact rfl; rotate_left 1; exact rfl; rotate_left 2)
  | (apply w_stst; iterate 5 exact rfl)
  | (apply w_stbv; iterate 6 exact rfl)
  | (apply w_stbo; exact rfl; exact rfl; exact rfl; exact rfl; exact rfl; exact True.intro)
  | ((apply AOps.splitB; exact rfl; exact rfl) <;> intro h)
  | apply AllOf.nil
  | (apply AllOf.cons; exact rfl)
  | (apply AAny.take; exact rfl; exact rfl; kernel_rfl; kernel_rfl)
  | (apply AAny.all; exact rfl)
  | (apply AAny.done; exact rfl)
  | (apply inI_of <;> omega)
  | omega
  | (simp <;> omega))
  refine AWp.loop (ι := Int) (fun i => ⟨21, [(0, .ints xs), (1, .i a), (2, .i b), (9, .ints xs), (10, .i xs.length), (11, .i i)]⟩) (fun _ => []) (fun i => 0 ≤ i ∧ i ≤ xs.length ∧ withinL (xs.take i.toNat) a b = true) (fun i => (xs.length - i).toNat) 0 ⟨by omega, by omega, rfl⟩ ⟨lee rfl (by (repeat (first | exact le_nil | refine le_eq rfl rfl ?_ | refine le_eq rfl (congrArg AV.i (by omega)) ?_))), by (repeat (first | exact lo_nil | refine lo_dead ?_ | refine lo_eq rfl ?_)), rfl, rfl⟩ ?_
  rintro i ⟨h0, h1, h2⟩
  repeat' (first
  | (apply AOps.nil; try simp only [List.nil_append, List.cons_append, List.set_cons_zero, List.set_cons_succ, List.length_cons, List.length_nil, Nat.reduceAdd, AV.sh, AV.sh1, AV.sh0, AO.sh, List.map_cons, List.map_nil, Nat.zero_add, Nat.add_zero, setAll])
  | ((apply AOps.splitP; exact rfl; exact rfl) <;> intro h)
  | ((apply AOps.splitN; exact rfl; exact rfl) <;> intro h)
  | (apply w_move; exact rfl; exact rfl)
  | (apply w_assign; exact rfl; exact rfl)
  | apply AWp.seq
  | apply AWp.region
  | ((apply AWp.condP; exact rfl) <;> intro h)
  | ((apply AWp.condN; exact rfl) <;> intro h)
  | (apply AWp.condT; exact rfl)
  | (apply AWp.condF; exact rfl)
  | ((apply AWp.condB; exact rfl) <;> intro h)
  | apply AWp.block
  | apply AWp.ret
  | apply AWp.exit
  | apply AWp.skip
  | (apply AWp.regionQ; kernel_rfl; kernel_rfl)
  | (apply if_pos'; exact rfl)
  | (apply if_neg'; decide)
  | (apply w_skip; exact rfl)
  | (apply w_pickT; exact rfl; exact rfl; exact rfl)
  | (apply w_pickF; exact rfl; exact rfl; exact rfl)
  | (apply w_len; exact rfl; exact rfl; first | exact .ints _ | exact .intss _ | exact .sli rfl | exact .sls rfl | exact .slr rfl | exact .orow rfl | exact .nil)
  | (apply w_call (inRange_c _ _ _); exact rfl; exact rfl; focus ((repeat (first | exact im_nil | refine im_cons rfl (.val _) ?_ | refine im_cons rfl (.ints _) ?_ | refine im_cons rfl (.intss _) ?_ | refine im_cons rfl (.sli rfl) ?_ | refine im_cons rfl (.sls rfl) ?_ | refine im_cons rfl (.orow rfl) ?_ | refine im_cons rfl (.osub rfl (by simp; omega)) ?_ | refine im_cons rfl (.nil) ?_ | refine im_cons rfl (.nils) ?_ | refine im_cons rfl (im_agg2 (.val _) (.ints _)) ?_ | refine im_cons rfl (im_agg2 (.val _) (.sli rfl)) ?_ | refine im_cons rfl (im_agg2 (.val _) (.nil)) ?_ | refine im_cons rfl (im_agg2 (.ints _) (.intss _)) ?_ | refine im_cons rfl (im_agg2 (.ints _) (.sls rfl)) ?_ | refine im_cons rfl (im_agg2 (.sli rfl) (.intss _)) ?_ | refine im_cons rfl (im_agg2 (.sli rfl) (.sls rfl)) ?_ | refine im_cons rfl (im_agg1 (.ints _)) ?_ | refine im_cons rfl (im_agg1 (.sli rfl)) ?_ | refine im_cons rfl (im_agg1 (.intss _)) ?_ | refine im_cons rfl (im_agg1 (.sls rfl)) ?_ | refine im_cons rfl (im_agg1 (.nil)) ?_ | refine im_cons rfl (im_agg1 (.nils)) ?_)); done))
  | ((first | apply w_lss | apply w_leq | apply w_gtr | apply w_geq | apply w_eql | apply w_neq | apply w_add | apply w_sub | apply w_mul | apply w_idx | apply w_ld | apply w_fld | apply w_fa | apply w_extv | apply w_min | apply w_max | apply w_slhi | apply w_sllo | apply w_bs2); iterate 3 exact rfl)
  | ((first | apply w_eqlb | apply w_neqb | apply w_idxs | apply w_lds | apply w_ext); iterate 3 exact rfl)
  | (apply w_rem; exact rfl; exact rfl; exact rfl; (focus (omega; done)); (focus (omega; done)))
  | (apply w_quo; exact rfl; exact rfl; exact rfl; (focus (omega; done)); (focus (omega; done)))
  | (apply w_remT; exact rfl; exact rfl; exact rfl)
  | (apply w_quoT; exact rfl; exact rfl; exact rfl)
  | ((first | apply w_not | apply w_neg | apply w_conv | apply w_build0 | apply w_bs1 | apply w_boxa); iterate 2 exact rfl)
  | (apply w_idxo; exact rfl; exact rfl; (first | exact .sli rfl | exact .sls rfl | exact .slr rfl); exact rfl)
  | ((first | apply w_idxr | apply w_ldr); iterate 4 exact rfl)
  | (apply w_ldo; iterate 4 exact rfl)
  | (apply w_ldls; iterate 4 exact rfl)
  | (apply w_ldrp; iterate 4 exact rfl)
  | (apply w_ldb; iterate 5 exact rfl)
  | (apply w_ldst; iterate 5 exact rfl)
  | ((first | apply w_sllh | apply w_stbi); iterate 4 exact rfl)
  | ((first | apply w_oslo | apply w_oshi | apply w_stbii); iterate 4 exact rfl)
  | (apply w_copy; exact rfl; (first | exact .own rfl rfl rfl | exact .osub); exact rfl; rotate_left 1; exact rfl; (first | exact .ints _ | exact .sli rfl | exact .orow rfl | exact .nil | exact .osub rfl (by simp; omega)))
  | (apply w_build1; exact rfl; exact rfl; (first | exact one_val rfl rfl | exact one_ints | exact one_intss | exact one_own rfl True.intro))
  | (apply w_build2; exact rfl; exact rfl; exact rfl; (first | exact one_val rfl rfl | exact one_ints | exact one_intss | exact one_own rfl True.intro); (first | exact one_val rfl rfl | exact one_ints | exact one_intss | exact one_own rfl True.intro))
  | (apply w_bs0; iterate 1 exact rfl)
  | (apply w_appn; exact rfl; exact rfl; (first | exact .ints _ | exact .sli rfl | exact .orow rfl | exact .nil | exact .osub rfl (by simp; omega)); exact rfl)
  | (apply w_app; exact rfl; exact rfl; exact rfl; exact rfl; (first | exact .ints _ | exact .sli rfl | exact .orow rfl | exact .nil | exact .osub rfl (by simp; omega)); rotate_left 1; simp only [Env.mp, List.map_cons, List.map_nil, List.set_cons_zero, List.set_cons_succ, AV.kill, AV.kill1, AO.kill, AV.noRow, AV.noRow1, AO.via, reduceIte, Nat.reduceEqDiff, Nat.reduceLT, Env.up, Nat.zero_ne_one, Nat.one_ne_zero, Nat.reduceAdd, List.cons_append, List.nil_append]; rotate_left 1)
  | (apply w_alst; iterate 2 exact rfl)
  | (apply w_alone; iterate 3 exact rfl)
  | (apply w_mki; exact rfl; exact rfl; rotate_left 3; exact rfl; rotate_left 1)
  | (apply w_mkr; exact rfl; exact rfl; rotate_left 3; exact rfl; rotate_left 1)
  | (apply w_strow; exact rfl; exact rfl; rotate_left 1; exact rfl; exact rfl; exact rfl; exact rfl; simp only [Env.mp, List.map_cons, List.map_nil, List.set_cons_zero, List.set_cons_succ, AV.kill, AV.kill1, AO.kill, AV.noRow, AV.noRow1, AO.via, reduceIte, Nat.reduceEqDiff, Nat.reduceLT, Env.up, Nat.zero_ne_one, Nat.one_ne_zero, Nat.reduceAdd, List.cons_append, List.nil_append]; rotate_left 1)
  | (apply w_sti; exact rfl; exact rfl; rotate_left 1; exact rfl; rotate_left 2)
  | (apply w_stst; iterate 5 exact rfl)
  | (apply w_stbv; iterate 6 exact rfl)
  | (apply w_stbo; exact rfl; exact rfl; exact rfl; exact rfl; exact rfl; exact True.intro)
  | ((apply AOps.splitB; exact rfl; exact rfl) <;> intro h)
  | apply AllOf.nil
  | (apply AllOf.cons; exact rfl)
  | (apply AAny.take; exact rfl; exact rfl; kernel_rfl; kernel_rfl)
  | (apply AAny.all; exact rfl)
  | (apply AAny.done; exact rfl)
  | (apply inI_of <;> omega)
  | omega
  | (simp <;> omega))
  · exact .bool Try.results80 rfl (withinL_false xs a b i h0 (by omega) h).symm
  · exact ⟨i + 1, ⟨by omega, by omega, by rw [withinL_snoc xs a b i h0 (by omega)]; simp [*]⟩, by omega, ⟨lee rfl (by (repeat (first | exact le_nil | refine le_eq rfl rfl ?_ | refine le_eq rfl (congrArg AV.i (by omega)) ?_))), by (repeat (first | exact lo_nil | refine lo_dead ?_ | refine lo_eq rfl ?_)), rfl, rfl⟩⟩
  · rw [List.take_of_length_le (by omega)] at h2
    exact .bool Try.results80 rfl h2.symm
end Go.Proofs.Ytifkgmbghcmdeaa
/-
  Contracts of the laws' own helpers over lists of integers. No condition.
-/
namespace Go.Proofs.Ytifkgmbghcmdeaa
open Go Go.RowKit
attribute [local irreducible] AWp AOps ResIs Ret1 QOp LOp COp AFnV AFn Imms LeE LeO
set_option maxHeartbeats 1000000
set_option linter.unusedSimpArgs false
set_option linter.unusedVariables false

def szI (xs : List Int) (left : Int) : Int := if left - xs.length < 0 then -1 else left - xs.length

theorem szInt64S_c (xs : List Int) (left : Int) (h0 : -1 ≤ left) (h1 : left ≤ 1048576) : AFnV Try.prog 35 [.ints xs, .i left] (.int .i64 (szI xs left)) := by
  (refine AFnV.start Try.func35 Try.ntmps35 rfl (by kernel_rfl) fun hk => ?_; simp only [Env.start, enumF, List.length_cons, List.length_nil, Nat.reduceAdd, Nat.reduceSub, List.cons_append, List.nil_append])
  obtain ⟨hk, hl⟩ : ArgOk (.ints xs) := hk _ (by simp)
  repeat' (first | (apply AOps.nil; try simp only [List.nil_append, List.cons_append, List.set_cons_zero, List.set_cons_succ, List.length_cons, List.length_nil, Nat.reduceAdd, AV.sh, AV.sh1, AV.sh0, AO.sh, List.map_cons, List.map_nil, Nat.zero_add, Nat.add_zero, setAll]) | (apply w_move; exact rfl; exact rfl) | (apply w_assign; exact rfl; exact rfl) | apply AWp.seq | apply AWp.region | ((apply AWp.condP; exact rfl) <;> intro h) | apply AWp.ret | apply AWp.skip | (apply w_len; exact rfl; exact rfl; first | exact .ints _ | exact .intss _ | exact .sli rfl | exact .sls rfl | exact .slr rfl | exact .orow rfl | exact .nil) | ((first | apply w_lss | apply w_sub); iterate 3 exact rfl) | (apply inI_of <;> omega))
  · exact .int Try.results35 rfl (by simp [szI, h])
  · exact .int Try.results35 rfl (by simp [szI, h])

/-- The new slice of integers that a function hands back alone. -/
def IsInts (e : TypeId) (xs : List Int) (r : AV) (os : List AO) : Prop := r = .own 0 ∧ os = [.sli e xs]

theorem take_set_snoc (xs : List Int) (i : Nat) (h : i < xs.length) : (xs.take i ++ List.replicate (xs.length - i) 0).set i (geti xs i) = xs.take (i + 1) ++ List.replicate (xs.length - (i + 1)) 0 := by
  apply List.ext_getElem?
  intro j
  rw [List.getElem?_set]
  by_cases hj : i = j
  · subst hj
    have : (xs.take i ++ List.replicate (xs.length - i) 0).length = xs.length := by simp; omega
    simp only [this, h, if_true]
    rw [List.getElem?_append_left (by simp; omega), List.getElem?_take_of_lt (by omega)]
    simp [geti, h]
  · rw [if_neg hj, List.getElem?_append, List.getElem?_append, List.getElem?_take, List.getElem?_take]
    simp only [List.length_take, Nat.min_eq_left (Nat.le_of_lt h), Nat.min_eq_left h, List.getElem?_replicate]
    by_cases h2 : j < i
    · simp [h2, show j < i + 1 by omega]
    · have : ¬ j < i + 1 := by omega
      simp only [h2, this, if_false]
      by_cases h3 : j < xs.length
      · rw [if_pos (by omega), if_pos (by omega)]
      · rw [if_neg (by omega), if_neg (by omega)]

theorem toInt64S_c (xs : List Int) (hb : xs.length ≤ 1048576) : AFn Try.prog 40 [.ints xs] (IsInts 2 xs) := by
  (refine AFn.start Try.func40 Try.ntmps40 rfl (by kernel_rfl) fun hk => ?_; simp only [Env.start, enumF, List.length_cons, List.length_nil, Nat.reduceAdd, Nat.reduceSub, List.cons_append, List.nil_append])
  obtain ⟨hk, hl⟩ : ArgOk (.ints xs) := hk _ (by simp)
  repeat' (first | (apply AOps.nil; try simp only [List.nil_append, List.cons_append, List.set_cons_zero, List.set_cons_succ, List.length_cons, List.length_nil, Nat.reduceAdd, AV.sh, AV.sh1, AV.sh0, AO.sh, List.map_cons, List.map_nil, Nat.zero_add, Nat.add_zero, setAll]) | (apply w_move; exact rfl; exact rfl) | (apply w_assign; exact rfl; exact rfl) | apply AWp.seq | apply AWp.region | apply AWp.block | (apply w_len; exact rfl; exact rfl; first | exact .ints _ | exact .intss _ | exact .sli rfl | exact .sls rfl | exact .slr rfl | exact .orow rfl | exact .nil) | (apply w_mki; exact rfl; exact rfl; rotate_left 3; exact rfl; rotate_left 1) | omega)
  refine AWp.loop (ι := Nat) (fun i => ⟨22, [(0, .ints xs), (3, .own 0), (4, .i i)]⟩) (fun i => [.sli 2 (xs.take i ++ List.replicate (xs.length - i) 0)]) (fun i => i ≤ xs.length) (fun i => xs.length - i) 0 (Nat.zero_le _) ⟨lee rfl (by (repeat (first | exact le_nil | refine le_eq rfl rfl ?_))), lo_eq (by simp) lo_nil, rfl, rfl⟩ ?_
  intro i hi
  repeat' (first | (apply AOps.nil; try simp only [List.nil_append, List.cons_append, List.set_cons_zero, List.set_cons_succ, List.length_cons, List.length_nil, Nat.reduceAdd, AV.sh, AV.sh1, AV.sh0, AO.sh, List.map_cons, List.map_nil, Nat.zero_add, Nat.add_zero, setAll]) | (apply w_move; exact rfl; exact rfl) | (apply w_assign; exact rfl; exact rfl) | apply AWp.seq | apply AWp.region | ((apply AWp.condP; exact rfl) <;> intro h) | apply AWp.block | apply AWp.ret | apply AWp.exit | apply AWp.skip | (apply w_len; exact rfl; exact rfl; first | exact .ints _ | exact .intss _ | exact .sli rfl | exact .sls rfl | exact .slr rfl | exact .orow rfl | exact .nil) | ((first | apply w_lss | apply w_add | apply w_idx | apply w_ld); iterate 3 exact rfl) | (apply w_idxo; exact rfl; exact rfl; (exact .sli rfl); exact rfl) | (apply w_sti; exact rfl; exact rfl; rotate_left 1; exact rfl; rotate_left 2) | (apply inI_of <;> omega) | omega | (simp <;> omega))
  · exact hk _ (geti_mem (by omega) (by omega))
  · refine ⟨i + 1, by omega, by omega, ⟨lee rfl (by (repeat (first | exact le_nil | refine le_eq rfl (by simp) ?_))), lo_eq ?_ lo_nil, rfl, rfl⟩⟩
    rw [← take_set_snoc xs i (by omega)]; rfl
  · have e : i = xs.length := by omega
    subst e
    refine ⟨_, _, _, .v1 Try.results40 rfl, .sli rfl, rfl, ?_⟩
    simp

theorem eqInt64S_c (xs ys : List Int) : AFnV Try.prog 13 [.ints xs, .ints ys] (.bool (decide (xs = ys))) := by
  (refine AFnV.start Try.func13 Try.ntmps13 rfl (by kernel_rfl) fun hk0 => ?_; simp only [Env.start, enumF, List.length_cons, List.length_nil, Nat.reduceAdd, Nat.reduceSub, List.cons_append, List.nil_append])
  obtain ⟨hk, hl⟩ : ArgOk (.ints xs) := hk0 _ (by simp)
  repeat' (first | (apply AOps.nil; try simp only [List.nil_append, List.cons_append, List.set_cons_zero, List.set_cons_succ, List.length_cons, List.length_nil, Nat.reduceAdd, AV.sh, AV.sh1, AV.sh0, AO.sh, List.map_cons, List.map_nil, Nat.zero_add, Nat.add_zero, setAll]) | (apply w_move; exact rfl; exact rfl) | (apply w_assign; exact rfl; exact rfl) | apply AWp.seq | apply AWp.region | ((apply AWp.condP; exact rfl) <;> intro h) | apply AWp.block | apply AWp.ret | apply AWp.skip | (apply w_len; exact rfl; exact rfl; first | exact .ints _ | exact .intss _ | exact .sli rfl | exact .sls rfl | exact .slr rfl | exact .orow rfl | exact .nil) | ((apply w_neq); iterate 3 exact rfl))
  · exact .bool Try.results13 rfl (by simp; intro e; subst e; simp at h)
  have hl2 : xs.length = ys.length := by simp at h; omega
  refine AWp.loop (ι := Nat) (fun i => ⟨26, [(0, .ints xs), (1, .ints ys), (5, .i i)]⟩) (fun i => []) (fun i => i ≤ xs.length ∧ xs.take i = ys.take i) (fun i => xs.length - i) 0 ⟨Nat.zero_le _, rfl⟩ ⟨lee rfl (by (repeat (first | exact le_nil | refine le_eq rfl rfl ?_))), by (repeat (exact lo_nil)), rfl, rfl⟩ ?_
  intro i hi
  obtain ⟨hi, he⟩ := hi
  repeat' (first | (apply AOps.nil; try simp only [List.nil_append, List.cons_append, List.set_cons_zero, List.set_cons_succ, List.length_cons, List.length_nil, Nat.reduceAdd, AV.sh, AV.sh1, AV.sh0, AO.sh, List.map_cons, List.map_nil, Nat.zero_add, Nat.add_zero, setAll]) | (apply w_move; exact rfl; exact rfl) | (apply w_assign; exact rfl; exact rfl) | apply AWp.seq | apply AWp.region | ((apply AWp.condP; exact rfl) <;> intro h) | apply AWp.block | apply AWp.ret | apply AWp.exit | apply AWp.skip | (apply AWp.regionQ; kernel_rfl; kernel_rfl) | (apply w_len; exact rfl; exact rfl; first | exact .ints _ | exact .intss _ | exact .sli rfl | exact .sls rfl | exact .slr rfl | exact .orow rfl | exact .nil) | ((first | apply w_lss | apply w_neq | apply w_add | apply w_idx | apply w_ld); iterate 3 exact rfl) | (apply inI_of <;> omega) | omega)
  · exact .bool Try.results13 rfl (by simp; intro e; subst e; simp at h)
  · refine ⟨i + 1, ⟨by omega, ?_⟩, by omega, ⟨lee rfl (by (repeat (first | exact le_nil | refine le_eq rfl rfl ?_))), by (repeat (exact lo_nil)), rfl, rfl⟩⟩
    have h1 : i < xs.length := by omega
    have h2 : i < ys.length := by omega
    rw [List.take_succ_eq_append_getElem h1, List.take_succ_eq_append_getElem h2, he, List.append_cancel_left_eq]
    have : geti xs i = geti ys i := by simpa using h
    simpa [geti, h1, h2] using this
  · have e : i = xs.length := by omega
    subst e
    rw [List.take_length, hl2, List.take_length] at he
    exact .bool Try.results13 rfl (by simp [he])
end Go.Proofs.Ytifkgmbghcmdeaa
/-
  Products of lists of coefficients up to an exponent. No condition but bounds.
-/
namespace Go.Proofs.Ytifkgmbghcmdeaa
open Go Go.RowKit
attribute [local irreducible] AWp AOps ResIs Ret1 QOp LOp COp AFnV AFn Imms LeE LeO
set_option maxHeartbeats 1000000
set_option linter.unusedSimpArgs false
set_option linter.unusedVariables false

theorem mulP {a b : Int} (h0 : 0 ≤ a) (h1 : a ≤ 55440) (h2 : 0 ≤ b) (h3 : b ≤ 55440) : 0 ≤ a * b ∧ a * b ≤ 3073593600 := by
  refine ⟨Int.mul_nonneg h0 h2, ?_⟩
  have := Int.mul_le_mul h1 h3 h2 (by omega : (0 : Int) ≤ 55440)
  omega
theorem modP (a : Int) : 0 ≤ a % 55441 ∧ a % 55441 ≤ 55440 := by
  have h1 := Int.emod_nonneg a (show (55441 : Int) ≠ 0 by decide)
  have h2 := Int.emod_lt_of_pos a (show (0 : Int) < 55441 by decide)
  omega
/-- All entries are numbers of the field. -/
def inF (l : List Int) : Prop := ∀ i : Int, 0 ≤ geti l i ∧ geti l i ≤ 55440
theorem inF_rep (n : Nat) : inF (List.replicate n 0) := fun i => by
  unfold geti
  rw [List.getD_eq_getElem?_getD, List.getElem?_replicate]
  split <;> simp
theorem geti_set (l : List Int) (j : Nat) (v : Int) (i : Int) : geti (l.set j v) i = if j = i.toNat ∧ j < l.length then v else geti l i := by
  unfold geti
  rw [List.getD_eq_getElem?_getD, List.getD_eq_getElem?_getD, List.getElem?_set]
  by_cases e : j = i.toNat
  · by_cases h : j < l.length
    · simp [e, e ▸ h]
    · simp [e, e ▸ h, List.getElem?_eq_none (show l.length ≤ i.toNat by omega)]
  · simp [e]
end Go.Proofs.Ytifkgmbghcmdeaa
/-
  Powers in the field of 55441 elements, in the program and in the model. No condition but that the base lies in the field and the exponent is no greater than 2^62.
-/
namespace Go.Proofs.Ytifkgmbghcmdeaa
open Go Go.RowKit
attribute [local irreducible] AWp AOps ResIs Ret1 QOp LOp COp AFnV AFn Imms LeE LeO
set_option maxHeartbeats 1000000
set_option linter.unusedSimpArgs false
set_option linter.unusedVariables false

theorem mulB {a b : Int} (h0 : 0 ≤ a) (h1 : a ≤ 55440) (h2 : 0 ≤ b) (h3 : b ≤ 55440) : 0 ≤ a * b ∧ a * b ≤ 3073593600 := by
  refine ⟨Int.mul_nonneg h0 h2, ?_⟩
  have := Int.mul_le_mul h1 h3 h2 (by omega)
  omega

theorem modF (a : Int) : 0 ≤ a % 55441 ∧ a % 55441 ≤ 55440 := by
  have h1 := Int.emod_nonneg a (show (55441 : Int) ≠ 0 by omega)
  have h2 := Int.emod_lt_of_pos a (show (0 : Int) < 55441 by omega)
  omega

theorem mulmod (a b : Int) : (a % 55441) * b % 55441 = a * b % 55441 := by
  rw [Int.mul_emod, Int.emod_emod_of_dvd _ (Int.dvd_refl _), ← Int.mul_emod]
theorem mulmod' (a b : Int) : a * (b % 55441) % 55441 = a * b % 55441 := by
  rw [Int.mul_comm, mulmod, Int.mul_comm]
theorem powmod (x : Int) : ∀ m : Nat, (x % 55441) ^ m % 55441 = x ^ m % 55441
  | 0 => by simp
  | m + 1 => by
    rw [Int.pow_succ, Int.pow_succ, mulmod', ← mulmod, powmod x m, mulmod]
theorem sqpow (z : Int) : ∀ m : Nat, (z * z) ^ m = z ^ (2 * m)
  | 0 => by simp
  | m + 1 => by
    rw [Int.pow_succ, sqpow z m, show 2 * (m + 1) = 2 * m + 1 + 1 by omega, Int.pow_succ, Int.pow_succ, Int.mul_assoc]

/-- A power in the field. -/
def pwF (z : Int) (n : Int) : Int := z ^ n.toNat % 55441

theorem pw_even {o z n : Int} (h0 : 0 ≤ n) (h : n % 2 = 0) : o * (z * z % 55441) ^ (n / 2).toNat % 55441 = o * z ^ n.toNat % 55441 := by
  rw [← mulmod', powmod, mulmod', sqpow]
  congr 3
  omega
theorem pw_odd {o z n : Int} (h0 : 0 ≤ n) (h : n % 2 = 1) : (o * z % 55441) * (z * z % 55441) ^ (n / 2).toNat % 55441 = o * z ^ n.toNat % 55441 := by
  rw [mulmod, ← mulmod', powmod, mulmod', sqpow, Int.mul_assoc]
  have : n.toNat = 2 * (n / 2).toNat + 1 := by omega
  rw [this, Int.pow_succ, Int.mul_comm z]

theorem power_c (z n : Int) (hz : 0 ≤ z ∧ z ≤ 55440) (hn : 0 ≤ n ∧ n ≤ 4611686018427387904) : AFnV Try.prog 104 [.i z, .i n] (.int .i64 (pwF z n)) := by
  (refine AFnV.start Try.func104 Try.ntmps104 rfl (by kernel_rfl) fun hk => ?_; simp only [Env.start, enumF, List.length_cons, List.length_nil, Nat.reduceAdd, Nat.reduceSub, List.cons_append, List.nil_append])
  repeat' (first | (apply AOps.nil; try simp only [List.nil_append, List.cons_append, List.set_cons_zero, List.set_cons_succ, List.length_cons, List.length_nil, Nat.reduceAdd, AV.sh, AV.sh1, AV.sh0, AO.sh, List.map_cons, List.map_nil, Nat.zero_add, Nat.add_zero, setAll]) | (apply w_assign; exact rfl; exact rfl) | apply AWp.seq | apply AWp.region | apply AWp.block)
  refine AWp.loop (ι := Int × Int × Int) (fun s => ⟨22, [(0, .i s.1), (1, .i s.2.1), (5, .i s.2.2)]⟩) (fun _ => []) (fun s => (0 ≤ s.1 ∧ s.1 ≤ 55440) ∧ (0 ≤ s.2.1 ∧ s.2.1 ≤ 4611686018427387904) ∧ (0 ≤ s.2.2 ∧ s.2.2 ≤ 55440) ∧ s.2.2 * s.1 ^ s.2.1.toNat % 55441 = pwF z n) (fun s => s.2.1.toNat) (z, n, 1) ⟨hz, hn, by simp, by simp [pwF]⟩ ⟨lee rfl (by (repeat (first | exact le_nil | refine le_eq rfl rfl ?_))), by (repeat (exact lo_nil)), rfl, rfl⟩ ?_
  rintro ⟨x, k, o⟩ ⟨h0, h1, h2, h3⟩
  simp only at h0 h1 h2 h3
  have b1 := mulB h2.1 h2.2 h0.1 h0.2
  have b2 := mulB h0.1 h0.2 h0.1 h0.2
  have b3 := modF (o * x)
  have b4 := modF (x * x)
  repeat' (first | (apply AOps.nil; try simp only [List.nil_append, List.cons_append, List.set_cons_zero, List.set_cons_succ, List.length_cons, List.length_nil, Nat.reduceAdd, AV.sh, AV.sh1, AV.sh0, AO.sh, List.map_cons, List.map_nil, Nat.zero_add, Nat.add_zero, setAll]) | (apply w_move; exact rfl; exact rfl) | (apply w_assign; exact rfl; exact rfl) | apply AWp.seq | apply AWp.region | ((apply AWp.condP; exact rfl) <;> intro h) | apply AWp.block | apply AWp.ret | apply AWp.exit | apply AWp.skip | ((first | apply w_gtr | apply w_eql | apply w_mul); iterate 3 exact rfl) | (apply w_rem; exact rfl; exact rfl; exact rfl; (focus (omega; done)); (focus (omega; done))) | (apply w_quo; exact rfl; exact rfl; exact rfl; (focus (omega; done)); (focus (omega; done))) | (apply inI_of <;> omega))
  · exact ⟨(x * x % 55441, k / 2, o * x % 55441), ⟨b4, by simp only; omega, b3, by simp only; rw [pw_odd (by omega) (by omega), h3]⟩, by simp only; omega, ⟨lee rfl (by (repeat (first | exact le_nil | refine le_eq rfl rfl ?_))), by (repeat (exact lo_nil)), rfl, rfl⟩⟩
  · exact ⟨(x * x % 55441, k / 2, o), ⟨b4, by simp only; omega, h2, by simp only; rw [pw_even (by omega) (by omega), h3]⟩, by simp only; omega, ⟨lee rfl (by (repeat (first | exact le_nil | refine le_eq rfl rfl ?_))), by (repeat (exact lo_nil)), rfl, rfl⟩⟩
  · have e : k = 0 := by omega
    subst e
    exact .int Try.results104 rfl (by rw [← h3]; simp; omega)

theorem pwF_in (z n : Int) : 0 ≤ pwF z n ∧ pwF z n ≤ 55440 := modF _
end Go.Proofs.Ytifkgmbghcmdeaa
