/-
  Parts of the proof, one behind the other: contracts of functions and plain laws. No condition.
-/
import Derived.Lib.SliceRun
import Derived.OrdersHeld
import Derived.Maps.RangeRun
import Derived.ChangeKeysEq
import GoSem.Instr.MapUpdate
import GoSem.Instr.MakeMap
import Derived.Test.YtcolpjpppdmanaaPt1FnChainsAndP
/-
  The rules of the abstract machine in the form in which the walks use them. No condition.
-/
namespace Go.Proofs.Ytcolpjpppdmanaa
open Go Go.RowKit

/-- An operand's abstract value, found in its slot. -/
def evo (env : Env) : Operand → Option AV
  | .tmp t => env.fd t
  | .const v => some (.val v)
  | .global _ => none
  | .func f => some (.val (.func (.func f) #[] #[]))

section
variable {P : Program} {env : Env} {os : List AO} {d : Option Tmp} {ty : TypeId} {pos : String} {af : Array Edge} {g : Option (Nat × Bool)} {N : APost} {X : Nat → APost} {Rt : APost} {l rest : List Oper} {K : APost} {q : Md} {wl : Bool}

theorem ev_of {x : Operand} {a : AV} (h : evo env x = some a) : AV.ev env x = a := by
  cases x with
  | tmp t => exact Env.lk_of h
  | const v => simp only [evo, Option.some.injEq] at h; exact h
  | global g => cases h
  | func f => simp only [evo, Option.some.injEq] at h; exact h
theorem gd_of {t : Nat} {a : AV} (h : env.fd t = some a) : env.lk t = a := Env.lk_of h
theorem gdl {l : List AV} {t : Nat} {a : AV} (h : l[t]? = some a) : l.getD t .any = a := by simp [h]

theorem a_move {x : Operand} {a : AV} (hx : evo env x = some a) : QOp P wl ⟨d, .move x, ty, pos, af, g⟩ env os a := ev_of hx ▸ q_move
theorem a_assign {x : Operand} {a : AV} (hx : evo env x = some a) : QOp P wl ⟨d, .assign x, ty, pos, af, g⟩ env os a := ev_of hx ▸ q_assign
theorem a_pick_t {c x y : Operand} {a : AV} (hc : evo env c = some (.val (.bool true))) (hx : evo env x = some a) : QOp P wl ⟨d, .pick c x y, ty, pos, af, g⟩ env os a := ev_of hx ▸ q_pick_t (ev_of hc)
theorem a_pick_f {c x y : Operand} {a : AV} (hc : evo env c = some (.val (.bool false))) (hy : evo env y = some a) : QOp P wl ⟨d, .pick c x y, ty, pos, af, g⟩ env os a := ev_of hy ▸ q_pick_f (ev_of hc)
theorem a_len {t e : TypeId} [TSlice P t e] {x : Operand} {a : AV} {n : Nat} (hx : evo env x = some a) (hl : HasLen os a n) : QOp P wl ⟨d, .call { callee := .builtin .len, args := #[x], argTypes := #[t] }, ty, pos, af, g⟩ env os (.i n) :=
  q_len (ev_of hx ▸ hl)

theorem im_nil : Imms os (([] : List Operand).map (AV.ev env)) [] := trivial
theorem im_cons {x : Operand} {xs : List Operand} {a b : AV} {bs : List AV} (hx : evo env x = some a) (h : Imm os a b) (hs : Imms os (xs.map (AV.ev env)) bs) : Imms os ((x :: xs).map (AV.ev env)) (b :: bs) :=
  ⟨ev_of hx ▸ h, hs⟩

theorem im_agg1 {a a' : AV} (h : Imm os a a') : Imm os (.agg [a]) (.agg [a']) := Imm.aggs ⟨h, trivial⟩
theorem im_agg2 {a a' b b' : AV} (h : Imm os a a') (h2 : Imm os b b') : Imm os (.agg [a, b]) (.agg [a', b']) := Imm.aggs ⟨h, h2, trivial⟩
theorem AWp.condT {c : Operand} {x y : Code} (hc : evo env c = some (.val (.bool true))) (h : AWp P x N X Rt env os) : AWp P (.cond c x y) N X Rt env os :=
  .cond (ev_of hc) (fun _ => h) (fun e => by cases e)
theorem AWp.condF {c : Operand} {x y : Code} (hc : evo env c = some (.val (.bool false))) (h : AWp P y N X Rt env os) : AWp P (.cond c x y) N X Rt env os :=
  .cond (ev_of hc) (fun e => by cases e) (fun _ => h)
theorem AWp.condP {c : Operand} {x y : Code} {p : Prop} {_ : Decidable p} (hc : evo env c = some (.val (.bool (decide p)))) (ht : p → AWp P x N X Rt env os) (hf : ¬ p → AWp P y N X Rt env os) : AWp P (.cond c x y) N X Rt env os :=
  .cond (ev_of hc) (fun e => ht (of_decide_eq_true e)) (fun e => hf (of_decide_eq_false e))
theorem AWp.condN {c : Operand} {x y : Code} {p : Prop} {_ : Decidable p} (hc : evo env c = some (.val (.bool (!decide p)))) (ht : ¬ p → AWp P x N X Rt env os) (hf : p → AWp P y N X Rt env os) : AWp P (.cond c x y) N X Rt env os :=
  .cond (ev_of hc) (fun e => ht (by simpa using e)) (fun e => hf (by simpa using e))
theorem AWp.condB {c : Operand} {x y : Code} {b : Bool} (hc : evo env c = some (.val (.bool b))) (ht : b = true → AWp P x N X Rt env os) (hf : b = false → AWp P y N X Rt env os) : AWp P (.cond c x y) N X Rt env os :=
  .cond (ev_of hc) ht hf

theorem imu_nil {H : List Nat} : ImmUs os H (([] : List Operand).map (AV.ev env)) [] := trivial
theorem imu_cons {H : List Nat} {x : Operand} {xs : List Operand} {a b : AV} {bs : List AV} (hx : evo env x = some a) (h : ImmU os H a b) (hs : ImmUs os H (xs.map (AV.ev env)) bs) : ImmUs os H ((x :: xs).map (AV.ev env)) (b :: bs) :=
  ⟨ev_of hx ▸ h, hs⟩
theorem imu_agg2 {H : List Nat} {a a' b b' : AV} (h : ImmU os H a a') (h2 : ImmU os H b b') : ImmU os H (.agg [a, b]) (.agg [a', b']) := ImmU.aggs ⟨h, h2, trivial⟩
theorem handed1 {h : Nat} {o : AO} (ho : os[h]? = some o) (hp : o.plain) : Handed os [h] [o] := by
  refine ⟨by simp, fun k x hk => ?_, rfl, by simpa using hp⟩
  cases k with
  | zero => simp at hk; subst hk; simp [ho]
  | succ k => simp at hk
section guards
variable {d' d'' : Tmp} {op : Op} {j : Nat} {pol : Bool}
theorem AOps.splitP (_hj : (l[j]?).bind (·.dst) = some d'') {p : Prop} {_ : Decidable p} (hd : env.fd d'' = some (.val (.bool (decide p)))) (ht : p → AOps P q l (⟨some d', op, ty, pos, af, some (j, pol)⟩ :: rest) K (env.up d'' (.val (.bool true))) os)
    (hf : ¬ p → AOps P q l (⟨some d', op, ty, pos, af, some (j, pol)⟩ :: rest) K (env.up d'' (.val (.bool false))) os) : AOps P q l (⟨some d', op, ty, pos, af, some (j, pol)⟩ :: rest) K env os :=
  .split d'' (gd_of hd) (fun e => ht (of_decide_eq_true e)) (fun e => hf (of_decide_eq_false e))
theorem AOps.splitN (_hj : (l[j]?).bind (·.dst) = some d'') {p : Prop} {_ : Decidable p} (hd : env.fd d'' = some (.val (.bool (!decide p)))) (ht : ¬ p → AOps P q l (⟨some d', op, ty, pos, af, some (j, pol)⟩ :: rest) K (env.up d'' (.val (.bool true))) os)
    (hf : p → AOps P q l (⟨some d', op, ty, pos, af, some (j, pol)⟩ :: rest) K (env.up d'' (.val (.bool false))) os) : AOps P q l (⟨some d', op, ty, pos, af, some (j, pol)⟩ :: rest) K env os :=
  .split d'' (gd_of hd) (fun e => ht (by simpa using e)) (fun e => hf (by simpa using e))
theorem AOps.splitB (_hj : (l[j]?).bind (·.dst) = some d'') {b : Bool} (hd : env.fd d'' = some (.val (.bool b))) (ht : b = true → AOps P q l (⟨some d', op, ty, pos, af, some (j, pol)⟩ :: rest) K (env.up d'' (.val (.bool true))) os)
    (hf : b = false → AOps P q l (⟨some d', op, ty, pos, af, some (j, pol)⟩ :: rest) K (env.up d'' (.val (.bool false))) os) : AOps P q l (⟨some d', op, ty, pos, af, some (j, pol)⟩ :: rest) K env os :=
  .split d'' (gd_of hd) ht hf
end guards

theorem ResIs.v1 {fn : Func} {t : Tmp} (h : fn.results = #[.tmp t]) {a : AV} (ht : env.fd t = some a) : ResIs P fn env os a := gd_of ht ▸ .t1 h
theorem ResIs.vv2 {fn : Func} {t u : Tmp} (h : fn.results = #[.tmp t, .tmp u]) {a b : Value} (ha : env.fd t = some (.val a)) (hb : env.fd u = some (.val b)) : ResIs P fn env os (.val (.tuple #[a, b])) := .v2 h (gd_of ha) (gd_of hb)
theorem ResIs.vv3 {fn : Func} {t u s : Tmp} (h : fn.results = #[.tmp t, .tmp u, .tmp s]) {a b c : Value} (ha : env.fd t = some (.val a)) (hb : env.fd u = some (.val b)) (hc : env.fd s = some (.val c)) :
    ResIs P fn env os (.val (.tuple #[a, b, c])) := .v3 h (gd_of ha) (gd_of hb) (gd_of hc)
theorem ResIs.a2 {fn : Func} {t u : Tmp} (h : fn.results = #[.tmp t, .tmp u]) {a b : AV} (ha : env.fd t = some a) (hb : env.fd u = some b) : ResIs P fn env os (.tup [a, b]) := gd_of ha ▸ gd_of hb ▸ .t2 h

theorem ResIs.bool {fn : Func} {t : Tmp} (h : fn.results = #[.tmp t]) {b b' : Bool} (ht : env.fd t = some (.b b)) (e : b = b') : ResIs P fn env os (.val (.bool b')) := e ▸ .v1 h ht
theorem ResIs.int {fn : Func} {t : Tmp} (h : fn.results = #[.tmp t]) {b b' : Int} (ht : env.fd t = some (.i b)) (e : b = b') : ResIs P fn env os (.val (.int .i64 b')) := e ▸ .v1 h ht
theorem ResIs.intint {fn : Func} {t u : Tmp} (h : fn.results = #[.tmp t, .tmp u]) {a a' b b' : Int} (ht : env.fd t = some (.i a)) (hu : env.fd u = some (.i b)) (e1 : a = a') (e2 : b = b') : ResIs P fn env os (.val (.tuple #[.int .i64 a', .int .i64 b'])) :=
  e1 ▸ e2 ▸ .vv2 h ht hu
/-- Facts on a list that is read. -/
theorem RVs.ints {w : World} {args : List AV} {vs : Array Value} (h : RVs w args vs) {i : Nat} {xs : List Int} (hi : args[i]? = some (.ints xs)) : (∀ x ∈ xs, inI x) ∧ xs.length ≤ 9223372036854775807 := by
  have := h.2 i
  rw [gdl hi] at this
  generalize vs.getD i undef = v at this
  cases this with
  | ints h1 =>
    obtain ⟨⟨a, cap, _, h2, h3, _⟩, h4⟩ := h1
    exact ⟨h4, by simp [maxLen] at h3; simp at h2; omega⟩
end

/-- The facts that the arguments bring with them. -/
def ArgOk : AV → Prop
  | .ints xs => (∀ x ∈ xs, inI x) ∧ xs.length ≤ 9223372036854775807
  | .intss xss => (∀ xs ∈ xss, (∀ x ∈ xs, inI x) ∧ xs.length ≤ 9223372036854775807) ∧ xss.length ≤ 9223372036854775807
  | .agg l => ∀ a ∈ l, match a with
    | .ints xs => (∀ x ∈ xs, inI x) ∧ xs.length ≤ 9223372036854775807
    | .intss xss => (∀ xs ∈ xss, (∀ x ∈ xs, inI x) ∧ xs.length ≤ 9223372036854775807) ∧ xss.length ≤ 9223372036854775807
    | _ => True
  | _ => True

theorem IntsAt.ok {w : World} {ok : Nat → Prop} {v : Value} {xs : List Int} (h : IntsAt w ok v xs) : (∀ x ∈ xs, inI x) ∧ xs.length ≤ 9223372036854775807 := by
  obtain ⟨⟨a, cap, _, h2, h3, _⟩, h4⟩ := h
  exact ⟨h4, by simp [maxLen] at h3; simp at h2; omega⟩
theorem IntssAt.ok {w : World} {ok : Nat → Prop} {v : Value} {xss : List (List Int)} (h : IntssAt w ok v xss) : (∀ xs ∈ xss, (∀ x ∈ xs, inI x) ∧ xs.length ≤ 9223372036854775807) ∧ xss.length ≤ 9223372036854775807 := by
  obtain ⟨vs, ⟨a, cap, _, h2, h3, _⟩, h4, h5⟩ := h
  refine ⟨fun xs hx => ?_, by simp [maxLen] at h3; omega⟩
  obtain ⟨i, hi, rfl⟩ := List.getElem_of_mem hx
  have := (h5 i _ (List.getElem?_eq_getElem (by omega))).ok
  simpa [hi] using this

theorem RV.argOk {w : World} {ok : Nat → Prop} {gs : List Gh} {v : Value} {a : AV} (h : RV w ok gs v a) : ArgOk a := by
  cases h with
  | ints h => exact h.ok
  | intss h => exact h.ok
  | @agg vs l h1 h2 h3 =>
    intro b hb
    obtain ⟨i, hi, rfl⟩ := List.getElem_of_mem hb
    have := h3 i
    rw [show l.getD i .any = l[i] by simp [hi]] at this
    show match l[i] with
      | .ints xs => (∀ x ∈ xs, inI x) ∧ xs.length ≤ 9223372036854775807
      | .intss xss => (∀ xs ∈ xss, (∀ x ∈ xs, inI x) ∧ xs.length ≤ 9223372036854775807) ∧ xss.length ≤ 9223372036854775807
      | _ => True
    generalize l[i] = b at this
    generalize vs.getD i undef = v at this
    cases this with
    | ints h => exact h.ok
    | intss h => exact h.ok
    | _ => trivial
  | _ => trivial

/-- A contract's proof may lean on what the arguments bring with them. -/
theorem AFnV.facts {P : Program} {f : FuncId} {args : List AV} {v : Value} (hb : HasBody P f) (h : (∀ a ∈ args, ArgOk a) → AFnV P f args v) : AFnV P f args v := by
  refine ⟨hb, fun w vs hvs => (h fun a ha => ?_).2 w vs hvs⟩
  obtain ⟨i, hi, rfl⟩ := List.getElem_of_mem ha
  have := (hvs.2 i).argOk
  rwa [show args.getD i .any = args[i] by simp [hi]] at this
theorem AFn.facts {P : Program} {f : FuncId} {args : List AV} {Q : AV → List AO → Prop} (hb : HasBody P f) (h : (∀ a ∈ args, ArgOk a) → AFn P f args Q) : AFn P f args Q := by
  refine ⟨hb, fun w vs hvs => (h fun a ha => ?_).2 w vs hvs⟩
  obtain ⟨i, hi, rfl⟩ := List.getElem_of_mem ha
  have := (hvs.2 i).argOk
  rwa [show args.getD i .any = args[i] by simp [hi]] at this

theorem AFnV.start {P : Program} {f : FuncId} {fn : Func} {c : Code} {args : List AV} {v : Value} {m : Nat} (hf : P.funcs[f]? = some fn) (hn : fn.ntmps = m) (hb : fn.body = some c) (hnm : (fn.name == "runtime.NumGoroutine") = false)
    (h : (∀ a ∈ args, ArgOk a) → AWp P c (fun _ _ => False) (fun _ _ _ => False) (fun env os => ResIs P fn env os (.val v)) (Env.start args (m - args.length)) []) : AFnV P f args v :=
  .facts ⟨fn, c, hf, hnm, hb⟩ fun hk => .of hf hb hnm (by rw [hn]) (h hk)
theorem AFn.start {P : Program} {f : FuncId} {fn : Func} {c : Code} {args : List AV} {Q : AV → List AO → Prop} {m : Nat} (hf : P.funcs[f]? = some fn) (hn : fn.ntmps = m) (hb : fn.body = some c) (hnm : (fn.name == "runtime.NumGoroutine") = false)
    (h : (∀ a ∈ args, ArgOk a) → AWp P c (fun _ _ => False) (fun _ _ _ => False) (fun env os => ∃ a r objs, ResIs P fn env os a ∧ Ret1 os a r objs ∧ Q r objs) (Env.start args (m - args.length)) []) : AFn P f args Q :=
  .facts ⟨fn, c, hf, hnm, hb⟩ fun hk => .of hf hb hnm (by rw [hn]) (h hk)

theorem AFnU.start {P : Program} {f : FuncId} {fn : Func} {c : Code} {args : List AV} {objs : List AO} {Q : Value → List AO → Prop} {m : Nat} (hf : P.funcs[f]? = some fn) (hn : fn.ntmps = m) (hb : fn.body = some c) (hnm : (fn.name == "runtime.NumGoroutine") = false)
    (h : ∀ K, AWp P c (fun _ _ => False) (fun _ _ _ => False) (fun env os1 => ∃ v os', ResIs P fn env os1 (.val v) ∧ Q v os' ∧ os1.take objs.length = os' ∧ os1[objs.length]? = some (.keep (objs.length + 1) K) ∧ ∀ o ∈ os', o.plain) (Env.start args (m - args.length)) (objs ++ [.keep (objs.length + 1) K])) :
    AFnU P f args objs Q := .of hf hb hnm (by rw [hn]) h

theorem geti_mem {xs : List Int} {i : Int} (h0 : 0 ≤ i) (h1 : i < xs.length) : geti xs i ∈ xs := by
  unfold geti
  have : i.toNat < xs.length := by omega
  simp [this]
theorem gets_mem {xss : List (List Int)} {i : Int} (h0 : 0 ≤ i) (h1 : i < xss.length) : gets xss i ∈ xss := by
  unfold gets
  have : i.toNat < xss.length := by omega
  simp [this]
theorem inI_of {n : Int} (h0 : -9223372036854775808 ≤ n) (h1 : n ≤ 9223372036854775807) : inI n := ⟨h0, h1⟩

/-- A loop's head against a literal. -/
theorem le_nil {e : Env} : LeM e [] := trivial
theorem le_eq {e : Env} {k : Nat} {a a' : AV} {t : List (Nat × AV)} (h : e.fd k = some a) (ha : a = a') (ht : LeM e t) : LeM e ((k, a') :: t) := ⟨ha ▸ h, ht⟩
theorem lee {e e' : Env} (h : e'.n = e.n) (hm : LeM e e'.m) : LeE e e' := ⟨h, hm⟩
theorem lo_nil {a : List AO} : LeO a [] := by cases a <;> trivial
theorem lo_dead {a : AO} {as0 bs : List AO} (h : LeO as0 bs) : LeO (a :: as0) (.dead :: bs) := ⟨.inl rfl, h⟩
theorem lo_eq {a b : AO} {as0 bs : List AO} (e : a = b) (h : LeO as0 bs) : LeO (a :: as0) (b :: bs) := ⟨.inr (.inl e), h⟩
end Go.Proofs.Ytcolpjpppdmanaa
/-
  The rules of the abstract machine joined with their operations, by program: a walk finds its rule by the operation's head. No condition.
-/
namespace Go.Proofs.Ytcolpjpppdmanaa
open Go Go.RowKit
theorem if_pos' {c : Prop} [Decidable c] {A B : Prop} (hc : c) (h : A) : if c then A else B := by rw [if_pos hc]; exact h
theorem if_neg' {c : Prop} [Decidable c] {A B : Prop} (hc : ¬ c) (h : B) : if c then A else B := by rw [if_neg hc]; exact h
theorem lt_of_get {α : Type} {l : List α} {i : Nat} {a : α} (h : l[i]? = some a) : i < l.length := (List.getElem?_eq_some_iff.1 h).1
section
variable {P : Program} {env : Env} {os : List AO} {d : Tmp} {ty : TypeId} {pos : String} {af : Array Edge} {g : Option (Nat × Bool)} {l rest : List Oper} {K : APost} {q : Md}
theorem w_move {x : Operand} {a : AV} (hw : wantedA l env ⟨some d, .move x, ty, pos, af, g⟩ = some true) (hx : evo env x = some a) (h' : AOps P q l rest K (env.up d (a)) os) : AOps P q l (⟨some d, .move x, ty, pos, af, g⟩ :: rest) K env os := AOps.qo hw (a_move hx) h'
theorem w_assign {x : Operand} {a : AV} (hw : wantedA l env ⟨some d, .assign x, ty, pos, af, g⟩ = some true) (hx : evo env x = some a) (h' : AOps P q l rest K (env.up d (a)) os) : AOps P q l (⟨some d, .assign x, ty, pos, af, g⟩ :: rest) K env os := AOps.qo hw (a_assign hx) h'
theorem w_pickT {c x y : Operand} {a : AV} (hw : wantedA l env ⟨some d, .pick c x y, ty, pos, af, g⟩ = some true) (hc : evo env c = some (.val (.bool true))) (hx : evo env x = some a) (h' : AOps P q l rest K (env.up d (a)) os) : AOps P q l (⟨some d, .pick c x y, ty, pos, af, g⟩ :: rest) K env os := AOps.qo hw (a_pick_t hc hx) h'
theorem w_pickF {c x y : Operand} {a : AV} (hw : wantedA l env ⟨some d, .pick c x y, ty, pos, af, g⟩ = some true) (hc : evo env c = some (.val (.bool false))) (hx : evo env y = some a) (h' : AOps P q l rest K (env.up d (a)) os) : AOps P q l (⟨some d, .pick c x y, ty, pos, af, g⟩ :: rest) K env os := AOps.qo hw (a_pick_f hc hx) h'
theorem w_len {t e : TypeId} [TSlice P t e] {x : Operand} {a : AV} {n : Nat} (hw : wantedA l env ⟨some d, .call { callee := .builtin .len, args := #[x], argTypes := #[t] }, ty, pos, af, g⟩ = some true) (hx : evo env x = some a) (hl : HasLen os a n) (h' : AOps P q l rest K (env.up d (.i n)) os) : AOps P q l (⟨some d, .call { callee := .builtin .len, args := #[x], argTypes := #[t] }, ty, pos, af, g⟩ :: rest) K env os := AOps.qo hw (a_len hx hl) h'
theorem w_lss {xt yt : TypeId} {x y : Operand} {a b : Int} {k : IntKind} (hw : wantedA l env ⟨some d, .binOp .lss xt x y yt, ty, pos, af, g⟩ = some true) (ha : evo env x = some (.val (.int k a))) (hb : evo env y = some (.val (.int k b))) (h' : AOps P q l rest K (env.up d (.b (decide (a < b)))) os) : AOps P q l (⟨some d, .binOp .lss xt x y yt, ty, pos, af, g⟩ :: rest) K env os := AOps.qo hw (q_lss (ev_of ha) (ev_of hb)) h'
theorem w_leq {xt yt : TypeId} {x y : Operand} {a b : Int} {k : IntKind} (hw : wantedA l env ⟨some d, .binOp .leq xt x y yt, ty, pos, af, g⟩ = some true) (ha : evo env x = some (.val (.int k a))) (hb : evo env y = some (.val (.int k b))) (h' : AOps P q l rest K (env.up d (.b (decide (a ≤ b)))) os) : AOps P q l (⟨some d, .binOp .leq xt x y yt, ty, pos, af, g⟩ :: rest) K env os := AOps.qo hw (q_leq (ev_of ha) (ev_of hb)) h'
theorem w_gtr {xt yt : TypeId} {x y : Operand} {a b : Int} {k : IntKind} (hw : wantedA l env ⟨some d, .binOp .gtr xt x y yt, ty, pos, af, g⟩ = some true) (ha : evo env x = some (.val (.int k a))) (hb : evo env y = some (.val (.int k b))) (h' : AOps P q l rest K (env.up d (.b (decide (b < a)))) os) : AOps P q l (⟨some d, .binOp .gtr xt x y yt, ty, pos, af, g⟩ :: rest) K env os := AOps.qo hw (q_gtr (ev_of ha) (ev_of hb)) h'
theorem w_geq {xt yt : TypeId} {x y : Operand} {a b : Int} {k : IntKind} (hw : wantedA l env ⟨some d, .binOp .geq xt x y yt, ty, pos, af, g⟩ = some true) (ha : evo env x = some (.val (.int k a))) (hb : evo env y = some (.val (.int k b))) (h' : AOps P q l rest K (env.up d (.b (decide (b ≤ a)))) os) : AOps P q l (⟨some d, .binOp .geq xt x y yt, ty, pos, af, g⟩ :: rest) K env os := AOps.qo hw (q_geq (ev_of ha) (ev_of hb)) h'
theorem w_eql {xt yt : TypeId} {x y : Operand} {a b : Int} {k : IntKind} (hw : wantedA l env ⟨some d, .binOp .eql xt x y yt, ty, pos, af, g⟩ = some true) (ha : evo env x = some (.val (.int k a))) (hb : evo env y = some (.val (.int k b))) (h' : AOps P q l rest K (env.up d (.b (decide (a = b)))) os) : AOps P q l (⟨some d, .binOp .eql xt x y yt, ty, pos, af, g⟩ :: rest) K env os := AOps.qo hw (q_eql (ev_of ha) (ev_of hb)) h'
theorem w_neq {xt yt : TypeId} {x y : Operand} {a b : Int} {k : IntKind} (hw : wantedA l env ⟨some d, .binOp .neq xt x y yt, ty, pos, af, g⟩ = some true) (ha : evo env x = some (.val (.int k a))) (hb : evo env y = some (.val (.int k b))) (h' : AOps P q l rest K (env.up d (.b (decide (a ≠ b)))) os) : AOps P q l (⟨some d, .binOp .neq xt x y yt, ty, pos, af, g⟩ :: rest) K env os := AOps.qo hw (q_neq (ev_of ha) (ev_of hb)) h'
theorem w_add {xt yt : TypeId} {x y : Operand} {a b : Int} (hw : wantedA l env ⟨some d, .binOp .add xt x y yt, ty, pos, af, g⟩ = some true) (ha : evo env x = some (.i a)) (hb : evo env y = some (.i b)) (hi : inI (a + b)) (h' : AOps P q l rest K (env.up d (.i (a + b))) os) : AOps P q l (⟨some d, .binOp .add xt x y yt, ty, pos, af, g⟩ :: rest) K env os := AOps.qo hw (q_add (ev_of ha) (ev_of hb) hi) h'
theorem w_sub {xt yt : TypeId} {x y : Operand} {a b : Int} (hw : wantedA l env ⟨some d, .binOp .sub xt x y yt, ty, pos, af, g⟩ = some true) (ha : evo env x = some (.i a)) (hb : evo env y = some (.i b)) (hi : inI (a - b)) (h' : AOps P q l rest K (env.up d (.i (a - b))) os) : AOps P q l (⟨some d, .binOp .sub xt x y yt, ty, pos, af, g⟩ :: rest) K env os := AOps.qo hw (q_sub (ev_of ha) (ev_of hb) hi) h'
theorem w_mul {xt yt : TypeId} {x y : Operand} {a b : Int} (hw : wantedA l env ⟨some d, .binOp .mul xt x y yt, ty, pos, af, g⟩ = some true) (ha : evo env x = some (.i a)) (hb : evo env y = some (.i b)) (hi : inI (a * b)) (h' : AOps P q l rest K (env.up d (.i (a * b))) os) : AOps P q l (⟨some d, .binOp .mul xt x y yt, ty, pos, af, g⟩ :: rest) K env os := AOps.qo hw (q_mul (ev_of ha) (ev_of hb) hi) h'
theorem w_quo {xt yt : TypeId} {x y : Operand} {a b : Int} (hw : wantedA l env ⟨some d, .binOp .quo xt x y yt, ty, pos, af, g⟩ = some true) (ha : evo env x = some (.i a)) (hb : evo env y = some (.i b)) (h0 : 0 ≤ a) (h1 : 0 < b) (hi : inI a) (h' : AOps P q l rest K (env.up d (.i (a / b))) os) : AOps P q l (⟨some d, .binOp .quo xt x y yt, ty, pos, af, g⟩ :: rest) K env os := AOps.qo hw (q_quo (ev_of ha) (ev_of hb) h0 h1 hi) h'
theorem w_rem {xt yt : TypeId} {x y : Operand} {a b : Int} (hw : wantedA l env ⟨some d, .binOp .rem xt x y yt, ty, pos, af, g⟩ = some true) (ha : evo env x = some (.i a)) (hb : evo env y = some (.i b)) (h0 : 0 ≤ a) (h1 : 0 < b) (h' : AOps P q l rest K (env.up d (.i (a % b))) os) : AOps P q l (⟨some d, .binOp .rem xt x y yt, ty, pos, af, g⟩ :: rest) K env os := AOps.qo hw (q_rem (ev_of ha) (ev_of hb) h0 h1) h'
theorem w_remT {xt yt : TypeId} {x y : Operand} {a b : Int} (hw : wantedA l env ⟨some d, .binOp .rem xt x y yt, ty, pos, af, g⟩ = some true) (ha : evo env x = some (.i a)) (hb : evo env y = some (.i b)) (h0 : b ≠ 0) (h' : AOps P q l rest K (env.up d (.i (a.tmod b))) os) : AOps P q l (⟨some d, .binOp .rem xt x y yt, ty, pos, af, g⟩ :: rest) K env os := AOps.qo hw (q_remT (ev_of ha) (ev_of hb) h0) h'
theorem w_quoT {xt yt : TypeId} {x y : Operand} {a b : Int} (hw : wantedA l env ⟨some d, .binOp .quo xt x y yt, ty, pos, af, g⟩ = some true) (ha : evo env x = some (.i a)) (hb : evo env y = some (.i b)) (h0 : b ≠ 0) (hi : inI (a.tdiv b)) (h' : AOps P q l rest K (env.up d (.i (a.tdiv b))) os) : AOps P q l (⟨some d, .binOp .quo xt x y yt, ty, pos, af, g⟩ :: rest) K env os := AOps.qo hw (q_quoT (ev_of ha) (ev_of hb) h0 hi) h'
theorem w_eqlb {xt yt : TypeId} [TBool P xt] {x y : Operand} {a b : Bool} (hw : wantedA l env ⟨some d, .binOp .eql xt x y yt, ty, pos, af, g⟩ = some true) (ha : evo env x = some (.b a)) (hb : evo env y = some (.b b)) (h' : AOps P q l rest K (env.up d (.b (decide (a = b)))) os) : AOps P q l (⟨some d, .binOp .eql xt x y yt, ty, pos, af, g⟩ :: rest) K env os := AOps.qo hw (q_eqlb (ev_of ha) (ev_of hb)) h'
theorem w_neqb {xt yt : TypeId} [TBool P xt] {x y : Operand} {a b : Bool} (hw : wantedA l env ⟨some d, .binOp .neq xt x y yt, ty, pos, af, g⟩ = some true) (ha : evo env x = some (.b a)) (hb : evo env y = some (.b b)) (h' : AOps P q l rest K (env.up d (.b (decide (a ≠ b)))) os) : AOps P q l (⟨some d, .binOp .neq xt x y yt, ty, pos, af, g⟩ :: rest) K env os := AOps.qo hw (q_neqb (ev_of ha) (ev_of hb)) h'
theorem w_not {xt : TypeId} {x : Operand} {b : Bool} (hw : wantedA l env ⟨some d, .unOp .not xt x, ty, pos, af, g⟩ = some true) (hb : evo env x = some (.b b)) (h' : AOps P q l rest K (env.up d (.b (!b))) os) : AOps P q l (⟨some d, .unOp .not xt x, ty, pos, af, g⟩ :: rest) K env os := AOps.qo hw (q_not (ev_of hb)) h'
theorem w_neg {xt : TypeId} {x : Operand} {a : Int} (hw : wantedA l env ⟨some d, .unOp .neg xt x, ty, pos, af, g⟩ = some true) (ha : evo env x = some (.i a)) (hi : inI (0 - a)) (h' : AOps P q l rest K (env.up d (.i (0 - a))) os) : AOps P q l (⟨some d, .unOp .neg xt x, ty, pos, af, g⟩ :: rest) K env os := AOps.qo hw (q_neg (ev_of ha) hi) h'
theorem w_conv {src dst : TypeId} [TKind P src .i64] [TKind P dst .i64] {x : Operand} {a : Int} (hw : wantedA l env ⟨some d, .convert src dst x, ty, pos, af, g⟩ = some true) (ha : evo env x = some (.i a)) (hi : inI a) (h' : AOps P q l rest K (env.up d (.i a)) os) : AOps P q l (⟨some d, .convert src dst x, ty, pos, af, g⟩ :: rest) K env os := AOps.qo hw (q_conv (ev_of ha) hi) h'
theorem w_min {ats : Array TypeId} {x y : Operand} {a b : Int} (hw : wantedA l env ⟨some d, .call { callee := .builtin .min, args := #[x, y], argTypes := ats }, ty, pos, af, g⟩ = some true) (ha : evo env x = some (.i a)) (hb : evo env y = some (.i b)) (h' : AOps P q l rest K (env.up d (.i (min a b))) os) : AOps P q l (⟨some d, .call { callee := .builtin .min, args := #[x, y], argTypes := ats }, ty, pos, af, g⟩ :: rest) K env os := AOps.qo hw (q_min (ev_of ha) (ev_of hb)) h'
theorem w_max {ats : Array TypeId} {x y : Operand} {a b : Int} (hw : wantedA l env ⟨some d, .call { callee := .builtin .max, args := #[x, y], argTypes := ats }, ty, pos, af, g⟩ = some true) (ha : evo env x = some (.i a)) (hb : evo env y = some (.i b)) (h' : AOps P q l rest K (env.up d (.i (max a b))) os) : AOps P q l (⟨some d, .call { callee := .builtin .max, args := #[x, y], argTypes := ats }, ty, pos, af, g⟩ :: rest) K env os := AOps.qo hw (q_max (ev_of ha) (ev_of hb)) h'
theorem w_idx {t e : TypeId} [TSlice P t e] [TCell P e] {x y : Operand} {xs : List Int} {i : Int} (hw : wantedA l env ⟨some d, .indexAddr t x y, ty, pos, af, g⟩ = some true) (hx : evo env x = some (.ints xs)) (hy : evo env y = some (.i i)) (h0 : 0 ≤ i) (h1 : i < xs.length) (h' : AOps P q l rest K (env.up d (.iptr xs i)) os) : AOps P q l (⟨some d, .indexAddr t x y, ty, pos, af, g⟩ :: rest) K env os := AOps.qo hw (q_idx_ints (ev_of hx) (ev_of hy) h0 h1) h'
theorem w_idxs {t e : TypeId} [TSlice P t e] [TCell P e] {x y : Operand} {xss : List (List Int)} {i : Int} (hw : wantedA l env ⟨some d, .indexAddr t x y, ty, pos, af, g⟩ = some true) (hx : evo env x = some (.intss xss)) (hy : evo env y = some (.i i)) (h0 : 0 ≤ i) (h1 : i < xss.length) (h' : AOps P q l rest K (env.up d (.iiptr xss i)) os) : AOps P q l (⟨some d, .indexAddr t x y, ty, pos, af, g⟩ :: rest) K env os := AOps.qo hw (q_idx_intss (ev_of hx) (ev_of hy) h0 h1) h'
theorem w_ld {t : TypeId} [TCell P t] {x : Operand} {xs : List Int} {i : Int} (hw : wantedA l env ⟨some d, .load t x, ty, pos, af, g⟩ = some true) (hq : q.wl = false) (hx : evo env x = some (.iptr xs i)) (h' : AOps P q l rest K (env.up d (.i (geti xs i))) os) : AOps P q l (⟨some d, .load t x, ty, pos, af, g⟩ :: rest) K env os := AOps.qo hw (by rw [hq]; exact q_load_iptr (ev_of hx)) h'
theorem w_lds {t : TypeId} [TCell P t] {x : Operand} {xss : List (List Int)} {i : Int} (hw : wantedA l env ⟨some d, .load t x, ty, pos, af, g⟩ = some true) (hq : q.wl = false) (hx : evo env x = some (.iiptr xss i)) (h' : AOps P q l rest K (env.up d (.ints (gets xss i))) os) : AOps P q l (⟨some d, .load t x, ty, pos, af, g⟩ :: rest) K env os := AOps.qo hw (by rw [hq]; exact q_load_iiptr (ev_of hx)) h'
theorem w_idxo {t e : TypeId} [TSlice P t e] [TCell P e] {x y : Operand} {h n : Nat} {i : Int} (hw : wantedA l env ⟨some d, .indexAddr t x y, ty, pos, af, g⟩ = some true) (hx : evo env x = some (.own h)) (hs : IsSl os h n) (hy : evo env y = some (.i i)) (h0 : 0 ≤ i) (h1 : i < n) (h' : AOps P q l rest K (env.up d (.optr h i.toNat)) os) : AOps P q l (⟨some d, .indexAddr t x y, ty, pos, af, g⟩ :: rest) K env os := AOps.qo hw (q_idx_own (ev_of hx) hs (ev_of hy) h0 h1) h'
theorem w_idxr {t e : TypeId} [TSlice P t e] [TCell P e] {x y : Operand} {h j : Nat} {te te2 : TypeId} {xss : List (List Int)} {i : Int} (hw : wantedA l env ⟨some d, .indexAddr t x y, ty, pos, af, g⟩ = some true) (hx : evo env x = some (.orow h j)) (hs : os[h]? = some (.sls te te2 xss)) (hy : evo env y = some (.i i)) (h0 : 0 ≤ i) (h1 : i < (xss.getD j []).length) (h' : AOps P q l rest K (env.up d (.orptr h j i.toNat)) os) : AOps P q l (⟨some d, .indexAddr t x y, ty, pos, af, g⟩ :: rest) K env os := AOps.qo hw (q_idx_orow (ev_of hx) hs (ev_of hy) h0 h1) h'
theorem w_ldo {t : TypeId} [TCell P t] {x : Operand} {h i : Nat} {e : TypeId} {xs : List Int} (hw : wantedA l env ⟨some d, .load t x, ty, pos, af, g⟩ = some true) (hq : q.wl = false) (hx : evo env x = some (.optr h i)) (hs : os[h]? = some (.sli e xs)) (hi : i < xs.length) (h' : AOps P q l rest K (env.up d (.i (geti xs i))) os) : AOps P q l (⟨some d, .load t x, ty, pos, af, g⟩ :: rest) K env os := AOps.qo hw (by rw [hq]; exact q_load_sli (ev_of hx) hs hi) h'
theorem w_ldr {t : TypeId} [TCell P t] {x : Operand} {h i k : Nat} {e : TypeId} {idx : List Nat} (hw : wantedA l env ⟨some d, .load t x, ty, pos, af, g⟩ = some true) (hq : q.wl = false) (hx : evo env x = some (.optr h i)) (hs : os[h]? = some (.slr e (idx.map (AV.orow k)))) (hi : i < idx.length) (h' : AOps P q l rest K (env.up d (.orow k (idx.getD i 0))) os) : AOps P q l (⟨some d, .load t x, ty, pos, af, g⟩ :: rest) K env os := AOps.qo hw (by rw [hq]; exact q_load_slr (ev_of hx) hs (by simp [hi])) h'
theorem w_ldls {t : TypeId} [TCell P t] {x : Operand} {h i : Nat} {e e2 : TypeId} {xss : List (List Int)} (hw : wantedA l env ⟨some d, .load t x, ty, pos, af, g⟩ = some true) (hq : q.wl = false) (hx : evo env x = some (.optr h i)) (hs : os[h]? = some (.sls e e2 xss)) (hi : i < xss.length) (h' : AOps P q l rest K (env.up d (.orow h i)) os) : AOps P q l (⟨some d, .load t x, ty, pos, af, g⟩ :: rest) K env os := AOps.qo hw (by rw [hq]; exact q_load_sls (ev_of hx) hs hi) h'
theorem w_ldrp {t : TypeId} [TCell P t] {x : Operand} {h i j : Nat} {e e2 : TypeId} {xss : List (List Int)} (hw : wantedA l env ⟨some d, .load t x, ty, pos, af, g⟩ = some true) (hq : q.wl = false) (hx : evo env x = some (.orptr h i j)) (hs : os[h]? = some (.sls e e2 xss)) (hj : j < (xss.getD i []).length) (h' : AOps P q l rest K (env.up d (.i (geti (xss.getD i []) j))) os) : AOps P q l (⟨some d, .load t x, ty, pos, af, g⟩ :: rest) K env os := AOps.qo hw (by rw [hq]; exact q_load_orptr (ev_of hx) hs hj) h'
theorem w_ldb {t : TypeId} [TCell P t] {x : Operand} {h i : Nat} {T : TypeId} {avs : List AV} {a : AV} (hw : wantedA l env ⟨some d, .load t x, ty, pos, af, g⟩ = some true) (hq : q.wl = false) (hx : evo env x = some (.optr h i)) (hs : os[h]? = some (.bx T avs)) (hi : avs[i]? = some a) (h' : AOps P q l rest K (env.up d (a)) os) : AOps P q l (⟨some d, .load t x, ty, pos, af, g⟩ :: rest) K env os := AOps.qo hw (by rw [hq]; exact QOp.cast (gdl hi) (q_load_bx (ev_of hx) hs (lt_of_get hi))) h'
theorem w_ldst {t : TypeId} {n : Nat} {zs : List Value} [TStruct P t n zs] {x : Operand} {h : Nat} {T : TypeId} {avs : List AV} (hw : wantedA l env ⟨some d, .load t x, ty, pos, af, g⟩ = some true) (hq : q.wl = false) (hx : evo env x = some (.optr h 0)) (hs : os[h]? = some (.bx T avs)) (hn : avs.length = n) (h' : AOps P q l rest K (env.up d (.agg avs)) os) : AOps P q l (⟨some d, .load t x, ty, pos, af, g⟩ :: rest) K env os := AOps.qo hw (by rw [hq]; exact q_load_str (ev_of hx) hs hn) h'
theorem w_fa {t : TypeId} {f off : Nat} [TField P t f off] {x : Operand} {h i j : Nat} (hw : wantedA l env ⟨some d, .fieldAddr t x f, ty, pos, af, g⟩ = some true) (hx : evo env x = some (.optr h i)) (hj : i + off = j) (h' : AOps P q l rest K (env.up d (.optr h j)) os) : AOps P q l (⟨some d, .fieldAddr t x f, ty, pos, af, g⟩ :: rest) K env os := AOps.qo hw (QOp.cast (by rw [hj]) (q_fieldAddr (off := off) (ev_of hx))) h'
theorem w_fld {t : TypeId} {f off : Nat} [TField P t f off] {x : Operand} {l' : List AV} {a : AV} (hw : wantedA l env ⟨some d, .field t x f, ty, pos, af, g⟩ = some true) (hx : evo env x = some (.agg l')) (hi : l'[off]? = some a) (h' : AOps P q l rest K (env.up d (a)) os) : AOps P q l (⟨some d, .field t x f, ty, pos, af, g⟩ :: rest) K env os := AOps.qo hw (QOp.cast (gdl hi) (q_field (off := off) (ev_of hx) (lt_of_get hi))) h'
theorem w_ext {x : Operand} {l' : List AV} {i : Nat} {a : AV} (hw : wantedA l env ⟨some d, .extract x i, ty, pos, af, g⟩ = some true) (hx : evo env x = some (.tup l')) (hi : l'[i]? = some a) (h' : AOps P q l rest K (env.up d (a)) os) : AOps P q l (⟨some d, .extract x i, ty, pos, af, g⟩ :: rest) K env os := AOps.qo hw (QOp.cast (gdl hi) (q_extract (ev_of hx) (lt_of_get hi))) h'
theorem w_extv {x : Operand} {vs : List Value} {i : Nat} {u : Value} (hw : wantedA l env ⟨some d, .extract x i, ty, pos, af, g⟩ = some true) (hx : evo env x = some (.val (.tuple vs.toArray))) (hi : vs[i]? = some u) (h' : AOps P q l rest K (env.up d (.val u)) os) : AOps P q l (⟨some d, .extract x i, ty, pos, af, g⟩ :: rest) K env os := AOps.qo hw (q_extract_v (ev_of hx) hi) h'
theorem w_slhi {t e : TypeId} [TSlice P t e] [TCell P e] {x y : Operand} {xs : List Int} {n : Int} (hw : wantedA l env ⟨some d, .slice t x none (some y) none, ty, pos, af, g⟩ = some true) (hx : evo env x = some (.ints xs)) (hy : evo env y = some (.i n)) (h0 : 0 ≤ n) (h1 : n ≤ xs.length) (h' : AOps P q l rest K (env.up d (.ints (xs.take n.toNat))) os) : AOps P q l (⟨some d, .slice t x none (some y) none, ty, pos, af, g⟩ :: rest) K env os := AOps.qo hw (q_slice_hi (ev_of hx) (ev_of hy) h0 h1) h'
theorem w_sllo {t e : TypeId} [TSlice P t e] [TCell P e] {x y : Operand} {xs : List Int} {n : Int} (hw : wantedA l env ⟨some d, .slice t x (some y) none none, ty, pos, af, g⟩ = some true) (hx : evo env x = some (.ints xs)) (hy : evo env y = some (.i n)) (h0 : 0 ≤ n) (h1 : n ≤ xs.length) (h' : AOps P q l rest K (env.up d (.ints (xs.drop n.toNat))) os) : AOps P q l (⟨some d, .slice t x (some y) none none, ty, pos, af, g⟩ :: rest) K env os := AOps.qo hw (q_slice_lo (ev_of hx) (ev_of hy) h0 h1) h'
theorem w_sllh {t e : TypeId} [TSlice P t e] [TCell P e] {x y z : Operand} {xs : List Int} {m n : Int} (hw : wantedA l env ⟨some d, .slice t x (some y) (some z) none, ty, pos, af, g⟩ = some true) (hx : evo env x = some (.ints xs)) (hy : evo env y = some (.i m)) (hz : evo env z = some (.i n)) (h0 : 0 ≤ m) (h1 : m ≤ n) (h2 : n ≤ xs.length) (h' : AOps P q l rest K (env.up d (.ints ((xs.take n.toNat).drop m.toNat))) os) : AOps P q l (⟨some d, .slice t x (some y) (some z) none, ty, pos, af, g⟩ :: rest) K env os := AOps.qo hw (q_slice_lh (ev_of hx) (ev_of hy) (ev_of hz) h0 h1 h2) h'
theorem w_oslo {t e : TypeId} [TSlice P t e] [TCell P e] {x y : Operand} {h : Nat} {e' : TypeId} {xs : List Int} {n : Int} (hw : wantedA l env ⟨some d, .slice t x (some y) none none, ty, pos, af, g⟩ = some true) (hx : evo env x = some (.own h)) (hs : os[h]? = some (.sli e' xs)) (hy : evo env y = some (.i n)) (h0 : 0 ≤ n) (h1 : n ≤ xs.length) (h' : AOps P q l rest K (env.up d (.osub h n.toNat (xs.length - n.toNat))) os) : AOps P q l (⟨some d, .slice t x (some y) none none, ty, pos, af, g⟩ :: rest) K env os := AOps.qo hw (q_oslice_lo (ev_of hx) hs (ev_of hy) h0 h1) h'
theorem w_oshi {t e : TypeId} [TSlice P t e] [TCell P e] {x y : Operand} {h : Nat} {e' : TypeId} {xs : List Int} {n : Int} (hw : wantedA l env ⟨some d, .slice t x none (some y) none, ty, pos, af, g⟩ = some true) (hx : evo env x = some (.own h)) (hs : os[h]? = some (.sli e' xs)) (hy : evo env y = some (.i n)) (h0 : 0 ≤ n) (h1 : n ≤ xs.length) (h' : AOps P q l rest K (env.up d (.osub h 0 n.toNat)) os) : AOps P q l (⟨some d, .slice t x none (some y) none, ty, pos, af, g⟩ :: rest) K env os := AOps.qo hw (q_oslice_hi (ev_of hx) hs (ev_of hy) h0 h1) h'
theorem w_build0 {t : TypeId} {n : Nat} {zs : List Value} [TBuild P t n zs] (hw : wantedA l env ⟨some d, .build t #[], ty, pos, af, g⟩ = some true) (h1 : zs.all (·.oneCell') = true) (h' : AOps P q l rest K (env.up d (.agg (zs.map AV.val))) os) : AOps P q l (⟨some d, .build t #[], ty, pos, af, g⟩ :: rest) K env os := AOps.qo hw (q_build0 h1) h'
theorem w_build1 {t : TypeId} {zs : List Value} [TBuild P t 1 zs] {x : Operand} {a : AV} (hw : wantedA l env ⟨some d, .build t #[(0, x)], ty, pos, af, g⟩ = some true) (hx : evo env x = some a) (h1 : OneC env os a) (h' : AOps P q l rest K (env.up d (.agg [a])) os) : AOps P q l (⟨some d, .build t #[(0, x)], ty, pos, af, g⟩ :: rest) K env os := AOps.qo hw (q_build1 (ev_of hx) h1) h'
theorem w_build2 {t : TypeId} {zs : List Value} [TBuild P t 2 zs] {x y : Operand} {a b : AV} (hw : wantedA l env ⟨some d, .build t #[(0, x), (1, y)], ty, pos, af, g⟩ = some true) (hx : evo env x = some a) (hy : evo env y = some b) (h1 : OneC env os a) (h2 : OneC env os b) (h' : AOps P q l rest K (env.up d (.agg [a, b])) os) : AOps P q l (⟨some d, .build t #[(0, x), (1, y)], ty, pos, af, g⟩ :: rest) K env os := AOps.qo hw (q_build2 (ev_of hx) (ev_of hy) h1 h2) h'
theorem w_skip {op : Op} (hw : wantedA l env ⟨some d, op, ty, pos, af, g⟩ = some false) (h' : AOps P q l rest K (env.up d (.val undef)) os) : AOps P q l (⟨some d, op, ty, pos, af, g⟩ :: rest) K env os := AOps.skip hw h'
theorem w_bs0 {t e : TypeId} {bytes : Nat} [TSlice P t e] [TElem P e (.int .i64 0) bytes] {m : Nat} (hm : os.length = m) (h' : AOps P .seq l rest K (env.up d (.own m)) (os ++ [.sli e []])) : AOps P .seq l (⟨some d, .buildSlice t 0 #[], ty, pos, af, none⟩ :: rest) K env os := AOps.lo (hm ▸ l_bs0) h'
theorem w_bs1 {t e : TypeId} {bytes : Nat} [TSlice P t e] [TElem P e (.int .i64 0) bytes] {x : Operand} {a : Int} {m : Nat} (hx : evo env x = some (.i a)) (hm : os.length = m) (ha : inI a) (h' : AOps P .seq l rest K (env.up d (.own m)) (os ++ [.sli e [a]])) : AOps P .seq l (⟨some d, .buildSlice t 1 #[(0, x)], ty, pos, af, none⟩ :: rest) K env os := AOps.lo (hm ▸ l_bs1 (ev_of hx) ha) h'
theorem w_bs2 {t e : TypeId} {bytes : Nat} [TSlice P t e] [TElem P e (.int .i64 0) bytes] {x y : Operand} {a b : Int} {m : Nat} (hx : evo env x = some (.i a)) (hy : evo env y = some (.i b)) (hm : os.length = m) (ha : inI a) (hb : inI b) (h' : AOps P .seq l rest K (env.up d (.own m)) (os ++ [.sli e [a, b]])) : AOps P .seq l (⟨some d, .buildSlice t 2 #[(0, x), (1, y)], ty, pos, af, none⟩ :: rest) K env os := AOps.lo (hm ▸ l_bs2 (ev_of hx) (ev_of hy) ha hb) h'
theorem w_appn {t e : TypeId} {bytes : Nat} [TSlice P t e] [TElem P e (.int .i64 0) bytes] {x y : Operand} {a : AV} {ys : List Int} {m : Nat} (hx : evo env x = some (.val (.slice none 0 0))) (hy : evo env y = some a) (hi : Imm os a (.ints ys)) (hm : os.length = m) (hb : ys.length * bytes ≤ 140737488355328) (h' : AOps P .seq l rest K (env.up d (.own m)) (os ++ [.sli e ys])) : AOps P .seq l (⟨some d, .call { callee := .builtin .append, args := #[x, y], argTypes := #[t, t] }, ty, pos, af, none⟩ :: rest) K env os := AOps.lo (hm ▸ l_append_nil (ev_of hx) (ev_of hy ▸ hi) hb) h'
theorem w_boxa {T : TypeId} {x : Operand} {avs : List AV} {m : Nat} (hx : evo env x = some (.agg avs)) (hm : os.length = m) (h' : AOps P .seq l rest K (env.up d (.optr m 0)) (os ++ [.bx T avs])) : AOps P .seq l (⟨some d, .box T x, ty, pos, af, none⟩ :: rest) K env os := AOps.lo (hm ▸ l_box_agg (ev_of hx)) h'
theorem w_alst {T : TypeId} {n : Nat} {zs : List Value} [TStruct P T n zs] {m : Nat} (h1 : zs.all (·.oneCell') = true) (hm : os.length = m) (h' : AOps P .seq l rest K (env.up d (.optr m 0)) (os ++ [.bx T (zs.map AV.val)])) : AOps P .seq l (⟨some d, .alloc T, ty, pos, af, none⟩ :: rest) K env os := AOps.lo (hm ▸ l_alloc_str (List.all_eq_true.1 h1)) h'
theorem w_alone {T : TypeId} {z : Value} {bytes : Nat} [TElem P T z bytes] {m : Nat} (h1 : z.oneCell' = true) (hc : z.cells = #[z]) (hm : os.length = m) (h' : AOps P .seq l rest K (env.up d (.optr m 0)) (os ++ [.bx T [.val z]])) : AOps P .seq l (⟨some d, .alloc T, ty, pos, af, none⟩ :: rest) K env os := AOps.lo (hm ▸ l_alloc_one h1 hc) h'
theorem w_mkr {t e e2 : TypeId} {bytes : Nat} [TSlice P t e] [TSlice P e e2] [TElem P e (.slice none 0 0) bytes] {x y : Operand} {n : Int} {m : Nat} (hx : evo env x = some (.i n)) (hy : evo env y = some (.i n)) (h0 : 0 ≤ n) (hb : (bytes : Int) * n ≤ 281474976710656) (h63 : n ≤ 9223372036854775807) (hm : os.length = m) (h' : AOps P .seq l rest K (env.up d (.own m)) (os ++ [.sls e e2 (List.replicate n.toNat [])])) : AOps P .seq l (⟨some d, .makeSlice t x y, ty, pos, af, none⟩ :: rest) K env os := AOps.lo (hm ▸ l_make_rows e2 (ev_of hx) (ev_of hy) h0 hb h63) h'
theorem w_mki {t e : TypeId} {bytes : Nat} [TSlice P t e] [TElem P e (.int .i64 0) bytes] {x y : Operand} {n : Int} {m : Nat} (hx : evo env x = some (.i n)) (hy : evo env y = some (.i n)) (h0 : 0 ≤ n) (hb : (bytes : Int) * n ≤ 281474976710656) (h63 : n ≤ 9223372036854775807) (hm : os.length = m) (h' : AOps P .seq l rest K (env.up d (.own m)) (os ++ [.sli e (List.replicate n.toNat 0)])) : AOps P .seq l (⟨some d, .makeSlice t x y, ty, pos, af, none⟩ :: rest) K env os := AOps.lo (hm ▸ l_make_int (ev_of hx) (ev_of hy) h0 hb h63) h'
theorem w_copy {t e : TypeId} {bytes : Nat} [TSlice P t e] [TElem P e (.int .i64 0) bytes] {x y : Operand} {h off len : Nat} {e' : TypeId} {xs ys : List Int} {a b : AV} (hx : evo env x = some a) (hd : Dst os h off len a) (hs : os[h]? = some (.sli e' xs)) (hle : off + len ≤ xs.length) (hy : evo env y = some b) (hi : Imm os b (.ints ys)) (h' : AOps P .seq l rest K (env.up d (.i (min len ys.length : Nat))) (os.set h (.sli e' (over xs off len ys)))) : AOps P .seq l (⟨some d, .call { callee := .builtin .copy, args := #[x, y], argTypes := #[t, t] }, ty, pos, af, none⟩ :: rest) K env os := AOps.lo (l_copy (ev_of hx) hd hs hle (ev_of hy ▸ hi)) h'
theorem w_app {t e : TypeId} {bytes : Nat} [TSlice P t e] [TElem P e (.int .i64 0) bytes] {x y : Operand} {h : Nat} {e' : TypeId} {xs ys : List Int} {a : AV} (hx : evo env x = some (.own h)) (hs : os[h]? = some (.sli e' xs)) (hee : e' = e) (hy : evo env y = some a) (hi : Imm os a (.ints ys)) (hb : (xs.length + ys.length) * bytes ≤ 140737488355328) (h' : AOps P .seq l rest K (Env.up (env.mp (AV.kill h)) d (.own h)) ((os.map (AO.kill h)).set h (.sli e (xs ++ ys)))) : AOps P .seq l (⟨some d, .call { callee := .builtin .append, args := #[x, y], argTypes := #[t, t] }, ty, pos, af, none⟩ :: rest) K env os := AOps.lo (l_append (ev_of hx) hs hee (ev_of hy ▸ hi) hb) h'
theorem w_strow {t : TypeId} [TCell P t] {x y : Operand} {h i k : Nat} {e e2 e3 : TypeId} {xss : List (List Int)} {ys : List Int} (hx : evo env x = some (.optr h i)) (hs : os[h]? = some (.sls e e2 xss)) (hi : i < xss.length) (hy : evo env y = some (.own k)) (hk : os[k]? = some (.sli e3 ys)) (he : e3 = e2) (hhk : (h == k) = false) (h' : AOps P .seq l rest K (env.mp (AV.noRow h)) (((os.map (AO.via (AV.noRow h) h)).set h (.sls e e2 (xss.set i ys))).set k .dead)) : AOps P .seq l (⟨none, .store t x y, ty, pos, af, none⟩ :: rest) K env os := AOps.so (l_store_row (ev_of hx) hs hi (ev_of hy) hk he hhk) h'
theorem w_sti {t : TypeId} [TCell P t] {x y : Operand} {h i : Nat} {e : TypeId} {xs : List Int} {n : Int} (hx : evo env x = some (.optr h i)) (hs : os[h]? = some (.sli e xs)) (hi : i < xs.length) (hy : evo env y = some (.i n)) (hn : inI n) (h' : AOps P .seq l rest K env (os.set h (.sli e (xs.set i n)))) : AOps P .seq l (⟨none, .store t x y, ty, pos, af, none⟩ :: rest) K env os := AOps.so (l_store_sli (ev_of hx) hs hi (ev_of hy) hn) h'
theorem w_stst {t : TypeId} {n : Nat} {zs : List Value} [TStruct P t n zs] {x y : Operand} {h : Nat} {T : TypeId} {avs l' : List AV} (hx : evo env x = some (.optr h 0)) (hs : os[h]? = some (.bx T avs)) (hn : avs.length = n) (hy : evo env y = some (.agg l')) (hl : l'.length = n) (h' : AOps P .seq l rest K env (os.set h (.bx T l'))) : AOps P .seq l (⟨none, .store t x y, ty, pos, af, none⟩ :: rest) K env os := AOps.so (l_store_str (ev_of hx) hs hn (ev_of hy) hl) h'
theorem w_stbv {t : TypeId} [TCell P t] {x y : Operand} {h i : Nat} {T : TypeId} {avs : List AV} {a0 : AV} {v : Value} (hx : evo env x = some (.optr h i)) (hs : os[h]? = some (.bx T avs)) (hi : avs[i]? = some a0) (hy : evo env y = some (.val v)) (h1 : v.oneCell' = true) (h2 : v.cells = #[v]) (h' : AOps P .seq l rest K env (os.set h (.bx T (avs.set i (.val v))))) : AOps P .seq l (⟨none, .store t x y, ty, pos, af, none⟩ :: rest) K env os := AOps.so (l_store_bx (ev_of hx) hs (lt_of_get hi) (ev_of hy) (one_val h1 h2)) h'
theorem w_stbi {t : TypeId} [TCell P t] {x y : Operand} {h i : Nat} {T : TypeId} {avs : List AV} {a0 : AV} {xs : List Int} (hx : evo env x = some (.optr h i)) (hs : os[h]? = some (.bx T avs)) (hi : avs[i]? = some a0) (hy : evo env y = some (.ints xs)) (h' : AOps P .seq l rest K env (os.set h (.bx T (avs.set i (.ints xs))))) : AOps P .seq l (⟨none, .store t x y, ty, pos, af, none⟩ :: rest) K env os := AOps.so (l_store_bx (ev_of hx) hs (lt_of_get hi) (ev_of hy) one_ints) h'
theorem w_stbii {t : TypeId} [TCell P t] {x y : Operand} {h i : Nat} {T : TypeId} {avs : List AV} {a0 : AV} {xs : List (List Int)} (hx : evo env x = some (.optr h i)) (hs : os[h]? = some (.bx T avs)) (hi : avs[i]? = some a0) (hy : evo env y = some (.intss xs)) (h' : AOps P .seq l rest K env (os.set h (.bx T (avs.set i (.intss xs))))) : AOps P .seq l (⟨none, .store t x y, ty, pos, af, none⟩ :: rest) K env os := AOps.so (l_store_bx (ev_of hx) hs (lt_of_get hi) (ev_of hy) one_intss) h'
theorem w_stbo {t : TypeId} [TCell P t] {x y : Operand} {h i k : Nat} {T : TypeId} {avs : List AV} {a0 : AV} {o : AO} (hx : evo env x = some (.optr h i)) (hs : os[h]? = some (.bx T avs)) (hi : avs[i]? = some a0) (hy : evo env y = some (.own k)) (ho : os[k]? = some o) (hn : o.live) (h' : AOps P .seq l rest K env (os.set h (.bx T (avs.set i (.own k))))) : AOps P .seq l (⟨none, .store t x y, ty, pos, af, none⟩ :: rest) K env os := AOps.so (l_store_bx (ev_of hx) hs (lt_of_get hi) (ev_of hy) (one_own ho hn)) h'
theorem w_call {f : FuncId} {args : List AV} {v : Value} {xs : List Operand} {ats : Array TypeId} (hc : AFnV P f args v) (hw : wantedA l env ⟨some d, .call { callee := .value (.func f), args := xs.toArray, argTypes := ats }, ty, pos, af, g⟩ = some true)
    (hq : q.wl = false) (hi : Imms os (xs.map (AV.ev env)) args) (h' : AOps P q l rest K (env.up d (.val v)) os) : AOps P q l (⟨some d, .call { callee := .value (.func f), args := xs.toArray, argTypes := ats }, ty, pos, af, g⟩ :: rest) K env os := AOps.qo hw (by rw [hq]; exact q_call hc hi) h'
theorem w_callm {f : FuncId} {args : List AV} {Q : AV → List AO → Prop} {xs : List Operand} {ats : Array TypeId} (hc : AFn P f args Q) (hi : Imms os (xs.map (AV.ev env)) args)
    (h' : ∀ r os0, Q r os0 → AOps P .seq l rest K (env.up d (r.sh os.length)) (os ++ os0.map (AO.sh os.length))) :
    AOps P .seq l (⟨some d, .call { callee := .value (.func f), args := xs.toArray, argTypes := ats }, ty, pos, af, none⟩ :: rest) K env os :=
  AOps.ca (c_call hc hi) fun r e o ⟨r0, os0, hq, h1, h2, h3⟩ => by subst h1; subst h2; subst h3; exact h' r0 os0 hq
theorem w_callu {f : FuncId} {args : List AV} {objs : List AO} {Q : Value → List AO → Prop} {xs : List Operand} {ats : Array TypeId} (H : List Nat) (hc : AFnU P f args objs Q) (hh : Handed os H objs) (hi : ImmUs os H (xs.map (AV.ev env)) args)
    (h' : ∀ v os', Q v os' → AOps P .seq l rest K (env.up d (.val v)) (setAll os H os')) :
    AOps P .seq l (⟨some d, .call { callee := .value (.func f), args := xs.toArray, argTypes := ats }, ty, pos, af, none⟩ :: rest) K env os :=
  AOps.ca (c_callu hc hh hi) fun r e o ⟨v, os', hq, h1, h2, h3⟩ => by subst h1; subst h2; subst h3; exact h' v os' hq
end
end Go.Proofs.Ytcolpjpppdmanaa
/-
  Regions that draw their order and make memory: every order is walked. No condition.
-/
namespace Go.Proofs.Ytcolpjpppdmanaa
open Go Go.RowKit

theorem Oper.wp_mono2 {P : Program} {o : Oper} {a : Act} {w : World} {K K' : Act → World → Prop} {Q Q' : Exit → Act → World → Prop} (hK : ∀ a w, K a w → K' a w) (hp : ∀ c a w, Q (.panic c) a w → Q' (.panic c) a w)
    (hl : LetsOut Q → LetsOut Q') (h : Oper.wp P o a w K Q) : Oper.wp P o a w K' Q' := by
  unfold Oper.wp at *
  generalize (execOp a.eval o).run P w = r at *
  cases r with
  | ok n w' =>
    cases n <;> simp only [Oper.upon] at h ⊢
    case value u => exact hK _ _ h
    case skip => exact hK _ _ h
    case defer d => exact hK _ _ h
    case enter f args =>
      refine Calls.mono h fun e w'' he => ?_
      cases e with
      | returned u => exact hK _ _ he
      | panicked c => exact hp _ _ _ he
      | outgrown => exact hl he
    case row row args => exact Rows.mono h fun u w'' he => hK _ _ he
  | halt x w' =>
    cases x <;> simp only [Oper.upon] at h ⊢
    case panic u => exact hp _ _ _ h

/-- What may come up now. -/
def rdyGo (listed : List Bool) : Nat → List Oper → List Nat
  | _, [] => []
  | k, o :: os => cond (!(listed.getD k true) && o.after.toList.all fun e => !Region.binds .any e || listed.getD e.on false) (k :: rdyGo listed (k + 1) os) (rdyGo listed (k + 1) os)

theorem mem_rdyGo {listed : List Bool} {j : Nat} : ∀ {k : Nat} {l : List Oper}, j ∈ rdyGo listed k l ↔ k ≤ j ∧ listed.getD j true = false ∧ ∃ o, l[j - k]? = some o ∧ ∀ e ∈ o.after, Region.binds .any e = true → listed.getD e.on false = true
  | k, [] => by simp [rdyGo]
  | k, o :: os => by
    have ih := mem_rdyGo (listed := listed) (j := j) (k := k + 1) (l := os)
    have step : (k + 1 ≤ j ∧ listed.getD j true = false ∧ ∃ o', os[j - (k + 1)]? = some o' ∧ ∀ e ∈ o'.after, Region.binds .any e = true → listed.getD e.on false = true) ↔
        (k ≤ j ∧ j ≠ k ∧ listed.getD j true = false ∧ ∃ o', (o :: os)[j - k]? = some o' ∧ ∀ e ∈ o'.after, Region.binds .any e = true → listed.getD e.on false = true) := by
      constructor
      · rintro ⟨h1, h2, o', h3, h4⟩
        exact ⟨by omega, by omega, h2, o', by rw [show j - k = (j - (k + 1)) + 1 by omega]; exact h3, h4⟩
      · rintro ⟨h1, h0, h2, o', h3, h4⟩
        exact ⟨by omega, h2, o', by rw [show j - k = (j - (k + 1)) + 1 by omega] at h3; exact h3, h4⟩
    have here : (!(listed.getD k true) && o.after.toList.all fun e => !Region.binds .any e || listed.getD e.on false) = true ↔ (listed.getD k true = false ∧ ∀ e ∈ o.after, Region.binds .any e = true → listed.getD e.on false = true) := by
      rw [Bool.and_eq_true, List.all_eq_true]
      constructor
      · rintro ⟨h1, h2⟩
        refine ⟨by simpa using h1, fun e he hb => ?_⟩
        have := h2 e (by simpa using he)
        simpa [hb] using this
      · rintro ⟨h1, h2⟩
        refine ⟨by simpa using h1, fun e he => ?_⟩
        by_cases hb : Region.binds .any e = true
        · rw [h2 e (by simpa using he) hb]; simp
        · simp [hb]
    unfold rdyGo
    cases hc : (!(listed.getD k true) && o.after.toList.all fun e => !Region.binds .any e || listed.getD e.on false) with
    | true =>
      rw [cond_true, List.mem_cons, ih, step]
      have hh := here.1 hc
      constructor
      · rintro (rfl | ⟨h1, _, h2, h3⟩)
        · exact ⟨Nat.le_refl _, hh.1, o, by simp, hh.2⟩
        · exact ⟨h1, h2, h3⟩
      · rintro ⟨h1, h2, h3⟩
        by_cases e : j = k
        · exact .inl e
        · exact .inr ⟨h1, e, h2, h3⟩
    | false =>
      rw [cond_false, ih, step]
      constructor
      · rintro ⟨h1, _, h2, h3⟩; exact ⟨h1, h2, h3⟩
      · rintro ⟨h1, h2, o', h3, h4⟩
        refine ⟨h1, ?_, h2, o', h3, h4⟩
        intro e
        subst e
        simp at h3
        subst h3
        have := here.2 ⟨h2, h4⟩
        rw [hc] at this
        cases this

theorem mem_rdy {l : List Oper} {listed : List Bool} {j : Nat} : j ∈ Region.ready .any l.toArray listed.toArray ↔ j ∈ rdyGo listed 0 l := by
  rw [mem_ready, mem_rdyGo]
  simp [Array.getD_eq_getD_getElem?, List.getD_eq_getElem?_getD]

/-- Whatever order is picked from here on. -/
def AAny (P : Program) (l : List Oper) (fuel : Nat) (listed : List Bool) (K : APost) (env : Env) (os : List AO) : Prop :=
  ∀ base w0 w gs tm, Rel base w gs env os tm → Below base w0 w → ∀ X Rt, wpAny P .any l.toArray (Post base w0 K X Rt) fuel listed.toArray ⟨tm, []⟩ w

/-- Each of these comes up next. -/
def AllOf (P : Program) (l : List Oper) (fuel : Nat) (listed : List Bool) (K : APost) (env : Env) (os : List AO) : List Nat → Prop
  | [] => True
  | i :: is => (∃ o, l[i]? = some o ∧ AOps P .seq l [o] (fun env os => AAny P l fuel (listed.set i true) K env os) env os) ∧ AllOf P l fuel listed K env os is

section
variable {P : Program} {N : APost} {X : Nat → APost} {Rt : APost} {env : Env} {os : List AO} {l : List Oper} {K : APost} {fuel : Nat} {listed : List Bool}

theorem AllOf.get : ∀ {rs : List Nat}, AllOf P l fuel listed K env os rs → ∀ i ∈ rs, ∃ o, l[i]? = some o ∧ AOps P .seq l [o] (fun env os => AAny P l fuel (listed.set i true) K env os) env os
  | [], _, i, h => by cases h
  | j :: rs, h, i, hi => by
    rcases List.mem_cons.1 hi with rfl | hi
    · exact h.1
    · exact AllOf.get h.2 i hi

theorem AllOf.nil : AllOf P l fuel listed K env os [] := trivial
theorem AllOf.cons {i : Nat} {o : Oper} {is : List Nat} (ho : l[i]? = some o) (h : AOps P .seq l [o] (fun env os => AAny P l fuel (listed.set i true) K env os) env os) (hs : AllOf P l fuel listed K env os is) :
    AllOf P l fuel listed K env os (i :: is) := ⟨⟨o, ho, h⟩, hs⟩

theorem AAny.all {i : Nat} {is : List Nat} (hr : rdyGo listed 0 l = i :: is) (h : AllOf P l fuel listed K env os (i :: is)) : AAny P l (fuel + 1) listed K env os := by
  intro base w0 w gs tm hrel hb X Rt
  refine ⟨fun h0 => ?_, fun j hj => ?_⟩
  · have : i ∈ Region.ready .any l.toArray listed.toArray := mem_rdy.2 (by rw [hr]; simp)
    rw [h0] at this; cases this
  · have hj' := mem_rdy.1 hj
    rw [hr] at hj'
    obtain ⟨o, ho, hop⟩ := h.get j hj'
    have := hop base w0 w gs tm hrel hb X Rt
    unfold wpOp
    have ho' : l.toArray[j]? = some o := by simpa using ho
    rw [ho']
    have kk : ∀ a w', Post base w0 (fun env os => AAny P l fuel (listed.set j true) K env os) X Rt .normal a w' → wpAny P .any l.toArray (Post base w0 K X Rt) fuel (listed.toArray.setIfInBounds j true) a w' := by
      rintro a w' ⟨env', os', gs', h1, h2, h3, h4⟩
      have ea : a = ⟨a.tmps, []⟩ := by cases a; simp_all
      rw [ea]
      have := h4 base w0 w' gs' a.tmps h1 h3 X Rt
      rwa [show listed.toArray.setIfInBounds j true = (listed.set j true).toArray from by simp]
    unfold wpList at this
    simp only
    split
    · rename_i hw
      rw [if_pos hw] at this
      rcases this with this | ⟨h1, ⟨a, w', h2⟩⟩
      · exact .inl (Oper.wp_mono2 kk (fun _ _ _ h => (h : False).elim) (fun ⟨_, _, h⟩ => (h : False).elim) this)
      · exact (h2 : False).elim
    · rename_i hw
      rw [if_neg hw] at this
      exact kk _ _ this

theorem AAny.done (hr : rdyGo listed 0 l = []) (h : K env os) : AAny P l fuel listed K env os := by
  intro base w0 w gs tm hrel hb X Rt
  have hr' : Region.ready .any l.toArray listed.toArray = [] := by
    apply List.eq_nil_iff_forall_not_mem.2
    intro j hj
    have := mem_rdy.1 hj
    rw [hr] at this; cases this
  cases fuel with
  | zero => exact ⟨hr', env, os, gs, hrel, rfl, hb, h⟩
  | succ n => exact ⟨fun _ => ⟨env, os, gs, hrel, rfl, hb, h⟩, by rw [hr']; intro j hj; cases hj⟩

/-- What needs no world. -/
def wlessB (o : Oper) : Bool :=
  match o.op with
  | .move _ => true
  | .assign _ => true
  | .pick _ _ _ => true
  | .build _ _ => true
  | .binOp _ _ _ _ _ => true
  | .unOp _ _ _ => true
  | .convert _ _ _ => true
  | .fieldAddr _ _ _ => true
  | .field _ _ _ => true
  | .indexAddr _ _ _ => true
  | .extract _ _ => true
  | .call c => match c.callee with
    | .builtin .len => true
    | .builtin .min => true
    | .builtin .max => true
    | _ => false
  | _ => false
def findW (l : List Oper) : List Nat → Option Nat
  | [] => none
  | i :: is => cond (match l[i]? with | some o => wlessB o | none => false) (some i) (findW l is)

theorem findW_mem {l : List Oper} : ∀ {is : List Nat} {i : Nat}, findW l is = some i → i ∈ is
  | [], _, h => by cases h
  | j :: is, i, h => by
    simp only [findW] at h
    cases hb : (match l[j]? with | some o => wlessB o | none => false) with
    | true => rw [hb] at h; simp at h; simp [h]
    | false => rw [hb] at h; exact List.mem_cons_of_mem _ (findW_mem h)

/-- An operation that needs no world is taken first. -/
theorem AAny.take {i : Nat} {o : Oper} (hi : findW l (rdyGo listed 0 l) = some i) (ho : l[i]? = some o) (hs : Region.noSelect l.toArray = true) (hf : Region.free .any l.toArray listed.toArray i = true)
    (h : AOps P .wless l [o] (fun env os => AAny P l fuel (listed.set i true) K env os) env os) : AAny P l (fuel + 1) listed K env os := by
  intro base w0 w gs tm hrel hb X Rt
  obtain ⟨v, hy, env', os', gs', hk, hd, hr'⟩ := h base w gs tm hrel
  refine wpAny_take (oi := o) (v := v) (by simpa using ho) hs hf ?_ (fun _ _ _ h => h.elim) hy ?_
  · have : i ∈ Region.ready .any l.toArray listed.toArray := mem_rdy.2 (findW_mem hi)
    simpa using this
  · have := hk base w0 w gs' _ hr' hb X Rt
    rw [show listed.toArray.setIfInBounds i true = (listed.set i true).toArray from by simp]
    have e : (⟨(Act.put ⟨tm, []⟩ o.dst v).tmps, []⟩ : Act) = Act.put ⟨tm, []⟩ o.dst v := by
      have : (Act.put ⟨tm, []⟩ o.dst v).defers = [] := hd
      generalize Act.put ⟨tm, []⟩ o.dst v = a at this
      cases a; simp_all
    rw [e] at this
    exact this

/-- A region that draws its order: every order comes to a state that may be seen as (envC, osC). -/
theorem AWp.regionA {id : Nat} (hm : P.follows .mixedOrders = true) {envC : Env} {osC : List AO} {n : Nat} (hn : l.length = n) {listed : List Bool} (hl : List.replicate n false = listed)
    (h : AAny P l n listed (fun e o => Fit e o envC osC ∨ ∃ σ, FitS σ e o envC osC) env os) (hk : N envC osC) : AWp P (.region id l.toArray true) N X Rt env os := by
  intro base w0 w gs tm hr hb
  have hbel : Below w.heap.size w { w with drawn := w.drawn + 1 } := (Below.refl _ _).drew
  refine wp_region_any hm ?_
  have := h base w0 _ gs tm (hr.below hbel) (hb.trans (hbel.mono hr.hb)) X Rt
  rw [← hl] at this
  have e1 : (List.replicate n false).toArray = Array.replicate l.toArray.size false := by simp [hn]
  rw [e1] at this
  have e2 : l.toArray.size = n := by simpa using hn
  rw [e2] at this ⊢
  refine wpAny_monoQ ?_ this
  intro e a w' hq
  cases e with
  | normal =>
    obtain ⟨env', os', gs', r1, r2, r3, hf⟩ := hq
    rcases hf with hf | ⟨σ, hf⟩
    · obtain ⟨gs2, r4⟩ := r1.fit hf
      exact ⟨envC, osC, gs2, r4, r2, r3, hk⟩
    · obtain ⟨gs2, r4⟩ := r1.fits hf
      exact ⟨envC, osC, gs2, r4, r2, r3, hk⟩
  | exit j => exact hq
  | ret => exact hq
  | goto l => exact hq
  | panic ch => exact hq
  | outgrown => exact hq
where
  wpAny_monoQ {P : Program} {ops : Array Oper} {Q Q' : Exit → Act → World → Prop} (hq : ∀ e a w, Q e a w → Q' e a w) : ∀ {fuel : Nat} {listed : Array Bool} {a : Act} {w : World}, wpAny P .any ops Q fuel listed a w → wpAny P .any ops Q' fuel listed a w
    | 0, _, _, _, h => ⟨h.1, hq _ _ _ h.2⟩
    | fuel + 1, _, _, _, h => by
      refine ⟨fun h0 => hq _ _ _ (h.1 h0), fun i hi => ?_⟩
      have := h.2 i hi
      unfold wpOp at this ⊢
      split
      · rename_i ho; rw [ho] at this; exact wpAny_monoQ hq this
      · rename_i o ho
        rw [ho] at this
        simp only at this
        split
        · rename_i hw
          rw [if_pos hw] at this
          rcases this with h1 | ⟨h1, a, w, h2⟩
          · exact .inl (Oper.wp_mono2 (fun _ _ h' => wpAny_monoQ hq h') (fun _ _ _ => hq _ _ _) (fun ⟨a, w, h⟩ => ⟨a, w, hq _ _ _ h⟩) h1)
          · exact .inr ⟨h1, a, w, hq _ _ _ h2⟩
        · rename_i hw
          rw [if_neg hw] at this
          exact wpAny_monoQ hq this

end
end Go.Proofs.Ytcolpjpppdmanaa
/-
  More rules: parts of own slices as sources, a slice compared with nil, functions that hand back a part of what they are handed. No condition.
-/
namespace Go.Proofs.Ytcolpjpppdmanaa
open Go Go.RowKit
section
variable {P : Program} {env : Env} {os : List AO} {d : Option Tmp} {ty : TypeId} {pos : String} {af : Array Edge} {g : Option (Nat × Bool)} {wl : Bool}

theorem q_len_osub {t e : TypeId} [ht : TSlice P t e] {x : Operand} {h off n : Nat} (hx : AV.ev env x = .osub h off n) :
    QOp P wl ⟨d, .call { callee := .builtin .len, args := #[x], argTypes := #[t] }, ty, pos, af, g⟩ env os (.i n) :=
  .of_run fun _ w gs tm hr => by
    have hh := hr.ev x
    rw [hx] at hh
    generalize hv : Act.eval ⟨tm, []⟩ x = v at hh
    cases hh with
    | osub h1 h2 h3 h4 =>
      refine ⟨_, .val _, fun w' _ => ?_⟩
      simp [execOp, resolve, invoke, builtin, hv, Builtin.len_, run_underlying ht.und, goInt]

end

section
variable {P : Program} {env : Env} {os : List AO} {d : Tmp} {ty : TypeId} {pos : String} {af : Array Edge} {g : Option (Nat × Bool)} {l rest : List Oper} {K : APost} {q : Md}
theorem w_lenos {t e : TypeId} [TSlice P t e] {x : Operand} {h off n : Nat} (hw : wantedA l env ⟨some d, .call { callee := .builtin .len, args := #[x], argTypes := #[t] }, ty, pos, af, g⟩ = some true) (hx : evo env x = some (.osub h off n)) (h' : AOps P q l rest K (env.up d (.i n)) os) : AOps P q l (⟨some d, .call { callee := .builtin .len, args := #[x], argTypes := #[t] }, ty, pos, af, g⟩ :: rest) K env os := AOps.qo hw (q_len_osub (ev_of hx)) h'
end

/-! ### Functions that hand back a part of what they are handed -/
/-- The function leaves the object 'os' behind the handle 0 as it is, and hands back a part of it: what lies off on, len long. -/
def AFnR (P : Program) (f : FuncId) (args : List AV) (T : TypeId) (xs : List Int) (off len : Nat) : Prop :=
  HasBody P f ∧ ∀ base w gs vs, base ≤ w.heap.size → Objs base w gs [.sli T xs] → vs.size = args.length → (∀ i : Nat, RV w (okOf gs [.sli T xs]) gs (vs.getD i undef) (args.getD i .any)) →
    Calls P f vs w fun e w' => ∃ v, e = .returned v ∧ RV w' (fun _ => True) gs v (.osub 0 off len) ∧ Objs base w' gs [.sli T xs] ∧ Below base w w' ∧ ∀ b, b < w.heap.size → (∀ (h : Nat) g, gs[h]? = some g → b ∉ g.bl) → w'.heap[b]? = w.heap[b]?
theorem AFnR.of {P : Program} {f : FuncId} {fn : Func} {c : Code} {args : List AV} {T : TypeId} {xs : List Int} {off len : Nat} {n : Nat} (hf : P.funcs[f]? = some fn) (hb : fn.body = some c) (hnm : (fn.name == "runtime.NumGoroutine") = false) (hn : fn.ntmps - args.length = n)
    (h : ∀ K, AWp P c (fun _ _ => False) (fun _ _ _ => False) (fun env os1 => ResIs P fn env os1 (.osub 0 off len) ∧ os1.take 1 = [.sli T xs] ∧ os1[1]? = some (.keep 2 K)) (Env.start args n) [.sli T xs, .keep 2 K]) :
    AFnR P f args T xs off len := by
  obtain ⟨os, hos⟩ : ∃ os : List AO, os = [.sli T xs] := ⟨_, rfl⟩
  have h' : ∀ K, AWp P c (fun _ _ => False) (fun _ _ _ => False) (fun env os1 => ResIs P fn env os1 (.osub 0 off len) ∧ os1.take os.length = os ∧ os1[os.length]? = some (.keep (os.length + 1) K) ∧ ∀ o ∈ os, o.plain) (Env.start args n) (os ++ [.keep (os.length + 1) K]) := by
    subst hos
    exact fun K => (h K).mono (fun _ _ e => e) (fun _ _ _ e => e) fun _ _ ⟨e1, e2, e3⟩ => ⟨e1, e2, e3, by intro o ho; simp at ho; subst ho; trivial⟩
  unfold AFnR
  rw [← hos]
  refine ⟨⟨fn, c, hf, hnm, hb⟩, fun base w gs vs hbase hO hsz hvs => calls_of_wp hf hb ?_⟩
  rw [show fn.ntmps - vs.size = n by rw [hsz]; exact hn]
  let bl : List Nat := (List.range w.heap.size).filter fun b => decide (base ≤ b) && gs.all fun g => !g.bl.contains b
  let gk : Gh := ⟨undef, 0, bl, []⟩
  let K : Kp := ⟨fun b => w.heap[b]?, gs ++ [gk]⟩
  have hbl : ∀ b, b ∈ bl ↔ b < w.heap.size ∧ base ≤ b ∧ ∀ (h : Nat) g, gs[h]? = some g → b ∉ g.bl := by
    intro b
    simp only [bl, List.mem_filter, List.mem_range, Bool.and_eq_true, decide_eq_true_eq, List.all_eq_true, Bool.not_eq_true', List.contains_eq_mem, decide_eq_false_iff_not]
    constructor
    · rintro ⟨h1, h2, h3⟩
      exact ⟨h1, h2, fun h g hg => h3 g (List.mem_of_getElem? hg)⟩
    · rintro ⟨h1, h2, h3⟩
      exact ⟨h1, h2, fun g hg => by obtain ⟨i, hi⟩ := List.getElem?_of_mem hg; exact h3 i g hi⟩
  have hl := hO.hl
  have part : ∀ {i : Nat} {x : Gh} {y : AO}, (gs ++ [gk])[i]? = some x → (os ++ [.keep (os.length + 1) K])[i]? = some y → (gs[i]? = some x ∧ os[i]? = some y) ∨ (i = os.length ∧ x = gk ∧ y = .keep (os.length + 1) K) := by
    intro i x y hx hy
    rcases append_one hx with ⟨h1, h2⟩ | ⟨h1, rfl⟩
    · rcases append_one hy with ⟨h3, h4⟩ | ⟨h3, rfl⟩
      · exact .inl ⟨h2, h4⟩
      · omega
    · rcases append_one hy with ⟨h3, h4⟩ | ⟨h3, rfl⟩
      · omega
      · exact .inr ⟨h3, rfl, rfl⟩
  have gl : ∀ (i : Nat) x, gs[i]? = some x → (gs ++ [gk])[i]? = some x := fun i x e => by
    rw [List.getElem?_append_left (List.getElem?_eq_some_iff.1 e).1]; exact e
  have kp : Keeps (okOf gs os) (okOf (gs ++ [gk]) (os ++ [.keep (os.length + 1) K])) w w := by
    intro b hbk _
    refine ⟨fun i x y hx hy hny hm => ?_, rfl⟩
    rcases part hx hy with ⟨h1, h2⟩ | ⟨_, _, rfl⟩
    · exact hbk i x y h1 h2 hny hm
    · exact hny.elim
  have hrel : Rel base w (gs ++ [gk]) (Env.start args n) (os ++ [.keep (os.length + 1) K]) (vs ++ Array.replicate n undef) := by
    refine ⟨hbase, by simp [hl], by simp [Env.start, hsz], fun i => ?_, ?_, ?_, ?_⟩
    · exact start_rv args n vs (fun i => (hvs i).mono kp gl) i
    · intro i x y hx hy
      rcases part hx hy with ⟨h1, h2⟩ | ⟨_, rfl, rfl⟩
      · exact (hO.hp y (List.mem_of_getElem? h2)).ro (hO.ho i x y h1 h2)
      · exact ⟨fun b _ => rfl, by simp [K, hl], fun i x h => h⟩
    · intro i j g1 g2 o1 o2 hij hg1 hg2 ho1 ho2 _ _ b hb1 hb2
      rcases part hg1 ho1 with ⟨a1, a2⟩ | ⟨a1, rfl, _⟩
      · rcases part hg2 ho2 with ⟨b1, b2⟩ | ⟨_, rfl, _⟩
        · exact hO.hd i j g1 g2 hij a1 b1 b hb1 hb2
        · exact ((hbl b).1 hb2).2.2 i g1 a1 hb1
      · rcases part hg2 ho2 with ⟨b1, b2⟩ | ⟨b1, _, _⟩
        · exact ((hbl b).1 hb1).2.2 j g2 b1 hb2
        · omega
    · intro i x y hx hy _ b hb
      rcases part hx hy with ⟨h1, h2⟩ | ⟨_, rfl, _⟩
      · exact hO.hn i x h1 b hb
      · exact ⟨((hbl b).1 hb).2.1, ((hbl b).1 hb).1⟩
  refine wp_mono (h' K base w w _ _ hrel (Below.refl _ _)) ?_
  intro e a w' hq
  cases e with
  | normal => obtain ⟨_, _, _, _, _, _, hx⟩ := hq; exact hx.elim
  | exit j => obtain ⟨_, _, _, _, _, _, hx⟩ := hq; exact hx.elim
  | ret =>
    obtain ⟨env, os1, gs1, hr, hd, hbel, h1, h3, h4, h5⟩ := hq
    obtain ⟨v, hu, hv⟩ := h1 _ _ _ _ hr
    have hlt : os.length < os1.length := (List.getElem?_eq_some_iff.1 h4).1
    have hltg : os.length < gs1.length := by have := hr.hl; omega
    obtain ⟨g1, hg1⟩ : ∃ g1, gs1[os.length]? = some g1 := ⟨_, List.getElem?_eq_getElem hltg⟩
    obtain ⟨r1, r2, r3⟩ := hr.ho _ _ _ hg1 h4
    have pin : ∀ (i : Nat) x, gs[i]? = some x → gs1[i]? = some x := fun i x e => r3 i x (gl i x e)
    have egk : g1 = gk := by
      have := r3 os.length gk (by show (gs ++ [gk])[os.length]? = some gk; rw [← hl]; simp)
      rw [hg1] at this
      exact Option.some.inj this
    rw [egk] at r1
    have get' : ∀ {i : Nat} {y : AO}, os[i]? = some y → os1[i]? = some y ∧ i < os.length := by
      intro i y hy
      rw [← h3, List.getElem?_take] at hy
      split at hy
      · exact ⟨hy, ‹_›⟩
      · cases hy
    refine ⟨hd, v, hu, v, rfl, ?_, ⟨hO.hl, h5, ?_, hO.hd, ?_⟩, hbel, ?_⟩
    · cases hv with
      | @osub _ _ _ cap p g0 hg hp hc hm =>
        have hlt0 : 0 < gs.length := by rw [hl, hos]; simp
        have e0 := pin 0 _ (List.getElem?_eq_getElem hlt0)
        rw [hg] at e0
        cases e0
        exact .osub (List.getElem?_eq_getElem hlt0) hp hc hm
    · intro i x y hx hy
      obtain ⟨h6, h7⟩ := get' hy
      exact (h5 y (List.mem_of_getElem? hy)).ro (hr.ho i x y (pin i x hx) h6)
    · intro i x hx b hb
      have := hO.hn i x hx b hb
      exact ⟨this.1, Nat.lt_of_lt_of_le this.2 hbel.size⟩
    · intro b hb hnot
      rcases Nat.lt_or_ge b base with h6 | h6
      · exact hbel.block b h6
      · exact r1 b ((hbl b).2 ⟨hb, h6, hnot⟩)
  | goto l => exact (hq : False).elim
  | panic ch => exact (hq : False).elim
  | outgrown => exact (hq : False).elim


theorem AFnR.start {P : Program} {f : FuncId} {fn : Func} {nt : Nat} {args : List AV} {T : TypeId} {xs : List Int} {off len : Nat} (hf : P.funcs[f]? = some fn) (hnt : fn.ntmps = nt) {c : Code} (hb : fn.body = some c) (hnm : (fn.name == "runtime.NumGoroutine") = false)
    (h : ∀ K, AWp P c (fun _ _ => False) (fun _ _ _ => False) (fun env os1 => ResIs P fn env os1 (.osub 0 off len) ∧ os1.take 1 = [.sli T xs] ∧ os1[1]? = some (.keep 2 K)) (Env.start args (nt - args.length)) [.sli T xs, .keep 2 K]) :
    AFnR P f args T xs off len := AFnR.of hf hb hnm (by rw [hnt]) h

section
variable {P : Program} {env : Env} {os : List AO} {d : Tmp} {ty : TypeId} {pos : String} {af : Array Edge} {l rest : List Oper} {K : APost}
end
end Go.Proofs.Ytcolpjpppdmanaa
/-
  Rows that go into own slices by append; literal slices of rows. No condition.
-/
namespace Go.Proofs.Ytcolpjpppdmanaa
open Go Go.RowKit

/-- The slice 'k' is now the row j of 'p'; what names p's own value or block is lost. -/
def AV.rin1 (k p j : Nat) : AV → AV
  | .own i => if i = k then .orow p j else if i = p then .any else .own i
  | .optr i n => if i = p then .any else .optr i n
  | .osub i a b => if i = p then .any else .osub i a b
  | .agg _ => .any
  | .tup _ => .any
  | a => a
def AV.rin (k p j : Nat) : AV → AV
  | .own i => if i = k then .orow p j else if i = p then .any else .own i
  | .optr i n => if i = p then .any else .optr i n
  | .osub i a b => if i = p then .any else .osub i a b
  | .agg l => .agg (l.map (AV.rin1 k p j))
  | .tup l => .tup (l.map (AV.rin1 k p j))
  | a => a

section
variable {w w' : World} {ok ok' : Nat → Prop} {gs gs' : List Gh} {p k j : Nat} {gk g' : Gh}

structure RowIn (p k j : Nat) (gs gs' : List Gh) : Prop where
  other : ∀ (i : Nat) g, i ≠ p → gs[i]? = some g → gs'[i]? = some g
  rows : ∀ g, gs[p]? = some g → ∃ g', gs'[p]? = some g' ∧ ∀ (i : Nat) v, g.rows[i]? = some v → g'.rows[i]? = some v
  row : ∀ gk, gs[k]? = some gk → ∃ g', gs'[p]? = some g' ∧ g'.rows[j]? = some gk.v

theorem RV.rin1 (kp : Keeps ok ok' w w') (s : RowIn p k j gs gs') {v : Value} {a : AV} (hv : RV w ok gs v a) : RV w' ok' gs' v (a.rin1 k p j) := by
  cases hv with
  | any v => exact .any v
  | val v => exact .val v
  | ints h => exact .ints (h.mono kp)
  | intss h => exact .intss (h.mono kp)
  | @ro v r h => exact .ro (r.up kp h)
  | iptr h h1 h2 => exact .iptr (h.mono kp) h1 h2
  | iiptr h h1 h2 => exact .iiptr (h.mono kp) h1 h2
  | @own i g h1 =>
    simp only [AV.rin1]; split
    · subst_vars
      obtain ⟨g', a1, a2⟩ := s.row _ h1
      exact .orow a1 a2
    · split
      · exact .any _
      · exact .own (s.other _ _ ‹_› h1)
  | optr h1 =>
    simp only [AV.rin1]; split
    · exact .any _
    · exact .optr (s.other _ _ ‹_› h1)
  | osub h1 h2 h3 h4 =>
    simp only [AV.rin1]; split
    · exact .any _
    · exact .osub (s.other _ _ ‹_› h1) h2 h3 h4
  | @orow h i g v h1 h2 =>
    by_cases e : h = p
    · subst e
      obtain ⟨g', a1, a2⟩ := s.rows _ h1
      exact .orow a1 (a2 _ _ h2)
    · exact .orow (s.other _ _ e h1) h2
  | @orptr h i n blk m c g h1 h2 =>
    by_cases e : h = p
    · subst e
      obtain ⟨g', a1, a2⟩ := s.rows _ h1
      exact .orptr a1 (a2 _ _ h2)
    · exact .orptr (s.other _ _ e h1) h2
  | agg _ _ _ => exact .any _
  | tup _ _ => exact .any _

theorem RV.rin (kp : Keeps ok ok' w w') (s : RowIn p k j gs gs') {v : Value} {a : AV} (hv : RV w ok gs v a) : RV w' ok' gs' v (a.rin k p j) := by
  cases hv with
  | any v => exact .any v
  | val v => exact .val v
  | ints h => exact .ints (h.mono kp)
  | intss h => exact .intss (h.mono kp)
  | @ro v r h => exact .ro (r.up kp h)
  | iptr h h1 h2 => exact .iptr (h.mono kp) h1 h2
  | iiptr h h1 h2 => exact .iiptr (h.mono kp) h1 h2
  | @own i g h1 => exact RV.rin1 kp s (.own h1)
  | optr h1 => exact RV.rin1 kp s (.optr h1)
  | osub h1 h2 h3 h4 => exact RV.rin1 kp s (.osub h1 h2 h3 h4)
  | orow h1 h2 => exact RV.rin1 kp s (.orow h1 h2)
  | orptr h1 h2 => exact RV.rin1 kp s (.orptr h1 h2)
  | agg h1 h3 h2 => exact .agg (by simpa using h1) h3 fun i => by rw [getD_map_f _ rfl]; exact (h2 i).rin1 kp s
  | tup h1 h2 => exact .tup (by simpa using h1) fun i => by rw [getD_map_f _ rfl]; exact (h2 i).rin1 kp s
end

section
variable {P : Program} {env : Env} {os : List AO} {d : Option Tmp} {ty : TypeId} {pos : String} {af : Array Edge} {g : Option (Nat × Bool)}

/-- An empty slice of rows. -/
theorem l_bsr0 {t e e2 : TypeId} {bytes : Nat} [ht : TSlice P t e] [he : TElem P e (.slice none 0 0) bytes] [TSlice P e e2] : LOp P ⟨d, .buildSlice t 0 #[], ty, pos, af, g⟩ env os (.own os.length) env (os ++ [.sls e e2 []]) := by
  refine l_new fun base w gs tm hr => ?_
  obtain ⟨ii, hi, hs, hz, hby⟩ := he.info
  refine ⟨w.alloc (.cells #[] e), ⟨.slice (some ⟨w.heap.size, 0, none⟩) 0 0, w.heap.size, [w.heap.size], []⟩, ?_, below_alloc w _, fun b hb => by simp at hb; simp [hb], fun ok gs' => ?_⟩
  · simp [execOp, Instr.buildSlice, run_underlying ht.und, sizeOf, typeInfo, hi, Instr.fill, newRow, ar0]
  · refine ⟨[], [], [w.heap.size], ⟨by simp, .inr ⟨w.heap.size, 0, _, rfl, hr.hb, heap_alloc_new w _, Nat.le_refl _, by simp [maxLen], by simp, by simp⟩⟩, rfl, rfl, rfl, fun i u hu => (by cases hu), .inr ⟨rfl, rfl⟩, by simp, by simp⟩

/-- A literal slice of one row: a block whose cell names the row. -/
theorem l_bsr1 {t e : TypeId} {bytes : Nat} [ht : TSlice P t e] [he : TElem P e (.slice none 0 0) bytes] {x : Operand} {k : Nat} {e3 : TypeId} {ys : List Int} (hx : AV.ev env x = .own k) (hk : os[k]? = some (.sli e3 ys)) :
    LOp P ⟨d, .buildSlice t 1 #[(0, x)], ty, pos, af, g⟩ env os (.osub os.length 0 1) env (os ++ [.bx e [.own k]]) := by
  intro base w gs tm hr
  have hxv := hr.ev x
  rw [hx] at hxv
  generalize hv : Act.eval ⟨tm, []⟩ x = v at hxv
  cases hxv with
  | @own _ gk hgk =>
    obtain ⟨b1, b2, b3⟩ := hr.ho _ _ _ hgk hk
    obtain ⟨ua, uc, eu⟩ := ownsRow_slice b1
    obtain ⟨ii, hi, hs, hz, hby⟩ := he.info
    have hbel := below_alloc w (.cells [gk.v].toArray e)
    have hlt : w.heap.size < (w.alloc (.cells [gk.v].toArray e)).heap.size := by simp
    have hno : AO.bx e [.own k] ≠ .dead → ∀ b, b ∈ [w.heap.size] → w.heap.size ≤ b ∧ b < (w.alloc (.cells [gk.v].toArray e)).heap.size := fun _ b hb => by simp at hb; omega
    let gn : Gh := ⟨.pointer (some ⟨w.heap.size, 0, none⟩), w.heap.size, [w.heap.size], []⟩
    have hgs : ∀ (i : Nat) g', gs[i]? = some g' → (gs ++ [gn])[i]? = some g' := fun i g' e => by
      rw [List.getElem?_append_left (List.getElem?_eq_some_iff.1 e).1]; exact e
    refine ⟨.slice (some ⟨w.heap.size, 0, none⟩) 1 1, _, gs ++ [gn], .inl ?_, hr.new hbel _ _ hno ?_, ?_, hbel.mono hr.hb⟩
    · simp [execOp, Instr.buildSlice, run_underlying ht.und, sizeOf, typeInfo, zeroValue, hi, hs, hz, Instr.fill, newRow, hv, eu, Value.cells, ar1]
    · refine ⟨[gk.v], heap_alloc_new w _, hr.hb, rfl, rfl, rfl, ?_, fun i => ?_⟩
      · intro c hc; simp at hc; subst hc; rw [eu]; rfl
      · match i with
        | 0 => exact .own (hgs _ _ hgk)
        | i + 1 => exact .any _
    · have := RV.osub (w := w.alloc (.cells [gk.v].toArray e)) (ok := okOf (gs ++ [gn]) (os ++ [.bx e [.own k]])) (off := 0) (len := 1) (cap := 1) (p := some ⟨w.heap.size, 0, none⟩) (len_new (gs := gs) (g := gn)) (fun _ => rfl) (Nat.le_refl _) (by simp [maxLen])
      rw [hr.hl] at this
      exact this

theorem nodup_rows {m m' fl c : List Nat} (h : (m ++ fl).Nodup) (hm : m'.Nodup) (hmm : ∀ b, b ∈ m' → b ∉ fl ∧ b ∉ c) (hc : c.Nodup) (hd : ∀ b, b ∈ c → b ∉ m ++ fl) : (m' ++ (fl ++ c)).Nodup := by
  simp only [List.nodup_append, List.mem_append] at *
  obtain ⟨h1, h2, h3⟩ := h
  refine ⟨hm, ⟨h2, hc, ?_⟩, ?_⟩
  · intro a ha b hb e
    subst e
    exact hd a hb (.inr ha)
  · intro a ha b hb e
    subst e
    rcases hb with hb | hb
    · exact (hmm a ha).1 hb
    · exact (hmm a ha).2 hb

set_option maxHeartbeats 1000000 in
/-- One row is appended. -/
theorem l_append_row {t e e3 : TypeId} {bytes : Nat} [ht : TSlice P t e] [he : TElem P e (.slice none 0 0) bytes] {x y : Operand} {h m k : Nat} {e' e2 T : TypeId} {xss : List (List Int)} {ys : List Int}
    (hx : AV.ev env x = .own h) (hs : os[h]? = some (.sls e' e2 xss)) (hee : e' = e) (hy : AV.ev env y = .osub m 0 1) (hm : os[m]? = some (.bx T [.own k])) (hk : os[k]? = some (.sli e3 ys)) (he3 : e3 = e2)
    (hb : (xss.length + 1) * bytes ≤ 140737488355328) :
    LOp P ⟨d, .call { callee := .builtin .append, args := #[x, y], argTypes := #[t, t] }, ty, pos, af, g⟩ env os (.own h) (env.mp (AV.rin k h xss.length)) (((os.map (AO.via (AV.rin k h xss.length) h)).set h (.sls e e2 (xss ++ [ys]))).set k .dead) := by
  subst hee
  subst he3
  intro base w gs tm hr
  have hxv := hr.ev x
  rw [hx] at hxv
  have hyv := hr.ev y
  rw [hy] at hyv
  generalize hv : Act.eval ⟨tm, []⟩ x = v at hxv
  generalize hu : Act.eval ⟨tm, []⟩ y = u at hyv
  have hne : h ≠ k := fun e => by subst e; rw [hs] at hk; cases hk
  cases hxv with
  | @own _ gh hg =>
  cases hyv with
  | @osub _ _ _ cap pa gm hgm hp hc hcm =>
    have epa := hp (by omega)
    subst epa
    obtain ⟨cs, m1, m2, m3, m4, m5, m6, m7⟩ := hr.ho _ _ _ hgm hm
    have hcs := m7 0
    simp only [List.getD_cons_zero] at hcs
    obtain ⟨c0, rfl⟩ : ∃ c0, cs = [c0] := by
      match cs, m5 with
      | [c0], _ => exact ⟨c0, rfl⟩
    simp only [List.getD_cons_zero] at hcs
    cases hcs with
    | @own _ gk hgk =>
    obtain ⟨vs, bs, mb, a1, a2, a3, a4, a5, a6, a7, a8⟩ := hr.ho _ _ _ hg hs
    obtain ⟨b1, b2, b3⟩ := hr.ho _ _ _ hgk hk
    obtain ⟨ua, uc, eu⟩ := ownsRow_slice b1
    obtain ⟨ii, hi, hsz, hz, hby⟩ := he.info
    have h64 : vs.length + 1 ≤ maxLen := by
      have := he.pos
      have : xss.length + 1 ≤ (xss.length + 1) * bytes := Nat.le_mul_of_pos_right _ this
      simp only [maxLen]; omega
    obtain ⟨v', w', r1, r2, r3, r4, r5⟩ := run_append_own_at (P := P) w base t ty e' ii _ 1 bytes ht.und hi hz hsz hby rfl (by omega) gh.v vs.length vs a1 ⟨gm.b, 0, none⟩ 1 cap [gk.v] (by simp)
      (fun j u hj => by
        have hj0 : j = 0 := by have := (List.getElem?_eq_some_iff.1 hj).1; simp at this; exact this
        subst hj0
        rw [add_none, cell_of_row w _ _ _ _ (0, 0) m1]
        simpa using hj)
      (fun u hu => by simp at hu; subst hu; rw [eu]; rfl) h64 (by rw [a2]; exact hb) hr.hb
    have emb : gh.v.ownBlock.toList = mb := by
      rcases a6 with ⟨c1, c2⟩ | ⟨c1, c2⟩
      · rw [c1, c2]; rfl
      · rw [c1, c2]; rfl
    have hgb : ∀ b, b ∉ gh.bl → some b ≠ gh.v.ownBlock := fun b hb e => hb (by rw [a7, ← emb, ← e]; simp)
    have hnotmb : ∀ b, b ∉ mb → some b ≠ gh.v.ownBlock := fun b hb e => hb (by rw [← emb, ← e]; simp)
    have hdis : ∀ c, c ∈ gk.bl → c ∉ gh.bl := hr.hd k h gk gh _ _ (fun e => hne e.symm) hgk hg hk hs (by simp) (by simp)
    have hlt : ∀ b, v'.ownBlock = some b → b < w'.heap.size := by
      intro b hb
      rcases r2.2 with ⟨e1, _⟩ | ⟨gg, cc, cur, e1, _, hgg, _⟩
      · rw [e1] at hb; cases hb
      · rw [e1] at hb; cases hb; exact (Array.getElem?_eq_some_iff.1 hgg).1
    have hhg : h < gs.length := (List.getElem?_eq_some_iff.1 hg).1
    have hbl0 : ∀ b, b ∈ gh.bl → b < w.heap.size := fun b hb => (hr.hn _ _ _ hg hs (by simp) b hb).2
    have hblk : ∀ b, b ∈ gk.bl → b < w.heap.size := fun b hb => (hr.hn _ _ _ hgk hk (by simp) b hb).2
    let g' : Gh := ⟨v', v'.ownBlock.getD 0, v'.ownBlock.toList ++ (bs ++ [gk.bl]).flatten, vs ++ [gk.v]⟩
    have efl : (bs ++ [gk.bl]).flatten = bs.flatten ++ gk.bl := by simp
    have hv'b : ∀ b, b ∈ v'.ownBlock.toList → v'.ownBlock = some b := fun b hb => by
      cases hvb : v'.ownBlock with
      | none => rw [hvb] at hb; simp at hb
      | some c => rw [hvb] at hb; simp at hb; rw [hb]
    have sv : RowIn h k xss.length gs (gs.set h g') := by
      refine ⟨fun j z hj hz => ?_, fun z hz => ⟨g', by simp [hhg], fun i u hiu => ?_⟩, fun z hz => ⟨g', by simp [hhg], ?_⟩⟩
      · rw [List.getElem?_set, if_neg (fun e => hj e.symm)]; exact hz
      · rw [hg] at hz; cases hz
        rw [a4] at hiu
        show (vs ++ [gk.v])[i]? = some u
        rw [List.getElem?_append_left (List.getElem?_eq_some_iff.1 hiu).1]; exact hiu
      · rw [hgk] at hz; cases hz
        show (vs ++ [gk.v])[xss.length]? = some gk.v
        rw [← a2]; simp
    -- a row's block is none of the outer one's
    have rowblk : ∀ (j : Nat) u, vs[j]? = some u → ∀ c, u.ownBlock = some c → c ∈ bs.flatten := by
      intro j u hj c hc
      have hjb : j < bs.length := by
        have := (List.getElem?_eq_some_iff.1 hj).1
        omega
      exact List.mem_flatten.2 ⟨bs.getD j [], by rw [List.getD_eq_getElem?_getD, List.getElem?_eq_getElem hjb]; simp, by rw [← (a5 j u hj).2.2, hc]; simp⟩
    have a8' : (mb ++ bs.flatten).Nodup := by rw [← a7]; exact a8
    have mbfl : ∀ b, b ∈ mb → b ∉ bs.flatten := fun b hb hb2 => (List.nodup_append.1 a8').2.2 b hb b hb2 rfl
    have keep : ∀ c, c < w.heap.size → c ∉ mb → w'.heap[c]? = w.heap[c]? := fun c hc hcm => r3.block c hc (hnotmb c hcm)
    refine ⟨v', w', gs.set h g', .inl ?_, hr.absorb hg hs trivial hgk hk trivial hne g' _ (AV.rin k h xss.length) rfl (fun b hb hn => r3.block b hb (hgb b hn)) r3.size ?_ (fun kp hv => hv.rin kp sv) ?_, ?_, ?_⟩
    · have r1' := r1
      simp only [execOp, resolve, invoke, builtin, Sem.run_bind, Sem.run_pure, Result.andThen_ok, List.map_toArray, List.map_cons, List.map_nil, hv, hu, r1']
    · intro b hb
      rcases List.mem_append.1 hb with hb | hb
      · have hb' := hv'b b hb
        refine ⟨?_, hlt b hb'⟩
        rcases r5 with r5 | r5
        · left
          rw [hb'] at r5
          exact Classical.byContradiction fun hn => hgb b hn r5
        · right; right
          rw [hb'] at r5; cases r5; exact Nat.le_refl _
      · rw [efl] at hb
        rcases List.mem_append.1 hb with hb | hb
        · have : b ∈ gh.bl := by rw [a7]; exact List.mem_append.2 (.inr hb)
          exact ⟨.inl this, Nat.lt_of_lt_of_le (hbl0 b this) r3.size⟩
        · exact ⟨.inr (.inl hb), Nat.lt_of_lt_of_le (hblk b hb) r3.size⟩
    · intro kp
      refine ⟨vs ++ [gk.v], bs ++ [gk.bl], v'.ownBlock.toList, ?_, by simp [a2], by simp [a3], rfl, fun j u hj => ?_, ?_, rfl, ?_⟩
      · simpa using r2
      · rw [List.getElem?_append] at hj
        split at hj
        · rename_i hjl
          obtain ⟨q1, q2, q3⟩ := a5 j u hj
          have g1 : (xss ++ [ys]).getD j [] = xss.getD j [] := by
            simp only [List.getD_eq_getElem?_getD]; rw [List.getElem?_append_left (by omega)]
          have g2 : (bs ++ [gk.bl]).getD j [] = bs.getD j [] := by
            simp only [List.getD_eq_getElem?_getD]; rw [List.getElem?_append_left (by omega)]
          rw [g1, g2]
          refine ⟨ownsRow_of_block q1 fun c hc => ?_, q2, q3⟩
          have hcf := rowblk j u hj c hc
          exact keep c (hbl0 c (by rw [a7]; exact List.mem_append.2 (.inr hcf))) fun hm => mbfl c hm hcf
        · rename_i hjl
          have hj0 : j = vs.length := by
            have := (List.getElem?_eq_some_iff.1 hj).1
            simp at this; omega
          subst hj0
          simp at hj
          subst hj
          have g1 : (xss ++ [ys]).getD vs.length [] = ys := by rw [a2]; simp [List.getD_eq_getElem?_getD]
          have g2 : (bs ++ [gk.bl]).getD vs.length [] = gk.bl := by rw [a2, ← a3]; simp [List.getD_eq_getElem?_getD]
          rw [g1, g2]
          refine ⟨ownsRow_of_block b1 fun c hc => ?_, b2, b3.list⟩
          have hcm := b3.mem hc
          exact keep c (hblk c hcm) fun hm => hdis c hcm (by rw [a7]; exact List.mem_append.2 (.inl hm))
      · show (v'.ownBlock = none ∧ v'.ownBlock.toList = []) ∨ (v'.ownBlock = some (v'.ownBlock.getD 0) ∧ v'.ownBlock.toList = [v'.ownBlock.getD 0])
        cases v'.ownBlock with
        | none => exact .inl ⟨rfl, rfl⟩
        | some b => exact .inr ⟨rfl, rfl⟩
      · show (v'.ownBlock.toList ++ (bs ++ [gk.bl]).flatten).Nodup
        rw [efl]
        refine nodup_rows a8' ?_ ?_ b3.nodup (fun b hb => by rw [← a7]; exact hdis b hb)
        · cases v'.ownBlock <;> simp
        · intro b hb
          have hb' := hv'b b hb
          rcases r5 with r5 | r5
          · rw [hb'] at r5
            have hm : b ∈ mb := by rw [← emb, ← r5]; simp
            exact ⟨mbfl b hm, fun hc => hdis b hc (by rw [a7]; exact List.mem_append.2 (.inl hm))⟩
          · rw [hb'] at r5
            cases r5
            refine ⟨fun hc => ?_, fun hc => ?_⟩
            · have := hbl0 w.heap.size (by rw [a7]; exact List.mem_append.2 (.inr hc)); omega
            · have := hblk w.heap.size hc; omega
    · exact RV.own (g := g') (by simp [hhg])
    · refine ⟨r3.os, r3.tape, r3.output, r3.size, fun b hb => r3.block b (by have := hr.hb; omega) (hgb b fun hm => ?_)⟩
      have := (hr.hn _ _ _ hg hs (by simp) b hm).1
      omega
end

section
variable {P : Program} {env : Env} {os : List AO} {d : Tmp} {ty : TypeId} {pos : String} {af : Array Edge} {l rest : List Oper} {K : APost}
theorem w_bsr0 {t e e2 : TypeId} {bytes : Nat} [TSlice P t e] [TElem P e (.slice none 0 0) bytes] [TSlice P e e2] {m : Nat} (hm : os.length = m) (h' : AOps P .seq l rest K (env.up d (.own m)) (os ++ [.sls e e2 []])) :
    AOps P .seq l (⟨some d, .buildSlice t 0 #[], ty, pos, af, none⟩ :: rest) K env os := AOps.lo (hm ▸ l_bsr0) h'
theorem w_bsr1 {t e e3 : TypeId} {bytes : Nat} [TSlice P t e] [TElem P e (.slice none 0 0) bytes] {x : Operand} {k m : Nat} {ys : List Int} (hx : evo env x = some (.own k)) (hk : os[k]? = some (.sli e3 ys)) (hm : os.length = m)
    (h' : AOps P .seq l rest K (env.up d (.osub m 0 1)) (os ++ [.bx e [.own k]])) :
    AOps P .seq l (⟨some d, .buildSlice t 1 #[(0, x)], ty, pos, af, none⟩ :: rest) K env os := AOps.lo (hm ▸ l_bsr1 (ev_of hx) hk) h'
theorem w_appr {t e e3 : TypeId} {bytes : Nat} [TSlice P t e] [TElem P e (.slice none 0 0) bytes] {x y : Operand} {h m k : Nat} {e' e2 T : TypeId} {xss : List (List Int)} {ys : List Int}
    (hx : evo env x = some (.own h)) (hs : os[h]? = some (.sls e' e2 xss)) (hee : e' = e) (hy : evo env y = some (.osub m 0 1)) (hm : os[m]? = some (.bx T [.own k])) (hk : os[k]? = some (.sli e3 ys)) (he3 : e3 = e2)
    (hb : (xss.length + 1) * bytes ≤ 140737488355328) (h' : AOps P .seq l rest K (Env.up (env.mp (AV.rin k h xss.length)) d (.own h)) (((os.map (AO.via (AV.rin k h xss.length) h)).set h (.sls e e2 (xss ++ [ys]))).set k .dead)) :
    AOps P .seq l (⟨some d, .call { callee := .builtin .append, args := #[x, y], argTypes := #[t, t] }, ty, pos, af, none⟩ :: rest) K env os :=
  AOps.lo (l_append_row (ev_of hx) hs hee (ev_of hy) hm hk he3 hb) h'
end
end Go.Proofs.Ytcolpjpppdmanaa
/-
  Own slices whose cells are rows of another own slice: literal ones, appends, cuts; the two made one. No condition.
-/
namespace Go.Proofs.Ytcolpjpppdmanaa
open Go Go.RowKit

theorem map_orow_kill (h k : Nat) (idx : List Nat) : (idx.map (AV.orow k)).map (AV.kill h) = idx.map (AV.orow k) := by
  rw [List.map_map]; rfl
section
variable {P : Program} {env : Env} {os : List AO} {d : Option Tmp} {ty : TypeId} {pos : String} {af : Array Edge} {g : Option (Nat × Bool)}

/-- An empty slice of rows. -/
theorem l_bsx0 {t e : TypeId} {bytes : Nat} [ht : TSlice P t e] [he : TElem P e (.slice none 0 0) bytes] (k : Nat) : LOp P ⟨d, .buildSlice t 0 #[], ty, pos, af, g⟩ env os (.own os.length) env (os ++ [.slr e (([] : List Nat).map (AV.orow k))]) := by
  refine l_new fun base w gs tm hr => ?_
  obtain ⟨ii, hi, hs, hz, hby⟩ := he.info
  refine ⟨w.alloc (.cells #[] e), ⟨.slice (some ⟨w.heap.size, 0, none⟩) 0 0, w.heap.size, [w.heap.size], []⟩, ?_, below_alloc w _, fun b hb => by simp at hb; simp [hb], fun ok gs' => ?_⟩
  · simp [execOp, Instr.buildSlice, run_underlying ht.und, sizeOf, typeInfo, hi, Instr.fill, newRow, ar0]
  · exact ⟨[], ⟨by simp, .inr ⟨w.heap.size, 0, _, rfl, hr.hb, heap_alloc_new w _, Nat.le_refl _, by simp [maxLen], by simp, by simp⟩⟩, rfl, fun i => .any _, .inr ⟨rfl, rfl⟩⟩

end

theorem nodup_sel {bs : List (List Nat)} {idx : List Nat} (h : bs.flatten.Nodup) (hi : idx.Nodup) (hlt : ∀ i ∈ idx, i < bs.length) : ((idx.map fun i => bs.getD i []).flatten).Nodup := by
  unfold List.Nodup at h ⊢
  rw [List.pairwise_flatten] at h ⊢
  obtain ⟨h1, h2⟩ := h
  refine ⟨?_, ?_⟩
  · intro l hl
    obtain ⟨i, hi', rfl⟩ := List.mem_map.1 hl
    have := hlt i hi'
    rw [List.getD_eq_getElem?_getD, List.getElem?_eq_getElem this]
    exact h1 _ (List.getElem_mem this)
  · rw [List.pairwise_map]
    refine List.Pairwise.imp_of_mem ?_ hi
    intro a b ha hb hab
    have la := hlt a ha
    have lb := hlt b hb
    rw [List.getD_eq_getElem?_getD, List.getElem?_eq_getElem la, List.getD_eq_getElem?_getD, List.getElem?_eq_getElem lb]
    rw [List.pairwise_iff_getElem] at h2
    rcases Nat.lt_or_gt_of_ne hab with hl | hl
    · exact h2 a b la lb hl
    · exact fun x hx y hy e => h2 b a lb la hl y hy x hx e.symm

set_option maxHeartbeats 1000000 in
/-- The slice 'p' of rows of 'k' takes these rows; the rest of 'k' is no more. -/
theorem Rel.merge {base : Nat} {w : World} {gs : List Gh} {env : Env} {os : List AO} {tm : Array Value} (h : Rel base w gs env os tm) {p k : Nat} {e e2 e3 : TypeId} {xss : List (List Int)} {idx : List Nat} (hs : os[p]? = some (.slr e (idx.map (AV.orow k)))) (hk : os[k]? = some (.sls e3 e2 xss)) (hnd : idx.Nodup) :
    ∃ gs', Rel base w gs' (env.mp (AV.noRow p)) (((os.map (AO.via (AV.noRow p) p)).set p (.sls e e2 (idx.map fun i => xss.getD i []))).set k .dead) tm := by
  have hne : p ≠ k := fun e => by subst e; rw [hs] at hk; cases hk
  have hpo : p < os.length := (List.getElem?_eq_some_iff.1 hs).1
  have hko : k < os.length := (List.getElem?_eq_some_iff.1 hk).1
  obtain ⟨gp, hgp⟩ : ∃ x, gs[p]? = some x := ⟨_, List.getElem?_eq_getElem (by rw [h.hl]; exact hpo)⟩
  obtain ⟨gk, hgk⟩ : ∃ x, gs[k]? = some x := ⟨_, List.getElem?_eq_getElem (by rw [h.hl]; exact hko)⟩
  obtain ⟨vs, a1, a2, a3, a4⟩ := h.ho _ _ _ hgp hs
  obtain ⟨us, bs, mb, b1, b2, b3, b4, b5, b6, b7, b8⟩ := h.ho _ _ _ hgk hk
  have a2' : vs.length = idx.length := by simpa using a2
  have row : ∀ (j : Nat) u, vs[j]? = some u → ∃ i, idx[j]? = some i ∧ us[i]? = some u := by
    intro j u hj
    have hjl := (List.getElem?_eq_some_iff.1 hj).1
    have hrv := a3 j
    obtain ⟨i, hi⟩ : ∃ i, idx[j]? = some i := ⟨_, List.getElem?_eq_getElem (by omega)⟩
    rw [List.getD_eq_getElem?_getD, hj, List.getD_eq_getElem?_getD, List.getElem?_map, hi] at hrv
    simp only [Option.getD_some, Option.map_some] at hrv
    cases hrv with
    | @orow _ _ g0 _ q1 q2 =>
      rw [hgk] at q1
      cases q1
      rw [b4] at q2
      exact ⟨i, hi, q2⟩
  have hidx : ∀ i ∈ idx, i < bs.length := by
    intro i hi
    obtain ⟨j, hj⟩ := List.getElem?_of_mem hi
    have hjl := (List.getElem?_eq_some_iff.1 hj).1
    obtain ⟨i', q1, q2⟩ := row j _ (List.getElem?_eq_getElem (by omega))
    rw [hj] at q1
    cases q1
    have := (List.getElem?_eq_some_iff.1 q2).1
    omega
  let cs : List (List Nat) := idx.map fun i => bs.getD i []
  let g' : Gh := ⟨gp.v, gp.b, gp.bl ++ cs.flatten, vs⟩
  have hcs : ∀ b, b ∈ cs.flatten → b ∈ bs.flatten := by
    intro b hb
    obtain ⟨l, hl, hbl⟩ := List.mem_flatten.1 hb
    obtain ⟨i, hi, rfl⟩ := List.mem_map.1 hl
    have hil := hidx i hi
    rw [List.getD_eq_getElem?_getD, List.getElem?_eq_getElem hil] at hbl
    exact List.mem_flatten.2 ⟨_, List.getElem_mem hil, hbl⟩
  have hsk : ∀ b, b ∈ cs.flatten → b ∈ gk.bl := fun b hb => by rw [b7]; exact List.mem_append.2 (.inr (hcs b hb))
  have hgl : p < gs.length := by rw [h.hl]; exact hpo
  have sv : SameV p gs (gs.set p g') := by
    refine ⟨fun j z hj hz => ?_, fun z hz => ⟨g', by simp [hgl], ?_, ?_⟩⟩
    · rw [List.getElem?_set, if_neg (fun e => hj e.symm)]; exact hz
    · rw [hgp] at hz; cases hz; rfl
    · rw [hgp] at hz; cases hz; rfl
  refine ⟨gs.set p g', h.absorb hgp hs trivial hgk hk trivial hne g' _ (AV.noRow p) rfl (fun _ _ _ => rfl) (Nat.le_refl _) ?_ (fun kp hv => hv.noRow kp sv) ?_⟩
  · intro b hb
    rcases List.mem_append.1 hb with hb | hb
    · exact ⟨.inl hb, (h.hn _ _ _ hgp hs (by simp) b hb).2⟩
    · exact ⟨.inr (.inl (hsk b hb)), (h.hn _ _ _ hgk hk (by simp) b (hsk b hb)).2⟩
  · intro kp
    refine ⟨vs, cs, gp.bl, a1, by simp [a2'], by simp [cs], rfl, fun j u hj => ?_, a4, rfl, ?_⟩
    · obtain ⟨i, q1, q2⟩ := row j u hj
      have g1 : (idx.map fun i => xss.getD i []).getD j [] = xss.getD i [] := by
        rw [List.getD_eq_getElem?_getD, List.getElem?_map, q1]; rfl
      have g2 : cs.getD j [] = bs.getD i [] := by
        show (idx.map fun i => bs.getD i []).getD j [] = _
        rw [List.getD_eq_getElem?_getD, List.getElem?_map, q1]; rfl
      rw [g1, g2]
      exact b5 i u q2
    · show (gp.bl ++ cs.flatten).Nodup
      rw [List.nodup_append]
      refine ⟨a4.nodup, nodup_sel ?_ hnd hidx, ?_⟩
      · rw [b7] at b8
        exact (List.nodup_append.1 b8).2.1
      · intro a ha b hb e
        subst e
        exact h.hd p k gp gk _ _ hne hgp hgk hs hk (by simp) (by simp) a ha (hsk a hb)

theorem AWp.merge {P : Program} {c : Code} {N : APost} {X : Nat → APost} {Rt : APost} {env : Env} {os : List AO} {p k : Nat} {e e2 e3 : TypeId} {xss : List (List Int)} {idx : List Nat} (hs : os[p]? = some (.slr e (idx.map (AV.orow k)))) (hk : os[k]? = some (.sls e3 e2 xss)) (hnd : idx.Nodup)
    (h : AWp P c N X Rt (env.mp (AV.noRow p)) (((os.map (AO.via (AV.noRow p) p)).set p (.sls e e2 (idx.map fun i => xss.getD i []))).set k .dead)) : AWp P c N X Rt env os := by
  intro base w0 w gs tm hr hb
  obtain ⟨gs', hr'⟩ := hr.merge hs hk hnd
  exact h base w0 w gs' tm hr' hb

section
variable {P : Program} {env : Env} {os : List AO} {d : Tmp} {ty : TypeId} {pos : String} {af : Array Edge} {l rest : List Oper} {K : APost}
end
end Go.Proofs.Ytcolpjpppdmanaa
/-
  Own slices put together out of rows of another one and of one more row; functions that are handed an own slice of rows and hand one back in its place. No condition.
-/
namespace Go.Proofs.Ytcolpjpppdmanaa
open Go Go.RowKit

/-- Object 'p' takes the blocks of the objects 'k' and 'm', which are no more. -/
theorem Rel.absorb2 {base : Nat} {w w' : World} {gs : List Gh} {env : Env} {os : List AO} {tm : Array Value} (h : Rel base w gs env os tm) {p k : Nat} {g gk : Gh} {o ok : AO} (hg : gs[p]? = some g) (ho : os[p]? = some o) (hlv : o.live)
    (hgk : gs[k]? = some gk) (hok : os[k]? = some ok) (hlk : ok.live) (hpk : p ≠ k) {m : Nat} {gm : Gh} {om : AO} (hgm : gs[m]? = some gm) (hom : os[m]? = some om) (hlm : om.live) (hpm : p ≠ m) (g' : Gh) (o' : AO) (f : AV → AV) (hf : f .any = .any)
    (hw : ∀ b, b < w.heap.size → b ∉ g.bl → w'.heap[b]? = w.heap[b]?) (hsz : w.heap.size ≤ w'.heap.size)
    (hbl : ∀ b, b ∈ g'.bl → (b ∈ g.bl ∨ b ∈ gk.bl ∨ b ∈ gm.bl ∨ w.heap.size ≤ b) ∧ b < w'.heap.size)
    (hrv : ∀ {ok' : Nat → Prop} {v : Value} {a : AV}, Keeps (okOf gs os) ok' w w' → RV w (okOf gs os) gs v a → RV w' ok' (gs.set p g') v (f a))
    (hro : Keeps (okOf gs os) (okOf (gs.set p g') ((((os.map (AO.via f p)).set p o').set k .dead).set m .dead)) w w' → RO base w' (okOf (gs.set p g') ((((os.map (AO.via f p)).set p o').set k .dead).set m .dead)) (gs.set p g') g' o') :
    Rel base w' (gs.set p g') (env.mp f) ((((os.map (AO.via f p)).set p o').set k .dead).set m .dead) tm := by
  have hnd := hlv.ne
  have hnk := hlk.ne
  have hnm := hlm.ne
  have hpg : p < gs.length := (List.getElem?_eq_some_iff.1 hg).1
  have hpo : p < os.length := (List.getElem?_eq_some_iff.1 ho).1
  have hko : k < os.length := (List.getElem?_eq_some_iff.1 hok).1
  have hmo : m < os.length := (List.getElem?_eq_some_iff.1 hom).1
  have gset : ∀ {i : Nat} {x : Gh}, (gs.set p g')[i]? = some x → (i = p ∧ x = g') ∨ (i ≠ p ∧ gs[i]? = some x) := by
    intro i x e
    rw [List.getElem?_set] at e
    split at e
    · subst_vars; simp at e; exact .inl ⟨rfl, e.symm⟩
    · exact .inr ⟨fun e' => by simp_all, e⟩
  -- an object of the new state that is there
  have oset : ∀ {i : Nat} {x : AO}, ((((os.map (AO.via f p)).set p o').set k .dead).set m .dead)[i]? = some x → x ≠ .dead → i ≠ k ∧ i ≠ m ∧ ((i = p ∧ x = o') ∨ (i ≠ p ∧ ∃ y, os[i]? = some y ∧ x = y.via f p)) := by
    intro i x e hx
    rw [List.getElem?_set] at e
    split at e
    · subst_vars; simp [hmo] at e; exact absurd e.symm hx
    rename_i him
    rw [List.getElem?_set] at e
    split at e
    · subst_vars; simp [hko] at e; exact absurd e.symm hx
    · rename_i hik
      refine ⟨fun e' => hik e'.symm, fun e' => him e'.symm, ?_⟩
      rw [List.getElem?_set] at e
      split at e
      · subst_vars; simp [hpo] at e; exact .inl ⟨rfl, e.symm⟩
      · refine .inr ⟨fun e' => by simp_all, ?_⟩
        rw [List.getElem?_map] at e
        cases hy : os[i]? with
        | none => simp [hy] at e
        | some y => simp [hy] at e; exact ⟨y, rfl, e.symm⟩
  have kp : Keeps (okOf gs os) (okOf (gs.set p g') ((((os.map (AO.via f p)).set p o').set k .dead).set m .dead)) w w' := by
    intro b hb hlt
    refine ⟨?_, hw b hlt (hb p g o hg ho hlv)⟩
    intro i x y hx hy hny hmem
    obtain ⟨hik, him, hy'⟩ := oset hy hny.ne
    rcases gset hx with ⟨rfl, rfl⟩ | ⟨hi, hx'⟩
    · rcases (hbl b hmem).1 with h1 | h1 | h1 | h1
      · exact hb i g o hg ho hlv h1
      · exact hb k gk ok hgk hok hlk h1
      · exact hb m gm om hgm hom hlm h1
      · omega
    · rcases hy' with ⟨rfl, rfl⟩ | ⟨_, z, hz, rfl⟩
      · exact hi rfl
      · exact hb i x z hx' hz (AO.via_live.1 hny) hmem
  refine ⟨Nat.le_trans h.hb hsz, by simp [h.hl], h.hs, fun i => by rw [Env.lk_mp _ hf]; exact hrv kp (h.he i), ?_, ?_, ?_⟩
  · intro i x y hx hy
    by_cases hyd : y = .dead
    · subst hyd; trivial
    · obtain ⟨hik, him, hy'⟩ := oset hy hyd
      rcases gset hx with ⟨rfl, rfl⟩ | ⟨hi, hx'⟩
      · rcases hy' with ⟨_, rfl⟩ | ⟨hi, _⟩
        · exact hro kp
        · exact absurd rfl hi
      · rcases hy' with ⟨rfl, rfl⟩ | ⟨_, z, hz, rfl⟩
        · exact absurd rfl hi
        · have hz' := h.ho i x z hx' hz
          have same : z ≠ .dead → ∀ b, b ∈ x.bl → w'.heap[b]? = w.heap[b]? := fun hn b hb =>
            hw b (h.hn i x z hx' hz hn b hb).2 (h.hd i p x g z o hi hx' hg hz ho hn hnd b hb)
          cases z with
          | ob q => exact q.up (fun b hb => same (by simp) b hb) hz'
          | bx T avs =>
            obtain ⟨cs, h1, h2, h3, h4, h5, h6, h7⟩ := hz'
            exact ⟨cs, by rw [same (by simp) x.b (by simp [h3])]; exact h1, h2, h3, h4, by simpa using h5, h6, fun j => by rw [getD_map_f _ hf]; exact hrv kp (h7 j)⟩
          | keep n K =>
            obtain ⟨h1, h2, h3⟩ := hz'
            have hs : ∀ b, b ∈ x.bl → w'.heap[b]? = K.snap b := fun b hb => by rw [same (by simp) b hb]; exact h1 b hb
            simp only [AO.via]
            split
            · exact ⟨hs, rfl, fun i x hx => by simp at hx⟩
            · refine ⟨hs, h2, fun i y hy => ?_⟩
              have := (List.getElem?_eq_some_iff.1 hy).1
              rw [List.getElem?_set, if_neg (by omega)]
              exact h3 i y hy
          | dead => trivial
          | sli e xs =>
            obtain ⟨h1, h2, h3⟩ := hz'
            exact ⟨ownsRow_of_block h1 fun b hb => same (by simp) b (h3.mem hb), h2, h3⟩
          | slr e avs =>
            obtain ⟨vs, h1, h2, h3, h4⟩ := hz'
            exact ⟨vs, ownsRow_of_block h1 fun b hb => same (by simp) b (h4.mem hb), by simpa using h2, fun j => by rw [getD_map_f _ hf]; exact hrv kp (h3 j), h4⟩
          | sls e e2 xss =>
            obtain ⟨vs, bs, mb, h1, h2, h3, h4, h5, h6, h7, h8⟩ := hz'
            refine ⟨vs, bs, mb, ownsRow_of_block h1 fun b hb => same (by simp) b ?_, h2, h3, h4, fun i u hu => ?_, h6, h7, h8⟩
            · rw [h7]
              rcases h6 with ⟨h6, _⟩ | ⟨h6, h6'⟩
              · rw [h6] at hb; cases hb
              · rw [h6] at hb; cases hb; simp [h6']
            · obtain ⟨r1, r2, r3⟩ := h5 i u hu
              refine ⟨ownsRow_of_block r1 fun b hb => same (by simp) b ?_, r2, r3⟩
              rw [h7]
              refine List.mem_append.2 (.inr (List.mem_flatten.2 ⟨bs.getD i [], ?_, by rw [← r3, hb]; simp⟩))
              have hi : i < bs.length := by
                have := (List.getElem?_eq_some_iff.1 hu).1
                omega
              rw [List.getD_eq_getElem?_getD, List.getElem?_eq_getElem hi]
              simp
  · -- what p has now is apart from all others
    have apart : ∀ {j : Nat} {x : Gh} {z : AO}, j ≠ p → j ≠ k → j ≠ m → gs[j]? = some x → os[j]? = some z → z ≠ .dead → ∀ b, b ∈ g'.bl → b ∉ x.bl := by
      intro j x z hjp hjk hjm hx hz hzn b hb hb2
      rcases (hbl b hb).1 with h1 | h1 | h1 | h1
      · exact h.hd p j g x o z (fun e => hjp e.symm) hg hx ho hz hnd hzn b h1 hb2
      · exact h.hd k j gk x ok z (fun e => hjk e.symm) hgk hx hok hz hnk hzn b h1 hb2
      · exact h.hd m j gm x om z (fun e => hjm e.symm) hgm hx hom hz hnm hzn b h1 hb2
      · have := (h.hn j x z hx hz hzn b hb2).2; omega
    intro i j g1 g2 o1 o2 hij hg1 hg2 ho1 ho2 hn1 hn2 b hb1 hb2
    obtain ⟨hik, him, ho1'⟩ := oset ho1 hn1
    obtain ⟨hjk, hjm, ho2'⟩ := oset ho2 hn2
    rcases gset hg1 with ⟨rfl, rfl⟩ | ⟨hi, hg1'⟩
    · rcases gset hg2 with ⟨rfl, _⟩ | ⟨hj, hg2'⟩
      · exact hij rfl
      · rcases ho2' with ⟨rfl, _⟩ | ⟨_, z, hz, rfl⟩
        · exact hij rfl
        · exact apart hj hjk hjm hg2' hz (fun e => hn2 (AO.via_dead.2 e)) b hb1 hb2
    · rcases ho1' with ⟨rfl, _⟩ | ⟨_, z, hz, rfl⟩
      · exact absurd rfl hi
      · have hzn : z ≠ .dead := fun e => hn1 (AO.via_dead.2 e)
        rcases gset hg2 with ⟨rfl, rfl⟩ | ⟨hj, hg2'⟩
        · exact apart hi hik him hg1' hz hzn b hb2 hb1
        · rcases ho2' with ⟨rfl, _⟩ | ⟨_, y, hy, rfl⟩
          · exact absurd rfl hj
          · exact h.hd i j g1 g2 z y hij hg1' hg2' hz hy hzn (fun e => hn2 (AO.via_dead.2 e)) b hb1 hb2
  · intro i x y hx hy hny b hb
    obtain ⟨hik, him, hy'⟩ := oset hy hny
    rcases gset hx with ⟨rfl, rfl⟩ | ⟨hi, hx'⟩
    · have := hbl b hb
      refine ⟨?_, this.2⟩
      rcases this.1 with h1 | h1 | h1 | h1
      · exact (h.hn i g o hg ho hnd b h1).1
      · exact (h.hn k gk ok hgk hok hnk b h1).1
      · exact (h.hn m gm om hgm hom hnm b h1).1
      · exact Nat.le_trans h.hb h1
    · rcases hy' with ⟨rfl, rfl⟩ | ⟨_, z, hz, rfl⟩
      · exact absurd rfl hi
      · have := h.hn i x z hx' hz (fun e => hny (AO.via_dead.2 e)) b hb
        exact ⟨this.1, Nat.lt_of_lt_of_le this.2 hsz⟩


theorem nodup_append3 {a b c : List Nat} (ha : a.Nodup) (hb : b.Nodup) (hc : c.Nodup) (hab : ∀ x ∈ a, x ∉ b) (hac : ∀ x ∈ a, x ∉ c) (hbc : ∀ x ∈ b, x ∉ c) : (a ++ (b ++ c)).Nodup := by
  rw [List.nodup_append]
  refine ⟨ha, ?_, ?_⟩
  · rw [List.nodup_append]
    exact ⟨hb, hc, fun x hx y hy e => hbc x hx (e ▸ hy)⟩
  · intro x hx y hy e
    subst e
    rcases List.mem_append.1 hy with hy | hy
    · exact hab x hx hy
    · exact hac x hx hy

/-- A state may be seen as another one. -/
def Turns (env : Env) (os : List AO) (env' : Env) (os' : List AO) : Prop := ∀ base w gs tm, Rel base w gs env os tm → ∃ gs', Rel base w gs' env' os' tm
theorem Turns.refl {env : Env} {os : List AO} : Turns env os env os := fun _ _ gs _ h => ⟨gs, h⟩
theorem Turns.merge {env : Env} {os : List AO} {p k : Nat} {e e2 e3 : TypeId} {xss : List (List Int)} {idx : List Nat} (hs : os[p]? = some (.slr e (idx.map (AV.orow k)))) (hk : os[k]? = some (.sls e3 e2 xss)) (hnd : idx.Nodup) :
    Turns env os (env.mp (AV.noRow p)) (((os.map (AO.via (AV.noRow p) p)).set p (.sls e e2 (idx.map fun i => xss.getD i []))).set k .dead) := fun _ _ _ _ h => h.merge hs hk hnd
end Go.Proofs.Ytcolpjpppdmanaa
/-
  Own slices of rows put together: parts of own slices of rows, appends of them; a cell of a row is written; functions that are handed an own slice of rows and hand one back in its place. No condition.
-/
namespace Go.Proofs.Ytcolpjpppdmanaa
open Go Go.RowKit

section
variable {P : Program} {env : Env} {os : List AO} {d : Option Tmp} {ty : TypeId} {pos : String} {af : Array Edge} {g : Option (Nat × Bool)} {wl : Bool}

theorem sls_slice {base : Nat} {w : World} {ok : Nat → Prop} {gs : List Gh} {gh : Gh} {e e2 : TypeId} {xss : List (List Int)} (h : RO base w ok gs gh (.sls e e2 xss)) : ∃ a cap, gh.v = .slice a xss.length cap ∧ xss.length ≤ cap ∧ cap ≤ maxLen ∧
    (0 < xss.length → a = some ⟨gh.b, 0, none⟩) ∧ gh.rows.length = xss.length ∧ (∀ (i : Nat) u, gh.rows[i]? = some u → w.cell? ⟨gh.b, i, none⟩ = some u ∧ ∃ ua n c, u = .slice ua n c) := by
  obtain ⟨vs, bs, mb, a1, a2, a3, a4, a5, a6, a7, a8⟩ := h
  obtain ⟨a, cap, q1, q2, q3, q4⟩ := RowAt.of_owns a1
  rw [a2] at q1 q2 q4
  have hblk : ∀ b off, a = some ⟨b, off, none⟩ → 0 < xss.length → b = gh.b ∧ off = 0 := by
    intro b off ha hp
    obtain ⟨b', cap', r1, r2, _, _⟩ := own_slice a1 (i := 0) (by omega)
    rw [q1, ha] at r1
    simp only [Value.slice.injEq, Option.some.injEq, Addr.mk.injEq, and_true] at r1
    obtain ⟨⟨rfl, rfl⟩, _⟩ := r1
    rcases a6 with ⟨s1, _⟩ | ⟨s1, _⟩
    · rw [s1] at r2; cases r2
    · rw [s1] at r2; cases r2; exact ⟨rfl, rfl⟩
  refine ⟨a, cap, q1, q2, q3, fun hp => ?_, by rw [a4, a2], fun i u hu => ?_⟩
  · obtain ⟨b, off, r1, _, _⟩ := q4 hp
    obtain ⟨rfl, rfl⟩ := hblk b off r1 hp
    exact r1
  · rw [a4] at hu
    have hi := (List.getElem?_eq_some_iff.1 hu).1
    obtain ⟨b, off, r1, _, r3⟩ := q4 (by omega)
    obtain ⟨rfl, rfl⟩ := hblk b off r1 (by omega)
    have := r3 i u hu
    rw [Nat.zero_add] at this
    obtain ⟨ua, uc, eu⟩ := ownsRow_slice (a5 i u hu).1
    exact ⟨this, ua, _, uc, eu⟩

/-! ### Sources of appends -/
/-- The slice value v reads as cells of these abstract values. -/
def SrcAt (w : World) (ok : Nat → Prop) (gs : List Gh) (v : Value) (new : List AV) : Prop :=
  ∃ (pa : Option Addr) (cap : Nat) (news : List Value), v = .slice pa new.length cap ∧ news.length = new.length ∧ (0 < new.length → ∃ a, pa = some a ∧ ∀ (j : Nat) u, news[j]? = some u → w.cell? (a.add j) = some u) ∧ (∀ u ∈ news, u.oneCell' = true) ∧
    ∀ i : Nat, RV w ok gs (news.getD i undef) (new.getD i .any)
def Src (env : Env) (os : List AO) (y : Operand) (new : List AV) : Prop := ∀ base w gs tm, Rel base w gs env os tm → SrcAt w (okOf gs os) gs (Act.eval ⟨tm, []⟩ y) new

set_option maxHeartbeats 1000000 in
theorem l_append_src {t e : TypeId} {bytes : Nat} {z0 : Value} [ht : TSlice P t e] [he : TElem P e z0 bytes] {x y : Operand} {h : Nat} {e' : TypeId} {avs new : List AV} (hx : AV.ev env x = .own h) (hs : os[h]? = some (.slr e' avs)) (hee : e' = e)
    (hy : Src env os y new) (hb : (avs.length + new.length) * bytes ≤ 140737488355328) (hk1 : avs.map (AV.kill h) = avs) (hk2 : new.map (AV.kill h) = new) (hzc : z0.cells.size = 1 := by rfl) :
    LOp P ⟨d, .call { callee := .builtin .append, args := #[x, y], argTypes := #[t, t] }, ty, pos, af, g⟩ env os (.own h) (env.mp (AV.kill h)) ((os.map (AO.kill h)).set h (.slr e (avs ++ new))) := by
  subst hee
  intro base w gs tm hr
  have hxv := hr.ev x
  rw [hx] at hxv
  obtain ⟨pa, cap, news, hu, hnl, hcells, hone, hrvn⟩ := hy base w gs tm hr
  generalize hv : Act.eval ⟨tm, []⟩ x = v at hxv
  cases hxv with
  | @own _ gh hg =>
    obtain ⟨vs, a1, a2, a3, a4⟩ := hr.ho _ _ _ hg hs
    obtain ⟨ii, hi, hsz, hz, hby⟩ := he.info
    have hbase : base ≤ w.heap.size := hr.hb
    have key : ∃ v' w', (Builtin.append_ #[t, t] ty #[gh.v, .slice pa new.length cap]).run P w = .ok v' w' ∧ w'.ownsRow base e' 1 v' (vs.length + new.length) (vs ++ news) ∧ w.grownBy w' gh.v.ownBlock ∧
        (v'.ownBlock = gh.v.ownBlock ∨ v'.ownBlock = some w.heap.size) := by
      by_cases h0 : new.length = 0
      · have e0 : news = [] := List.length_eq_zero_iff.1 (by omega)
        rw [h0, e0]
        exact ⟨gh.v, w, run_append_none ht.und hi a1 pa cap, by simpa using a1, ⟨rfl, rfl, rfl, Nat.le_refl _, fun _ _ _ => rfl⟩, .inl rfl⟩
      · obtain ⟨a, rfl, hc⟩ := hcells (by omega)
        have h64 : vs.length + new.length ≤ maxLen := by
          have hb0 := he.pos
          have : avs.length + new.length ≤ (avs.length + new.length) * bytes := Nat.le_mul_of_pos_right _ hb0
          simp only [maxLen]; omega
        obtain ⟨v', w', r1, r2, r3, _, r5⟩ := run_append_own_at (P := P) w base t ty e' ii _ 1 bytes ht.und hi hz hsz hby hzc (by omega) gh.v vs.length vs a1 a new.length cap news (by omega) hc hone h64 (by rw [a2]; exact hb) hbase
        exact ⟨v', w', r1, r2, r3, r5⟩
    obtain ⟨v', w', r1, r2, r3, r5⟩ := key
    have hgb : ∀ b, b ∉ gh.bl → some b ≠ gh.v.ownBlock := fun b hb e => hb (a4.mem e.symm)
    let g' : Gh := ⟨v', v'.ownBlock.getD 0, v'.ownBlock.toList, gh.rows⟩
    have hgb' : GB g' := by
      show (v'.ownBlock = none ∧ v'.ownBlock.toList = []) ∨ (v'.ownBlock = some (v'.ownBlock.getD 0) ∧ v'.ownBlock.toList = [v'.ownBlock.getD 0])
      cases v'.ownBlock with
      | none => exact .inl ⟨rfl, rfl⟩
      | some b => exact .inr ⟨rfl, rfl⟩
    have hlt : ∀ b, v'.ownBlock = some b → b < w'.heap.size := by
      intro b hb
      rcases r2.2 with ⟨e1, _⟩ | ⟨gg, cc, cur, e1, _, hgg, _⟩
      · rw [e1] at hb; cases hb
      · rw [e1] at hb; cases hb; exact (Array.getElem?_eq_some_iff.1 hgg).1
    refine ⟨v', w', gs.set h g', .inl ?_, hr.turn hg hs trivial g' (.slr e' (avs ++ new)) (fun b hb hn => r3.block b hb (hgb b hn)) r3.size ?_ (fun i v hv => hv) ?_, ?_, ?_⟩
    · simp only [execOp, resolve, invoke, builtin, Sem.run_bind, Sem.run_pure, Result.andThen_ok, List.map_toArray, List.map_cons, List.map_nil, hv, hu, r1]
    · intro b hb
      have hb' : v'.ownBlock = some b := by
        have hb2 : b ∈ v'.ownBlock.toList := hb
        cases hvb : v'.ownBlock with
        | none => rw [hvb] at hb2; simp at hb2
        | some c => rw [hvb] at hb2; simp at hb2; rw [hb2]
      refine ⟨?_, hlt b hb'⟩
      rcases r5 with r5 | r5
      · left; rw [hb'] at r5; exact a4.mem r5.symm
      · right; rw [hb'] at r5; cases r5; exact Nat.le_refl _
    · intro kp tn
      refine ⟨vs ++ news, by rw [List.length_append, hnl]; exact r2, by simp [a2, hnl], fun j => ?_, hgb'⟩
      by_cases hj : j < vs.length
      · have e1 : (vs ++ news).getD j undef = vs.getD j undef := by simp only [List.getD_eq_getElem?_getD]; rw [List.getElem?_append_left hj]
        have e2 : (avs ++ new).getD j .any = (avs.getD j .any).kill h := by
          rw [← getD_map_kill, hk1]
          simp only [List.getD_eq_getElem?_getD]; rw [List.getElem?_append_left (by omega)]
        rw [e1, e2]
        exact (a3 j).kill kp tn
      · have e1 : (vs ++ news).getD j undef = news.getD (j - vs.length) undef := by simp only [List.getD_eq_getElem?_getD]; rw [List.getElem?_append_right (by omega)]
        have e2 : (avs ++ new).getD j .any = (new.getD (j - vs.length) .any).kill h := by
          rw [← getD_map_kill, hk2]
          simp only [List.getD_eq_getElem?_getD]; rw [List.getElem?_append_right (by omega), a2]
        rw [e1, e2]
        exact (hrvn _).kill kp tn
    · have hk : h < gs.length := (List.getElem?_eq_some_iff.1 hg).1
      exact RV.own (g := g') (by simp [hk])
    · refine ⟨r3.os, r3.tape, r3.output, r3.size, fun b hb => r3.block b (by have := hr.hb; omega) (hgb b fun hm => ?_)⟩
      have := (hr.hn _ _ _ hg hs (by simp) b hm).1
      omega

end

/-! ### Functions that hand back an own slice of rows in the place of the one that they were handed -/
/-- The function is handed the own slice of rows 'xss' (handle 0) and hands back one made of its memory and new memory. All else is as it was. -/
def AFnT (P : Program) (f : FuncId) (args : List AV) (T T2 : TypeId) (xss : List (List Int)) (Q : List (List Int) → Prop) : Prop :=
  HasBody P f ∧ ∀ base w g vs, base ≤ w.heap.size → Objs base w [g] [.sls T T2 xss] → vs.size = args.length → (∀ i : Nat, RV w (okOf [g] [.sls T T2 xss]) [g] (vs.getD i undef) (args.getD i .any)) →
    Calls P f vs w fun e w' => ∃ g' xss', e = .returned g'.v ∧ Q xss' ∧ RO base w' (fun _ => True) [g'] g' (.sls T T2 xss') ∧ (∀ b, b ∈ g'.bl → (b ∈ g.bl ∨ w.heap.size ≤ b) ∧ b < w'.heap.size) ∧ Below base w w' ∧ ∀ b, b < w.heap.size → b ∉ g.bl → w'.heap[b]? = w.heap[b]?

theorem AFnT.of {P : Program} {f : FuncId} {fn : Func} {c : Code} {args args' : List AV} {T T2 : TypeId} {xss : List (List Int)} {Q : List (List Int) → Prop} {n : Nat} (hf : P.funcs[f]? = some fn) (hb : fn.body = some c) (hnm : (fn.name == "runtime.NumGoroutine") = false) (hn : fn.ntmps - args.length = n) (ha : args' = args.map (AV.sh 1))
    (h : ∀ K, AWp P c (fun _ _ => False) (fun _ _ _ => False) (fun env os => ∃ env2 os2 k xss', Turns env os env2 os2 ∧ ResIs P fn env2 os2 (.own k) ∧ os2[k]? = some (.sls T T2 xss') ∧ Q xss' ∧ os2[0]? = some (.keep 1 K)) (Env.start args' n) [.keep 1 K, .sls T T2 xss]) :
    AFnT P f args T T2 xss Q := by
  refine ⟨⟨fn, c, hf, hnm, hb⟩, fun base w g vs hbase hO hsz hvs => calls_of_wp hf hb ?_⟩
  rw [show fn.ntmps - vs.size = n by rw [hsz]; exact hn]
  let bl : List Nat := (List.range w.heap.size).filter fun b => decide (base ≤ b) && !g.bl.contains b
  let gk : Gh := ⟨undef, 0, bl, []⟩
  let K : Kp := ⟨fun b => w.heap[b]?, [gk]⟩
  have hbl : ∀ b, b ∈ bl ↔ b < w.heap.size ∧ base ≤ b ∧ b ∉ g.bl := by
    intro b
    simp only [bl, List.mem_filter, List.mem_range, Bool.and_eq_true, decide_eq_true_eq, Bool.not_eq_true', List.contains_eq_mem, decide_eq_false_iff_not]
  have gg : ∀ {i : Nat} {x : Gh}, [gk, g][i]? = some x → (i = 0 ∧ x = gk) ∨ (i = 1 ∧ x = g) := by
    intro i x hx
    match i with
    | 0 => simp at hx; exact .inl ⟨rfl, hx.symm⟩
    | 1 => simp at hx; exact .inr ⟨rfl, hx.symm⟩
    | i + 2 => simp at hx
  have go : ∀ {i : Nat} {x : AO}, [AO.keep 1 K, AO.sls T T2 xss][i]? = some x → (i = 0 ∧ x = .keep 1 K) ∨ (i = 1 ∧ x = .sls T T2 xss) := by
    intro i x hx
    match i with
    | 0 => simp at hx; exact .inl ⟨rfl, hx.symm⟩
    | 1 => simp at hx; exact .inr ⟨rfl, hx.symm⟩
    | i + 2 => simp at hx
  have hkeep : Keeps (okOf [g] [.sls T T2 xss]) (okOf [gk, g] [.keep 1 K, .sls T T2 xss]) w w := by
    intro b hbk _
    refine ⟨fun i x y hx hy hny hm => ?_, rfl⟩
    rcases gg hx with ⟨rfl, rfl⟩ | ⟨rfl, rfl⟩
    · rcases go hy with ⟨_, rfl⟩ | ⟨h0, _⟩
      · exact hny.elim
      · omega
    · rcases go hy with ⟨h0, _⟩ | ⟨_, rfl⟩
      · omega
      · exact hbk 0 _ _ rfl rfl hny hm
  have hro0 := hO.ho 0 g _ rfl rfl
  have hn0 := hO.hn 0 g rfl
  have hrel : Rel base w [gk, g] (Env.start args' n) [.keep 1 K, .sls T T2 xss] (vs ++ Array.replicate n undef) := by
    refine ⟨hbase, rfl, by simp [Env.start, hsz, ha], fun i => start_rv args' n vs (fun i => ?_) i, ?_, ?_, ?_⟩
    · rw [ha, getD_map_any _ rfl]
      have := (hvs i).sh (gs0 := [gk]) hkeep
      exact this
    · intro i x y hx hy
      rcases gg hx with ⟨rfl, rfl⟩ | ⟨rfl, rfl⟩
      · rcases go hy with ⟨_, rfl⟩ | ⟨h0, _⟩
        · exact ⟨fun b _ => rfl, rfl, fun i x h => by
            match i with
            | 0 => exact h
            | i + 1 => simp [K] at h⟩
        · omega
      · rcases go hy with ⟨h0, _⟩ | ⟨_, rfl⟩
        · omega
        · exact AO.plain.ro trivial hro0
    · intro i j g1 g2 o1 o2 hij hg1 hg2 ho1 ho2 _ _ b hb1 hb2
      rcases gg hg1 with ⟨rfl, rfl⟩ | ⟨rfl, rfl⟩
      · rcases gg hg2 with ⟨rfl, rfl⟩ | ⟨rfl, rfl⟩
        · exact hij rfl
        · exact ((hbl b).1 hb1).2.2 hb2
      · rcases gg hg2 with ⟨rfl, rfl⟩ | ⟨rfl, rfl⟩
        · exact ((hbl b).1 hb2).2.2 hb1
        · exact hij rfl
    · intro i x y hx hy _ b hb
      rcases gg hx with ⟨rfl, rfl⟩ | ⟨rfl, rfl⟩
      · exact ⟨((hbl b).1 hb).2.1, ((hbl b).1 hb).1⟩
      · exact hn0 b hb
  refine wp_mono (h K base w w _ _ hrel (Below.refl _ _)) ?_
  intro e a w' hq
  cases e with
  | normal => obtain ⟨_, _, _, _, _, _, hx⟩ := hq; exact hx.elim
  | exit j => obtain ⟨_, _, _, _, _, _, hx⟩ := hq; exact hx.elim
  | ret =>
    obtain ⟨env, os1, gs1, hr1, hd, hbel, env2, os2, k, xss', ht, hres, hok, hQ, hkp⟩ := hq
    obtain ⟨gs2, hr⟩ := ht base w' gs1 _ hr1
    obtain ⟨v, hu, hv⟩ := hres _ _ _ _ hr
    cases hv with
    | @own _ g' hg' =>
      have hlt0 : 0 < gs2.length := by rw [hr.hl]; exact (List.getElem?_eq_some_iff.1 hkp).1
      obtain ⟨g0, hg0⟩ : ∃ g0, gs2[0]? = some g0 := ⟨_, List.getElem?_eq_getElem hlt0⟩
      obtain ⟨r1, r2, r3⟩ := hr.ho _ _ _ hg0 hkp
      have egk : g0 = gk := by
        have := r3 0 gk rfl
        rw [hg0] at this
        exact Option.some.inj this
      subst egk
      have hk0 : k ≠ 0 := fun e => by subst e; rw [hkp] at hok; cases hok
      refine ⟨hd, g'.v, hu, g', xss', rfl, hQ, AO.plain.ro trivial (hr.ho _ _ _ hg' hok), fun b hb => ?_, hbel, fun b hb hnot => ?_⟩
      · have hbn := hr.hn _ _ _ hg' hok (by simp) b hb
        refine ⟨?_, hbn.2⟩
        by_cases hbw : b < w.heap.size
        · left
          apply Classical.byContradiction
          intro hnb
          exact hr.hd k 0 g' _ _ _ hk0 hg' hg0 hok hkp (by simp) (by simp) b hb ((hbl b).2 ⟨hbw, hbn.1, hnb⟩)
        · right; omega
      · rcases Nat.lt_or_ge b base with h6 | h6
        · exact hbel.block b h6
        · exact r1 b ((hbl b).2 ⟨hb, h6, hnot⟩)
  | goto l => exact (hq : False).elim
  | panic ch => exact (hq : False).elim
  | outgrown => exact (hq : False).elim
theorem AFnT.start {P : Program} {f : FuncId} {fn : Func} {nt : Nat} {args : List AV} {T T2 : TypeId} {xss : List (List Int)} {Q : List (List Int) → Prop} (hf : P.funcs[f]? = some fn) (hnt : fn.ntmps = nt) {c : Code} (hb : fn.body = some c) (hnm : (fn.name == "runtime.NumGoroutine") = false)
    (h : ∀ K, AWp P c (fun _ _ => False) (fun _ _ _ => False) (fun env os => ∃ env2 os2 k xss', Turns env os env2 os2 ∧ ResIs P fn env2 os2 (.own k) ∧ os2[k]? = some (.sls T T2 xss') ∧ Q xss' ∧ os2[0]? = some (.keep 1 K)) (Env.start (args.map (AV.sh 1)) (nt - args.length)) [.keep 1 K, .sls T T2 xss]) :
    AFnT P f args T T2 xss Q := AFnT.of hf hb hnm (by rw [hnt]) rfl h

/-- All that hangs on handle 'h' is forgotten. -/
def AV.lose1 (h : Nat) : AV → AV
  | .own k => if k = h then .any else .own k
  | .optr k i => if k = h then .any else .optr k i
  | .osub k a b => if k = h then .any else .osub k a b
  | .orow k i => if k = h then .any else .orow k i
  | .orptr k i j => if k = h then .any else .orptr k i j
  | .agg _ => .any
  | .tup _ => .any
  | a => a
def AV.lose (h : Nat) : AV → AV
  | .own k => if k = h then .any else .own k
  | .optr k i => if k = h then .any else .optr k i
  | .osub k a b => if k = h then .any else .osub k a b
  | .orow k i => if k = h then .any else .orow k i
  | .orptr k i j => if k = h then .any else .orptr k i j
  | .agg l => .agg (l.map (AV.lose1 h))
  | .tup l => .tup (l.map (AV.lose1 h))
  | a => a
section
variable {w w' : World} {ok ok' : Nat → Prop} {gs : List Gh} {h : Nat} {g' : Gh}
theorem getD_map_lose1 (l : List AV) (i : Nat) : (l.map (AV.lose1 h)).getD i .any = (l.getD i .any).lose1 h := by
  simp only [List.getD_eq_getElem?_getD, List.getElem?_map]
  cases l[i]? <;> rfl
theorem RV.lose1 (k : Keeps ok ok' w w') {v : Value} {a : AV} (hv : RV w ok gs v a) : RV w' ok' (gs.set h g') v (a.lose1 h) := by
  have hg : ∀ {j : Nat} {x : Gh}, j ≠ h → gs[j]? = some x → (gs.set h g')[j]? = some x := fun hj hx => by
    rw [List.getElem?_set, if_neg (fun e => hj e.symm)]; exact hx
  cases hv with
  | any v => exact .any v
  | val v => exact .val v
  | ints h => exact .ints (h.mono k)
  | intss h => exact .intss (h.mono k)
  | @ro v r h => exact .ro (r.up k h)
  | iptr h h1 h2 => exact .iptr (h.mono k) h1 h2
  | iiptr h h1 h2 => exact .iiptr (h.mono k) h1 h2
  | own h1 =>
    simp only [AV.lose1]; split
    · exact .any _
    · exact .own (hg ‹_› h1)
  | optr h1 =>
    simp only [AV.lose1]; split
    · exact .any _
    · exact .optr (hg ‹_› h1)
  | osub h1 h2 h3 h4 =>
    simp only [AV.lose1]; split
    · exact .any _
    · exact .osub (hg ‹_› h1) h2 h3 h4
  | orow h1 h2 =>
    simp only [AV.lose1]; split
    · exact .any _
    · exact .orow (hg ‹_› h1) h2
  | orptr h1 h2 =>
    simp only [AV.lose1]; split
    · exact .any _
    · exact .orptr (hg ‹_› h1) h2
  | agg _ _ _ => exact .any _
  | tup _ _ => exact .any _
theorem RV.lose (k : Keeps ok ok' w w') {v : Value} {a : AV} (hv : RV w ok gs v a) : RV w' ok' (gs.set h g') v (a.lose h) := by
  have hg : ∀ {j : Nat} {x : Gh}, j ≠ h → gs[j]? = some x → (gs.set h g')[j]? = some x := fun hj hx => by
    rw [List.getElem?_set, if_neg (fun e => hj e.symm)]; exact hx
  cases hv with
  | any v => exact .any v
  | val v => exact .val v
  | ints h => exact .ints (h.mono k)
  | intss h => exact .intss (h.mono k)
  | @ro v r h => exact .ro (r.up k h)
  | iptr h h1 h2 => exact .iptr (h.mono k) h1 h2
  | iiptr h h1 h2 => exact .iiptr (h.mono k) h1 h2
  | own h1 =>
    simp only [AV.lose]; split
    · exact .any _
    · exact .own (hg ‹_› h1)
  | optr h1 =>
    simp only [AV.lose]; split
    · exact .any _
    · exact .optr (hg ‹_› h1)
  | osub h1 h2 h3 h4 =>
    simp only [AV.lose]; split
    · exact .any _
    · exact .osub (hg ‹_› h1) h2 h3 h4
  | orow h1 h2 =>
    simp only [AV.lose]; split
    · exact .any _
    · exact .orow (hg ‹_› h1) h2
  | orptr h1 h2 =>
    simp only [AV.lose]; split
    · exact .any _
    · exact .orptr (hg ‹_› h1) h2
  | agg h1 h3 h2 => exact .agg (by simpa using h1) h3 fun i => by rw [getD_map_lose1]; exact (h2 i).lose1 k
  | tup h1 h2 => exact .tup (by simpa using h1) fun i => by rw [getD_map_lose1]; exact (h2 i).lose1 k
end

section
variable {P : Program} {env : Env} {os : List AO} {d : Option Tmp} {ty : TypeId} {pos : String} {af : Array Edge} {g : Option (Nat × Bool)}
theorem c_callt {f : FuncId} {args : List AV} {T T2 : TypeId} {xss : List (List Int)} {Q : List (List Int) → Prop} (hc : AFnT P f args T T2 xss Q) {xs : List Operand} {ats : Array TypeId} {h : Nat} (hs : os[h]? = some (.sls T T2 xss)) (hi : ImmUs os [h] (xs.map (AV.ev env)) args) :
    COp P ⟨d, .call { callee := .value (.func f), args := xs.toArray, argTypes := ats }, ty, pos, af, g⟩ env os (fun r e o => ∃ xss', Q xss' ∧ r = .own h ∧ e = env.mp (AV.lose h) ∧ o = (((os ++ [AO.sli T2 []]).map (AO.via (AV.lose h) h)).set h (.sls T T2 xss')).set os.length .dead) := by
  intro base w gs tm hr
  have hh : Handed os [h] [.sls T T2 xss] := handed1 hs True.intro
  have hg := hi.get
  have hlt := hh.lt h (by simp)
  have hgl : h < gs.length := by rw [hr.hl]; exact hlt
  obtain ⟨gh, hgh⟩ : ∃ x, gs[h]? = some x := ⟨_, List.getElem?_eq_getElem hgl⟩
  have esel : selG gs [h] = [gh] := by simp [selG, hgh]
  have hobj := hr.objs hh
  rw [esel] at hobj
  refine ⟨f, _, run_call hc.1 xs ats _ rfl w, (hc.2 base w gh _ hr.hb hobj (by simpa using hg.1) fun i => ?_).mono ?_⟩
  · have h1 := hg.2 i
    have e1 : (xs.map (AV.ev env)).getD i .any = match xs[i]? with | some x => AV.ev env x | none => .any := by
      simp only [List.getD_eq_getElem?_getD, List.getElem?_map]; cases xs[i]? <;> rfl
    have e2 : (xs.map (Act.eval ⟨tm, []⟩)).toArray.getD i undef = match xs[i]? with | some x => Act.eval ⟨tm, []⟩ x | none => undef := by
      simp only [Array.getD_eq_getD_getElem?, List.getElem?_toArray, List.getElem?_map]; cases xs[i]? <;> rfl
    rw [e1] at h1
    rw [e2, ← esel]
    cases hx : xs[i]? with
    | some x => rw [hx] at h1; exact h1.rv hr hh (hr.ev x)
    | none => rw [hx] at h1; exact h1.rv hr hh (.any _)
  · rintro e w' ⟨g', xss', rfl, hq, hro, hbl, hbel, hfr⟩
    let gd : Gh := ⟨.slice none 0 0, 0, [], []⟩
    have hr1 : Rel base w (gs ++ [gd]) env (os ++ [.sli T2 []]) tm := hr.new (Below.refl _ _) (.sli T2 []) gd (fun _ b hb => by simp [gd] at hb) ⟨World.ownsRow_nil w base T2 1, fun x hx => by simp at hx, .inl ⟨rfl, rfl⟩⟩
    have hg1 : (gs ++ [gd])[h]? = some gh := by rw [List.getElem?_append_left hgl]; exact hgh
    have hs1 : (os ++ [AO.sli T2 []])[h]? = some (.sls T T2 xss) := by rw [List.getElem?_append_left hlt]; exact hs
    have hgd : (gs ++ [gd])[os.length]? = some gd := by rw [← hr.hl]; simp
    have hod : (os ++ [AO.sli T2 []])[os.length]? = some (.sli T2 []) := by simp
    refine ⟨g'.v, .own h, _, _, (gs ++ [gd]).set h g', rfl, ⟨xss', hq, rfl, rfl, rfl⟩, hr1.absorb hg1 hs1 trivial hgd hod trivial (by omega) g' _ (AV.lose h) rfl hfr hbel.size ?_ (fun kp hv => hv.lose kp) (fun _ => AO.plain.ro trivial hro), .own (by rw [List.getElem?_set_self (by rw [List.length_append]; omega)]), hbel⟩
    intro b hb
    have := hbl b hb
    refine ⟨?_, this.2⟩
    rcases this.1 with h1 | h1
    · exact .inl h1
    · exact .inr (.inr h1)
end

section
variable {P : Program} {env : Env} {os : List AO} {d : Tmp} {ty : TypeId} {pos : String} {af : Array Edge} {g : Option (Nat × Bool)} {l rest : List Oper} {K : APost} {q : Md}
theorem w_callt {f : FuncId} {args : List AV} {T T2 : TypeId} {xss : List (List Int)} {Q : List (List Int) → Prop} {xs : List Operand} {ats : Array TypeId} (h : Nat) {m : Nat} (hc : AFnT P f args T T2 xss Q) (hs : os[h]? = some (.sls T T2 xss)) (hm : os.length = m) (hi : ImmUs os [h] (xs.map (AV.ev env)) args)
    (h' : ∀ xss', Q xss' → AOps P .seq l rest K (Env.up (env.mp (AV.lose h)) d (.own h)) ((((os ++ [AO.sli T2 []]).map (AO.via (AV.lose h) h)).set h (.sls T T2 xss')).set m .dead)) :
    AOps P .seq l (⟨some d, .call { callee := .value (.func f), args := xs.toArray, argTypes := ats }, ty, pos, af, none⟩ :: rest) K env os :=
  AOps.ca (c_callt hc hs hi) fun r e o ⟨xss', h1, h2, h3, h4⟩ => by subst h2; subst h3; subst h4; subst hm; exact h' xss' h1
theorem w_bs3 {t e : TypeId} {bytes : Nat} [TSlice P t e] [TElem P e (.int .i64 0) bytes] {x y z : Operand} {a b c : Int} {m : Nat} (hx : evo env x = some (.i a)) (hy : evo env y = some (.i b)) (hz : evo env z = some (.i c)) (hm : os.length = m) (ha : inI a) (hb : inI b) (hc : inI c)
    (h' : AOps P .seq l rest K (env.up d (.own m)) (os ++ [.sli e [a, b, c]])) : AOps P .seq l (⟨some d, .buildSlice t 3 #[(0, x), (1, y), (2, z)], ty, pos, af, none⟩ :: rest) K env os := AOps.lo (hm ▸ l_bs3 (ev_of hx) (ev_of hy) (ev_of hz) ha hb hc) h'
end
end Go.Proofs.Ytcolpjpppdmanaa
/-
  Own slices of truth values; own rows that are only read from here on. No condition.
-/
namespace Go.Proofs.Ytcolpjpppdmanaa
open Go Go.RowKit

/-- Cells that are truth values. -/
def bL (bs : List Bool) : List AV := bs.map AV.b
theorem bL_len (bs : List Bool) : (bL bs).length = bs.length := List.length_map _
theorem bL_set (bs : List Bool) (i : Nat) (b : Bool) : bL (bs.set i b) = (bL bs).set i (.b b) := by unfold bL; rw [List.map_set]
theorem bL_kill (h : Nat) (bs : List Bool) : (bL bs).map (AV.kill h) = bL bs := by unfold bL; rw [List.map_map]; rfl
theorem bL_lim (n : Nat) (bs : List Bool) : (bL bs).map (AV.lim n) = bL bs := by unfold bL; rw [List.map_map]; rfl
theorem bL_ren (s : List Nat) (bs : List Bool) : (bL bs).map (AV.ren s) = bL bs := by unfold bL; rw [List.map_map]; rfl
theorem bL_get {bs : List Bool} {i : Nat} (h : i < bs.length) : (bL bs)[i]? = some (.b (bs.getD i false)) := by
  unfold bL; rw [List.getElem?_map, List.getD_eq_getElem?_getD, List.getElem?_eq_getElem h]; rfl

section
variable {P : Program} {env : Env} {os : List AO} {d : Option Tmp} {ty : TypeId} {pos : String} {af : Array Edge} {g : Option (Nat × Bool)}
theorem l_make_bool {t e : TypeId} {bytes : Nat} [ht : TSlice P t e] [he : TElem P e (.bool false) bytes] {x y : Operand} {n : Int} (hx : AV.ev env x = .i n) (hy : AV.ev env y = .i n) (h0 : 0 ≤ n) (hb : (bytes : Int) * n ≤ 281474976710656) (hm : n ≤ 9223372036854775807) :
    LOp P ⟨d, .makeSlice t x y, ty, pos, af, g⟩ env os (.own os.length) env (os ++ [.slr e (bL (List.replicate n.toNat false))]) := by
  refine l_new fun base w gs tm hr => ?_
  obtain ⟨ii, hi, hs, hz, hby⟩ := he.info
  obtain ⟨m, rfl⟩ := Int.eq_ofNat_of_zero_le h0
  have hb' : ii.bytes * m ≤ 281474976710656 := by
    have : ((bytes * m : Nat) : Int) ≤ 281474976710656 := by rw [Int.natCast_mul]; exact hb
    rw [hby]; omega
  obtain ⟨w', h1, h2, h3⟩ := run_make_full (P := P) w base t e ii _ 1 ht.und hi hz hs .i64 .i64 m hb' (by simp [maxLen]; omega) hr.hb
  have hbel : Below w.heap.size w w' := (Below.refl _ _).grown h3 (Nat.le_refl _) (fun k hk => by cases hk)
  have hlt := h2.lt w.heap.size rfl
  refine ⟨w', ⟨.slice (some ⟨w.heap.size, 0, none⟩) m m, w.heap.size, [w.heap.size], []⟩, by simp only [execOp, hr.evv hx, hr.evv hy, Sem.run_bind, h1, Result.andThen_ok, Sem.run_pure], hbel,
    fun b hb => by simp at hb; omega, fun ok gs' => ⟨List.replicate m (.bool false), ?_, by simp [bL_len], fun i => ?_, .inr ⟨rfl, rfl⟩⟩⟩
  · rw [show (Value.bool false).cells = #[.bool false] from rfl, toList_madeCells_one] at h2
    simpa using h2
  · rw [Int.toNat_natCast]
    by_cases hi : i < m
    · have e1 : (List.replicate m (Value.bool false)).getD i undef = .bool false := by simp [List.getD_eq_getElem?_getD, hi]
      have e2 : (bL (List.replicate m false)).getD i .any = .b false := by
        rw [List.getD_eq_getElem?_getD, bL_get (by simpa using hi)]; simp [List.getD_eq_getElem?_getD, hi]
      rw [e1, e2]; exact .val _
    · have e2 : (bL (List.replicate m false)).getD i .any = .any := by
        rw [List.getD_eq_getElem?_getD, List.getElem?_eq_none (by rw [bL_len]; simp; omega)]; rfl
      rw [e2]; exact .any _

/-- A truth value goes into its place. -/
theorem l_store_bool {t : TypeId} [ht : TCell P t] {x y : Operand} {h i : Nat} {e : TypeId} {bs : List Bool} {b : Bool} (hx : AV.ev env x = .optr h i) (hs : os[h]? = some (.slr e (bL bs))) (hi : i < bs.length) (hy : AV.ev env y = .b b) :
    LOp P ⟨d, .store t x y, ty, pos, af, g⟩ env os .any env (os.set h (.slr e (bL (bs.set i b)))) := by
  intro base w gs tm hr
  have hh := hr.ev x
  rw [hx] at hh
  generalize hv : Act.eval ⟨tm, []⟩ x = v at hh
  cases hh with
  | @optr _ _ gh hg =>
    obtain ⟨vs, a1, a2, a3, a4⟩ := hr.ho _ _ _ hg hs
    rw [bL_len] at a2
    obtain ⟨bk, cap, e1, e2, e3, e4⟩ := own_slice a1 (i := i) (by omega)
    have eb := a4.eq e2
    rw [e1] at a1
    have hst := a1.stored i (.bool b)
    have hcell : w.cell? ⟨gh.b, i, none⟩ = some (vs[i]'(by omega)) := by rw [eb, e3]; exact List.getElem?_eq_getElem (by omega)
    have hbl : gh.bl = [gh.b] := by
      rcases a4 with ⟨h1, _⟩ | ⟨_, h2⟩
      · rw [h1] at e2; cases e2
      · exact h2
    have hother : ∀ c, c < w.heap.size → c ∉ gh.bl → (w.setCell ⟨bk, i, none⟩ (.bool b)).heap[c]? = w.heap[c]? := fun c hc hcb => hst.2.block c hc (fun e' => hcb (by rw [hbl, eb]; simpa using e'))
    refine ⟨undef, w.setCell ⟨bk, i, none⟩ (.bool b), gs, .inr ⟨?_, rfl⟩, hr.upd hg hs trivial _ trivial hother hst.2.size fun kp => ?_, .any _, ?_⟩
    · have := run_store_cell (P := P) (t := t) (a := ⟨gh.b, i, none⟩) hcell (by rw [eb]; exact e4) (v := .bool b) rfl rfl
      rw [eb] at this hv
      simp only [execOp, hv, hr.evv hy, Sem.run_bind, this, Result.andThen_ok, Sem.run_pure]
    · refine ⟨vs.set i (.bool b), ?_, by rw [bL_len]; simpa using a2, fun j => ?_, a4⟩
      · rw [e1, List.length_set]
        exact hst.1
      · by_cases hj : i = j
        · subst hj
          have q1 : (vs.set i (.bool b)).getD i undef = .bool b := by rw [List.getD_eq_getElem?_getD, List.getElem?_set, if_pos rfl, if_pos (by omega)]; rfl
          have q2 : (bL (bs.set i b)).getD i .any = .b b := by
            rw [List.getD_eq_getElem?_getD, bL_get (by simpa using hi), List.getD_eq_getElem?_getD, List.getElem?_set, if_pos rfl, if_pos hi]; rfl
          rw [q1, q2]; exact .val _
        · have q1 : (vs.set i (.bool b)).getD j undef = vs.getD j undef := by rw [List.getD_eq_getElem?_getD, List.getElem?_set, if_neg hj, List.getD_eq_getElem?_getD]
          have q2 : (bL (bs.set i b)).getD j .any = (bL bs).getD j .any := by rw [bL_set, List.getD_eq_getElem?_getD, List.getElem?_set, if_neg hj, List.getD_eq_getElem?_getD]
          rw [q1, q2]
          exact (a3 j).mono kp (fun _ _ h => h)
    · have hbb : base ≤ bk := by rw [← eb]; exact (hr.hn _ _ _ hg hs (by simp) gh.b (by simp [hbl])).1
      exact (Below.refl _ _).setCell (p := ⟨bk, i, none⟩) hbb _
end

section
variable {P : Program} {env : Env} {os : List AO} {d : Tmp} {ty : TypeId} {pos : String} {af : Array Edge} {g : Option (Nat × Bool)} {l rest : List Oper} {K : APost} {q : Md}
theorem w_mkb {t e : TypeId} {bytes : Nat} [TSlice P t e] [TElem P e (.bool false) bytes] {x y : Operand} {n : Int} {m : Nat} (hx : evo env x = some (.i n)) (hy : evo env y = some (.i n)) (h0 : 0 ≤ n) (hb : (bytes : Int) * n ≤ 281474976710656) (h63 : n ≤ 9223372036854775807) (hm : os.length = m)
    (h' : AOps P .seq l rest K (env.up d (.own m)) (os ++ [.slr e (bL (List.replicate n.toNat false))])) : AOps P .seq l (⟨some d, .makeSlice t x y, ty, pos, af, none⟩ :: rest) K env os := AOps.lo (hm ▸ l_make_bool (ev_of hx) (ev_of hy) h0 hb h63) h'
theorem w_stb {t : TypeId} [TCell P t] {x y : Operand} {h i : Nat} {e : TypeId} {bs : List Bool} {b : Bool} (hx : evo env x = some (.optr h i)) (hs : os[h]? = some (.slr e (bL bs))) (hi : i < bs.length) (hy : evo env y = some (.b b))
    (h' : AOps P .seq l rest K env (os.set h (.slr e (bL (bs.set i b))))) : AOps P .seq l (⟨none, .store t x y, ty, pos, af, none⟩ :: rest) K env os := AOps.so (l_store_bool (ev_of hx) hs hi (ev_of hy)) h'
theorem w_ldbl {t : TypeId} [TCell P t] {x : Operand} {h i : Nat} {e : TypeId} {bs : List Bool} (hw : wantedA l env ⟨some d, .load t x, ty, pos, af, g⟩ = some true) (hq : q.wl = false) (hx : evo env x = some (.optr h i)) (hs : os[h]? = some (.slr e (bL bs))) (hi : i < bs.length)
    (h' : AOps P q l rest K (env.up d (.b (bs.getD i false))) os) : AOps P q l (⟨some d, .load t x, ty, pos, af, g⟩ :: rest) K env os := AOps.qo hw (by rw [hq]; exact q_load_slr (ev_of hx) hs (bL_get hi)) h'
theorem w_idxb {t e : TypeId} [TSlice P t e] [TCell P e] {x y : Operand} {h : Nat} {e' : TypeId} {bs : List Bool} {i : Int} (hw : wantedA l env ⟨some d, .indexAddr t x y, ty, pos, af, g⟩ = some true) (hx : evo env x = some (.own h)) (hs : os[h]? = some (.slr e' (bL bs))) (hy : evo env y = some (.i i)) (h0 : 0 ≤ i) (h1 : i < bs.length)
    (h' : AOps P q l rest K (env.up d (.optr h i.toNat)) os) : AOps P q l (⟨some d, .indexAddr t x y, ty, pos, af, g⟩ :: rest) K env os := w_idxo hw hx (.slr hs) hy h0 (by rw [bL_len]; exact h1) h'
end

/-! ### Rows that are only read from here on -/
def AV.frz1 (k : Nat) (xss : List (List Int)) : AV → AV
  | .own h => if h = k then .intss xss else .own h
  | .optr h i => if h = k then .any else .optr h i
  | .osub h a b => if h = k then .any else .osub h a b
  | .orow h i => if h = k then .ints (xss.getD i []) else .orow h i
  | .orptr h i j => if h = k then .any else .orptr h i j
  | .agg _ => .any
  | .tup _ => .any
  | a => a
def AV.frz (k : Nat) (xss : List (List Int)) : AV → AV
  | .own h => if h = k then .intss xss else .own h
  | .optr h i => if h = k then .any else .optr h i
  | .osub h a b => if h = k then .any else .osub h a b
  | .orow h i => if h = k then .ints (xss.getD i []) else .orow h i
  | .orptr h i j => if h = k then .any else .orptr h i j
  | .agg l => .agg (l.map (AV.frz1 k xss))
  | .tup l => .tup (l.map (AV.frz1 k xss))
  | a => a
theorem bL_frz (k : Nat) (xss : List (List Int)) (bs : List Bool) : (bL bs).map (AV.frz k xss) = bL bs := by unfold bL; rw [List.map_map]; rfl
def AO.frz (k : Nat) (xss : List (List Int)) : AO → AO
  | .bx T avs => .bx T (avs.map (AV.frz k xss))
  | .slr e avs => .slr e (avs.map (AV.frz k xss))
  | o => o
theorem AO.frz_dead {k : Nat} {xss : List (List Int)} {o : AO} : o.frz k xss = .dead ↔ o = .dead := by cases o <;> simp [AO.frz]
theorem AO.frz_live {k : Nat} {xss : List (List Int)} {o : AO} : (o.frz k xss).live ↔ o.live := by cases o <;> exact Iff.rfl
/-- Own rows read as rows. -/
theorem sls_at {base : Nat} {w : World} {ok ok' : Nat → Prop} {gs : List Gh} {g : Gh} {e e2 : TypeId} {xss : List (List Int)} (h : RO base w ok gs g (.sls e e2 xss)) (hb : ∀ b, b ∈ g.bl → ok' b) :
    IntssAt w ok' g.v xss ∧ ∀ (i : Nat) u, g.rows[i]? = some u → IntsAt w ok' u (xss.getD i []) := by
  obtain ⟨vs, bs, mb, a1, a2, a3, a4, a5, a6, a7, a8⟩ := h
  have hrow : ∀ (i : Nat) u, vs[i]? = some u → IntsAt w ok' u (xss.getD i []) := by
    intro i u hu
    obtain ⟨r1, r2, r3⟩ := a5 i u hu
    refine ⟨RowAt.of_owns' (by rw [← List.length_map (f := Value.int .i64)] at r1; exact r1) fun b hbk => hb b ?_, r2⟩
    rw [a7]
    refine List.mem_append.2 (.inr (List.mem_flatten.2 ⟨bs.getD i [], ?_, ?_⟩))
    · have hi := (List.getElem?_eq_some_iff.1 hu).1
      rw [List.getD_eq_getElem?_getD, List.getElem?_eq_getElem (by omega)]
      exact List.getElem_mem _
    · rw [← r3, hbk]; simp
  refine ⟨⟨vs, RowAt.of_owns' a1 fun b hbk => hb b ?_, a2, hrow⟩, fun i u hu => hrow i u (by rw [← a4]; exact hu)⟩
  rw [a7]
  refine List.mem_append.2 (.inl ?_)
  rcases a6 with ⟨s1, _⟩ | ⟨s1, s2⟩
  · rw [s1] at hbk; cases hbk
  · rw [s1] at hbk; cases hbk; rw [s2]; simp

section
variable {w : World} {ok ok' : Nat → Prop} {gs : List Gh} {k : Nat} {xss : List (List Int)}
/-- What the frozen rows look like to their readers. -/
def FrzAt (w : World) (ok' : Nat → Prop) (gs : List Gh) (k : Nat) (xss : List (List Int)) : Prop := ∀ g, gs[k]? = some g → IntssAt w ok' g.v xss ∧ ∀ (i : Nat) u, g.rows[i]? = some u → IntsAt w ok' u (xss.getD i [])
theorem RV.frz1 (kp : Keeps ok ok' w w) (hf : FrzAt w ok' gs k xss) {v : Value} {a : AV} (hv : RV w ok gs v a) : RV w ok' gs v (a.frz1 k xss) := by
  cases hv with
  | any v => exact .any v
  | val v => exact .val v
  | ints h => exact .ints (h.mono kp)
  | intss h => exact .intss (h.mono kp)
  | @ro v r h => exact .ro (r.up kp h)
  | iptr h h1 h2 => exact .iptr (h.mono kp) h1 h2
  | iiptr h h1 h2 => exact .iiptr (h.mono kp) h1 h2
  | own h1 =>
    simp only [AV.frz1]; split
    · subst_vars; exact .intss (hf _ h1).1
    · exact .own h1
  | optr h1 =>
    simp only [AV.frz1]; split
    · exact .any _
    · exact .optr h1
  | osub h1 h2 h3 h4 =>
    simp only [AV.frz1]; split
    · exact .any _
    · exact .osub h1 h2 h3 h4
  | orow h1 h2 =>
    simp only [AV.frz1]; split
    · subst_vars; exact .ints ((hf _ h1).2 _ _ h2)
    · exact .orow h1 h2
  | orptr h1 h2 =>
    simp only [AV.frz1]; split
    · exact .any _
    · exact .orptr h1 h2
  | agg _ _ _ => exact .any _
  | tup _ _ => exact .any _
theorem getD_map_frz1 (l : List AV) (i : Nat) : (l.map (AV.frz1 k xss)).getD i .any = (l.getD i .any).frz1 k xss := getD_map_f _ rfl l i
theorem getD_map_frz (l : List AV) (i : Nat) : (l.map (AV.frz k xss)).getD i .any = (l.getD i .any).frz k xss := getD_map_f _ rfl l i
theorem RV.frz (kp : Keeps ok ok' w w) (hf : FrzAt w ok' gs k xss) {v : Value} {a : AV} (hv : RV w ok gs v a) : RV w ok' gs v (a.frz k xss) := by
  cases hv with
  | any v => exact .any v
  | val v => exact .val v
  | ints h => exact .ints (h.mono kp)
  | intss h => exact .intss (h.mono kp)
  | @ro v r h => exact .ro (r.up kp h)
  | iptr h h1 h2 => exact .iptr (h.mono kp) h1 h2
  | iiptr h h1 h2 => exact .iiptr (h.mono kp) h1 h2
  | own h1 =>
    simp only [AV.frz]; split
    · subst_vars; exact .intss (hf _ h1).1
    · exact .own h1
  | optr h1 =>
    simp only [AV.frz]; split
    · exact .any _
    · exact .optr h1
  | osub h1 h2 h3 h4 =>
    simp only [AV.frz]; split
    · exact .any _
    · exact .osub h1 h2 h3 h4
  | orow h1 h2 =>
    simp only [AV.frz]; split
    · subst_vars; exact .ints ((hf _ h1).2 _ _ h2)
    · exact .orow h1 h2
  | orptr h1 h2 =>
    simp only [AV.frz]; split
    · exact .any _
    · exact .orptr h1 h2
  | agg h1 h3 h2 => exact .agg (by simpa using h1) h3 fun i => by rw [getD_map_frz1]; exact (h2 i).frz1 kp hf
  | tup h1 h2 => exact .tup (by simpa using h1) fun i => by rw [getD_map_frz1]; exact (h2 i).frz1 kp hf
end
theorem Rel.freeze {base : Nat} {w : World} {gs : List Gh} {env : Env} {os : List AO} {tm : Array Value} (h : Rel base w gs env os tm) {k : Nat} {e e2 : TypeId} {xss : List (List Int)} (hs : os[k]? = some (.sls e e2 xss)) :
    Rel base w gs (env.mp (AV.frz k xss)) ((os.map (AO.frz k xss)).set k .dead) tm := by
  have hk : k < os.length := (List.getElem?_eq_some_iff.1 hs).1
  have oset : ∀ {i : Nat} {x : AO}, ((os.map (AO.frz k xss)).set k .dead)[i]? = some x → (i = k ∧ x = .dead) ∨ (i ≠ k ∧ ∃ y, os[i]? = some y ∧ x = y.frz k xss) := by
    intro i x hx
    rw [List.getElem?_set] at hx
    by_cases e : k = i
    · subst e
      rw [if_pos rfl, if_pos (by simpa using hk)] at hx
      cases hx; exact .inl ⟨rfl, rfl⟩
    · rw [if_neg e, List.getElem?_map] at hx
      cases hy : os[i]? with
      | none => rw [hy] at hx; cases hx
      | some y => rw [hy] at hx; cases hx; exact .inr ⟨fun e' => e e'.symm, y, rfl, rfl⟩
  have kp : Keeps (okOf gs os) (okOf gs ((os.map (AO.frz k xss)).set k .dead)) w w := by
    intro b hb _
    refine ⟨fun i x o' hx ho' hl => ?_, rfl⟩
    rcases oset ho' with ⟨_, rfl⟩ | ⟨_, y, hy, rfl⟩
    · exact hl.elim
    · exact hb i x y hx hy (AO.frz_live.1 hl)
  have hf : FrzAt w (okOf gs ((os.map (AO.frz k xss)).set k .dead)) gs k xss := by
    intro g hg
    refine sls_at (h.ho k g _ hg hs) fun b hb i x o' hx ho' hl hm => ?_
    rcases oset ho' with ⟨_, rfl⟩ | ⟨hik, y, hy, rfl⟩
    · exact hl.elim
    · exact h.hd k i g x _ _ (fun e => hik e.symm) hg hx hs hy (by simp) (AO.frz_live.1 hl).ne b hb hm
  refine ⟨h.hb, by simpa using h.hl, h.hs, fun i => ?_, ?_, ?_, ?_⟩
  · rw [Env.lk_mp _ rfl]
    exact (h.he i).frz kp hf
  · intro i g o' hg ho'
    rcases oset ho' with ⟨_, rfl⟩ | ⟨_, y, hy, rfl⟩
    · trivial
    · have hro := h.ho i g y hg hy
      cases y with
      | dead => trivial
      | sli e xs => exact hro
      | sls e e2 xs => exact hro
      | ob q => exact hro
      | keep n K => exact hro
      | slr e avs =>
        obtain ⟨vs, a1, a2, a3, a4⟩ := hro
        exact ⟨vs, a1, by simpa using a2, fun j => by rw [getD_map_frz]; exact (a3 j).frz kp hf, a4⟩
      | bx T avs =>
        obtain ⟨cs, c1, c2, c3, c4, c5, c6, c7⟩ := hro
        exact ⟨cs, c1, c2, c3, c4, by simpa using c5, c6, fun j => by rw [getD_map_frz]; exact (c7 j).frz kp hf⟩
  · intro i j g1 g2 o1 o2 hij hg1 hg2 ho1 ho2 hn1 hn2
    rcases oset ho1 with ⟨_, rfl⟩ | ⟨_, y, hy, rfl⟩
    · exact absurd rfl hn1
    · rcases oset ho2 with ⟨_, rfl⟩ | ⟨_, z, hz, rfl⟩
      · exact absurd rfl hn2
      · exact h.hd i j g1 g2 y z hij hg1 hg2 hy hz (fun e => hn1 (AO.frz_dead.2 e)) (fun e => hn2 (AO.frz_dead.2 e))
  · intro i g o' hg ho' hn
    rcases oset ho' with ⟨_, rfl⟩ | ⟨_, y, hy, rfl⟩
    · exact absurd rfl hn
    · exact h.hn i g y hg hy fun e => hn (AO.frz_dead.2 e)
theorem Turns.freeze {env : Env} {os : List AO} {k : Nat} {e e2 : TypeId} {xss : List (List Int)} (hs : os[k]? = some (.sls e e2 xss)) : Turns env os (env.mp (AV.frz k xss)) ((os.map (AO.frz k xss)).set k .dead) :=
  fun _ _ gs _ h => ⟨gs, h.freeze hs⟩
theorem handed0 {os : List AO} : Handed os [] [] := ⟨List.nodup_nil, fun _ _ hk => (by cases hk), rfl, fun _ ho => (by cases ho)⟩
end Go.Proofs.Ytcolpjpppdmanaa
/-
  A struct of two read slices, two own slices of numbers, one of truth values, and a truth value, behind a pointer; functions that write to it in its place. No condition.
-/
namespace Go.Proofs.Ytcolpjpppdmanaa
open Go Go.RowKit

/-- What such a struct holds. -/
structure WS where
  f : List Int
  g : List Int
  s : List Bool
  l : Bool

theorem RO.slrb {base : Nat} {w : World} {ok ok' : Nat → Prop} {gs gs' : List Gh} {g : Gh} {e : TypeId} {bs : List Bool} (h : RO base w ok gs g (.slr e (bL bs))) : RO base w ok' gs' g (.slr e (bL bs)) := by
  obtain ⟨vs, a1, a2, a3, a4⟩ := h
  refine ⟨vs, a1, a2, fun i => ?_, a4⟩
  have := a3 i
  by_cases hi : i < bs.length
  · have e1 : (bL bs).getD i .any = .b (bs.getD i false) := by rw [List.getD_eq_getElem?_getD, bL_get hi]; rfl
    rw [e1] at this ⊢
    generalize vs.getD i undef = z at this ⊢
    cases this; exact .val _
  · have e1 : (bL bs).getD i .any = .any := by rw [List.getD_eq_getElem?_getD, List.getElem?_eq_none (by rw [bL_len]; omega)]; rfl
    rw [e1]; exact .any _

/-- A known value that reads as numbers, as rows. -/
def roI (u : Value) (W : List Int) : Ro where
  p w ok v := v = u ∧ IntsAt w ok v W
  up k h := ⟨h.1, h.2.mono k⟩
def roN (u : Value) (N : List (List Int)) : Ro where
  p w ok v := v = u ∧ IntssAt w ok v N
  up k h := ⟨h.1, h.2.mono k⟩
def RdI (a : AV) (W : List Int) : Prop := ∀ w ok gs v, RV w ok gs v a → IntsAt w ok v W
def RdN (a : AV) (N : List (List Int)) : Prop := ∀ w ok gs v, RV w ok gs v a → IntssAt w ok v N
theorem rdI_ints (W : List Int) : RdI (.ints W) W := fun _ _ _ _ h => by cases h; assumption
theorem rdI_ro (u : Value) (W : List Int) : RdI (.ro (roI u W)) W := fun _ _ _ _ h => by cases h with | ro h => exact h.2
theorem rdN_intss (N : List (List Int)) : RdN (.intss N) N := fun _ _ _ _ h => by cases h; assumption
theorem rdN_ro (u : Value) (N : List (List Int)) : RdN (.ro (roN u N)) N := fun _ _ _ _ h => by cases h with | ro h => exact h.2

/-- Objects that were written to in their places. -/
theorem Rel.upds {base : Nat} {w w' : World} {gs : List Gh} {env : Env} {os os' : List AO} {tm : Array Value} (h : Rel base w gs env os tm) (H : List Nat) (hl : os'.length = os.length) (hsame : ∀ i, i ∉ H → os'[i]? = os[i]?)
    (hlive : ∀ i ∈ H, ∀ o o', os[i]? = some o → os'[i]? = some o' → o.live ∧ o'.live) (hw : ∀ b, b < w.heap.size → (∀ i ∈ H, ∀ g, gs[i]? = some g → b ∉ g.bl) → w'.heap[b]? = w.heap[b]?) (hsz : w.heap.size ≤ w'.heap.size)
    (hro : Keeps (okOf gs os) (okOf gs os') w w' → ∀ i ∈ H, ∀ g o', gs[i]? = some g → os'[i]? = some o' → RO base w' (okOf gs os') gs g o') : Rel base w' gs env os' tm := by
  have back : ∀ {i : Nat} {o' : AO}, os'[i]? = some o' → ∃ o, os[i]? = some o ∧ ((i ∈ H ∧ o.live ∧ o'.live) ∨ (i ∉ H ∧ o' = o)) := by
    intro i o' ho'
    by_cases hi : i ∈ H
    · have hlt : i < os.length := by rw [← hl]; exact (List.getElem?_eq_some_iff.1 ho').1
      obtain ⟨l1, l2⟩ := hlive i hi _ o' (List.getElem?_eq_getElem hlt) ho'
      exact ⟨_, List.getElem?_eq_getElem hlt, .inl ⟨hi, l1, l2⟩⟩
    · exact ⟨o', by rw [← hsame i hi]; exact ho', .inr ⟨hi, rfl⟩⟩
  have fwd : ∀ {i : Nat} {o : AO}, os[i]? = some o → ∃ o', os'[i]? = some o' ∧ ((i ∈ H ∧ o.live ∧ o'.live) ∨ (i ∉ H ∧ o' = o)) := by
    intro i o ho
    by_cases hi : i ∈ H
    · have hlt : i < os'.length := by rw [hl]; exact (List.getElem?_eq_some_iff.1 ho).1
      obtain ⟨l1, l2⟩ := hlive i hi o _ ho (List.getElem?_eq_getElem hlt)
      exact ⟨_, List.getElem?_eq_getElem hlt, .inl ⟨hi, l1, l2⟩⟩
    · exact ⟨o, by rw [hsame i hi]; exact ho, .inr ⟨hi, rfl⟩⟩
  have kp : Keeps (okOf gs os) (okOf gs os') w w' := by
    intro b hb hlt
    refine ⟨fun i g o' hg ho' hlv hm => ?_, hw b hlt fun i hi g hg hm => ?_⟩
    · obtain ⟨o, ho, hc⟩ := back ho'
      rcases hc with ⟨_, l1, _⟩ | ⟨_, rfl⟩
      · exact hb i g o hg ho l1 hm
      · exact hb i g _ hg ho hlv hm
    · have hlt' : i < os.length := by rw [← h.hl]; exact (List.getElem?_eq_some_iff.1 hg).1
      obtain ⟨o', ho', hc⟩ := fwd (List.getElem?_eq_getElem hlt')
      rcases hc with ⟨_, l1, _⟩ | ⟨hn, _⟩
      · exact hb i g _ hg (List.getElem?_eq_getElem hlt') l1 hm
      · exact hn hi
  refine ⟨Nat.le_trans h.hb hsz, by rw [h.hl, hl], h.hs, fun i => (h.he i).mono kp fun _ _ e => e, ?_, ?_, ?_⟩
  · intro i g o' hg ho'
    obtain ⟨o, ho, hc⟩ := back ho'
    rcases hc with ⟨hi, _, _⟩ | ⟨hi, rfl⟩
    · exact hro kp i hi g o' hg ho'
    · refine (h.ho i g _ hg ho).mono kp (fun _ _ e => e) fun hnd b hb => hw b (h.hn i g _ hg ho hnd b hb).2 fun j hj g' hg' hm => ?_
      have hltj : j < os.length := by rw [← h.hl]; exact (List.getElem?_eq_some_iff.1 hg').1
      obtain ⟨_, _, hcj⟩ := fwd (List.getElem?_eq_getElem hltj)
      rcases hcj with ⟨_, l1, _⟩ | ⟨hn, _⟩
      · exact h.hd i j g g' _ _ (fun e => hi (e ▸ hj)) hg hg' ho (List.getElem?_eq_getElem hltj) hnd l1.ne b hb hm
      · exact hn hj
  · intro i j g1 g2 o1 o2 hij hg1 hg2 ho1 ho2 hn1 hn2
    obtain ⟨p1, hp1, c1⟩ := back ho1
    obtain ⟨p2, hp2, c2⟩ := back ho2
    refine h.hd i j g1 g2 p1 p2 hij hg1 hg2 hp1 hp2 ?_ ?_
    · rcases c1 with ⟨_, l1, _⟩ | ⟨_, rfl⟩
      · exact l1.ne
      · exact hn1
    · rcases c2 with ⟨_, l1, _⟩ | ⟨_, rfl⟩
      · exact l1.ne
      · exact hn2
  · intro i g o' hg ho' hn b hb
    obtain ⟨o, ho, hc⟩ := back ho'
    have hne : o ≠ .dead := by
      rcases hc with ⟨_, l1, _⟩ | ⟨_, rfl⟩
      · exact l1.ne
      · exact hn
    have := h.hn i g o hg ho hne b hb
    exact ⟨this.1, Nat.lt_of_lt_of_le this.2 hsz⟩

/-- The struct and its parts in memory. -/
structure Wk (T e eb : TypeId) (base : Nat) (w : World) (g0 g1 g2 g3 : Gh) (vW vN : Value) (st : WS) : Prop where
  cell : w.heap[g0.b]? = some (.cells #[vW, vN, g1.v, g2.v, g3.v, .bool st.l] T (0, 0))
  one : vW.oneCell' = true ∧ vN.oneCell' = true
  hb : base ≤ g0.b
  bl : g0.bl = [g0.b]
  v : g0.v = .pointer (some ⟨g0.b, 0, none⟩)
  rf : RO base w (fun _ => True) [] g1 (.sli e st.f)
  rg : RO base w (fun _ => True) [] g2 (.sli e st.g)
  rs : RO base w (fun _ => True) [] g3 (.slr eb (bL st.s))
  hd : ∀ (i j : Nat) a b, i ≠ j → [g0, g1, g2, g3][i]? = some a → [g0, g1, g2, g3][j]? = some b → ∀ c, c ∈ a.bl → c ∉ b.bl
  hn : ∀ a ∈ [g0, g1, g2, g3], ∀ c, c ∈ a.bl → base ≤ c ∧ c < w.heap.size
def okB (g0 g1 g2 g3 : Gh) (b : Nat) : Prop := ∀ a ∈ [g0, g1, g2, g3], b ∉ a.bl

def AFnB (P : Program) (f : FuncId) (T e eb : TypeId) (W : List Int) (N : List (List Int)) (as0 : List Value) (st st' : WS) (rv : Value) : Prop :=
  HasBody P f ∧ ∀ base w g0 g1 g2 g3 vW vN, base ≤ w.heap.size → Wk T e eb base w g0 g1 g2 g3 vW vN st → IntsAt w (okB g0 g1 g2 g3) vW W → IntssAt w (okB g0 g1 g2 g3) vN N →
    Calls P f (g0.v :: as0).toArray w fun ev w' => ev = .returned rv ∧ Wk T e eb base w' g0 g1 g2 g3 vW vN st' ∧ Below base w w' ∧ ∀ b, b < w.heap.size → okB g0 g1 g2 g3 b → w'.heap[b]? = w.heap[b]?

/-- The objects of the struct, behind the handles 1 to 4. -/
def wkL (T e eb : TypeId) (W : List Int) (N : List (List Int)) (vW vN : Value) (st : WS) : List AO :=
  [.bx T [.ro (roI vW W), .ro (roN vN N), .own 2, .own 3, .own 4, .b st.l], .sli e st.f, .sli e st.g, .slr eb (bL st.s)]
def WkEnd (P : Program) (fn : Func) (T e eb : TypeId) (W : List Int) (N : List (List Int)) (vW vN : Value) (K : Kp) (st' : WS) (rv : Value) (env : Env) (os : List AO) : Prop :=
  ResIs P fn env os (.val rv) ∧ ∃ tl, os = .keep 5 K :: wkL T e eb W N vW vN st' ++ tl

set_option maxHeartbeats 2000000 in
theorem AFnB.of {P : Program} {f : FuncId} {fn : Func} {c : Code} {T e eb : TypeId} {W : List Int} {N : List (List Int)} {as0 : List Value} {args' : List AV} {st st' : WS} {rv : Value} {n : Nat} (hf : P.funcs[f]? = some fn) (hb : fn.body = some c) (hnm : (fn.name == "runtime.NumGoroutine") = false)
    (hn : fn.ntmps - (as0.length + 1) = n) (ha : args' = .optr 1 0 :: as0.map AV.val)
    (h : ∀ K vW vN, AWp P c (WkEnd P fn T e eb W N vW vN K st' rv) (fun _ _ _ => False) (WkEnd P fn T e eb W N vW vN K st' rv) (Env.start args' n) (.keep 5 K :: wkL T e eb W N vW vN st)) :
    AFnB P f T e eb W N as0 st st' rv := by
  refine ⟨⟨fn, c, hf, hnm, hb⟩, fun base w g0 g1 g2 g3 vW vN hbase hC hW hN => calls_of_wp hf hb ?_⟩
  have hvs : ((g0.v :: as0).toArray).size = as0.length + 1 := by simp
  rw [show fn.ntmps - ((g0.v :: as0).toArray).size = n by rw [hvs]; exact hn]
  obtain ⟨c1, c1', c2, c3, c4, c5, c6, c7, c8, c9⟩ := hC
  let bl : List Nat := (List.range w.heap.size).filter fun b => decide (base ≤ b) && !(g0.bl ++ g1.bl ++ g2.bl ++ g3.bl).contains b
  let gk : Gh := ⟨undef, 0, bl, []⟩
  let K : Kp := ⟨fun b => w.heap[b]?, [gk, g0, g1, g2, g3]⟩
  have hbl : ∀ b, b ∈ bl ↔ b < w.heap.size ∧ base ≤ b ∧ okB g0 g1 g2 g3 b := by
    intro b
    simp only [bl, List.mem_filter, List.mem_range, Bool.and_eq_true, decide_eq_true_eq, Bool.not_eq_true', List.contains_eq_mem, decide_eq_false_iff_not, List.mem_append, okB, List.mem_cons, List.not_mem_nil, or_false, forall_eq_or_imp, forall_eq, not_or]
    constructor
    · rintro ⟨h1, h2, ⟨⟨h3, h4⟩, h5⟩, h6⟩; exact ⟨h1, h2, h3, h4, h5, h6⟩
    · rintro ⟨h1, h2, h3, h4, h5, h6⟩; exact ⟨h1, h2, ⟨⟨h3, h4⟩, h5⟩, h6⟩
  have okk : ∀ b, okB g0 g1 g2 g3 b → okOf [gk, g0, g1, g2, g3] (.keep 5 K :: wkL T e eb W N vW vN st) b := by
    intro b hb i x y hx hy hl
    match i with
    | 0 => cases hy; exact hl.elim
    | i + 1 => exact hb x (List.mem_of_getElem? (by simpa using hx))
  have kp : Keeps (okB g0 g1 g2 g3) (okOf [gk, g0, g1, g2, g3] (.keep 5 K :: wkL T e eb W N vW vN st)) w w := fun b hb _ => ⟨okk b hb, rfl⟩
  have hrel : Rel base w [gk, g0, g1, g2, g3] (Env.start args' n) (.keep 5 K :: wkL T e eb W N vW vN st) ((g0.v :: as0).toArray ++ Array.replicate n undef) := by
    refine ⟨hbase, rfl, by simp [Env.start, ha], fun i => ?_, ?_, ?_, ?_⟩
    · refine start_rv args' n (g0.v :: as0).toArray (fun i => ?_) i
      rw [ha]
      match i with
      | 0 =>
        show RV w _ _ g0.v (.optr 1 0)
        rw [c4]
        exact .optr (g := g0) rfl
      | i + 1 =>
        have e1 : ((g0.v :: as0).toArray).getD (i + 1) undef = as0.getD i undef := by simp [Array.getD_eq_getD_getElem?, List.getD_eq_getElem?_getD]
        have e2 : (AV.optr 1 0 :: as0.map AV.val).getD (i + 1) .any = (as0.map AV.val).getD i .any := rfl
        rw [e1, e2]
        rw [List.getD_eq_getElem?_getD, List.getD_eq_getElem?_getD, List.getElem?_map]
        cases as0[i]? with
        | none => exact .any _
        | some z => exact .val z
    · intro i x y hx hy
      match i with
      | 0 =>
        cases hx; cases hy
        exact ⟨fun b _ => rfl, rfl, fun i x h => h⟩
      | 1 =>
        cases hx; cases hy
        refine ⟨[vW, vN, g1.v, g2.v, g3.v, .bool st.l], c1, c2, c3, c4, rfl, ?_, fun j => ?_⟩
        · intro z hz
          simp only [List.mem_cons, List.not_mem_nil, or_false] at hz
          obtain ⟨a1, _, _⟩ := c5
          obtain ⟨u1, k1, e1⟩ := ownsRow_slice a1
          obtain ⟨a2, _, _⟩ := c6
          obtain ⟨u2, k2, e2⟩ := ownsRow_slice a2
          obtain ⟨vs3, a3, _⟩ := c7
          obtain ⟨u3, k3, e3⟩ := ownsRow_slice a3
          rcases hz with rfl | rfl | rfl | rfl | rfl | rfl
          · exact c1'.1
          · exact c1'.2
          · rw [e1]; rfl
          · rw [e2]; rfl
          · rw [e3]; rfl
          · rfl
        · match j with
          | 0 => exact .ro ⟨rfl, hW.mono kp⟩
          | 1 => exact .ro ⟨rfl, hN.mono kp⟩
          | 2 => exact .own (g := g1) rfl
          | 3 => exact .own (g := g2) rfl
          | 4 => exact .own (g := g3) rfl
          | 5 => exact .val _
          | j + 6 => exact .any _
      | 2 => cases hx; cases hy; exact c5
      | 3 => cases hx; cases hy; exact c6
      | 4 => cases hx; cases hy; exact RO.slrb c7
      | i + 5 => simp at hx
    · intro i j a b o1 o2 hij ha1 hb1 ho1 ho2 _ _ c hc1 hc2
      match i, j with
      | 0, 0 => omega
      | 0, j + 1 =>
        cases ha1
        exact ((hbl c).1 hc1).2.2 b (List.mem_of_getElem? (by simpa using hb1)) hc2
      | i + 1, 0 =>
        cases hb1
        exact ((hbl c).1 hc2).2.2 a (List.mem_of_getElem? (by simpa using ha1)) hc1
      | i + 1, j + 1 => exact c8 i j a b (by omega) (by simpa using ha1) (by simpa using hb1) c hc1 hc2
    · intro i x y hx hy _ b hb
      match i with
      | 0 => cases hx; exact ⟨((hbl b).1 hb).2.1, ((hbl b).1 hb).1⟩
      | i + 1 => exact c9 x (List.mem_of_getElem? (by simpa using hx)) b hb
  have fin : ∀ {env : Env} {os1 : List AO} {gs2 : List Gh} {a : Act} {w' : World}, Rel base w' gs2 env os1 a.tmps → Below base w w' → WkEnd P fn T e eb W N vW vN K st' rv env os1 →
      ∃ u, (results fn a.tmps).run P w' = .ok u w' ∧ (Ending.returned u = .returned rv ∧ Wk T e eb base w' g0 g1 g2 g3 vW vN st' ∧ Below base w w' ∧ ∀ b, b < w.heap.size → okB g0 g1 g2 g3 b → w'.heap[b]? = w.heap[b]?) := by
    rintro env os1 gs2 a w' hr hbel ⟨hres, tl, rfl⟩
    obtain ⟨u, hu, hv⟩ := hres _ _ _ _ hr
    cases hv
    have hgl := hr.hl
    obtain ⟨x0, hx0⟩ : ∃ x, gs2[0]? = some x := ⟨_, List.getElem?_eq_getElem (by rw [hgl]; simp [wkL])⟩
    obtain ⟨r1, r2, r3⟩ := hr.ho 0 _ _ hx0 rfl
    have p0 := r3 0 gk rfl
    have p1 := r3 1 g0 rfl
    have p2 := r3 2 g1 rfl
    have p3 := r3 3 g2 rfl
    have p4 := r3 4 g3 rfl
    have e0 : x0 = gk := by rw [hx0] at p0; exact Option.some.inj p0
    subst e0
    have o1 := hr.ho 1 _ _ p1 rfl
    have o2 := hr.ho 2 _ _ p2 rfl
    have o3 := hr.ho 3 _ _ p3 rfl
    have o4 := hr.ho 4 _ _ p4 rfl
    obtain ⟨cs, d1, d2, d3, d4, d5, d6, d7⟩ := o1
    match cs, d5 with
    | [z0, z1, z2, z3, z4, z5], _ =>
      have q0 := d7 0
      have q1 := d7 1
      have q2 := d7 2
      have q3 := d7 3
      have q4 := d7 4
      have q5 := d7 5
      have w0 : z0 = vW := by cases q0 with | ro h => exact h.1
      have w1 : z1 = vN := by cases q1 with | ro h => exact h.1
      have w2 : z2 = g1.v := by cases q2 with | own hh => rw [p2] at hh; cases hh; rfl
      have w3 : z3 = g2.v := by cases q3 with | own hh => rw [p3] at hh; cases hh; rfl
      have w4 : z4 = g3.v := by cases q4 with | own hh => rw [p4] at hh; cases hh; rfl
      have w5 : z5 = .bool st'.l := by cases q5; rfl
      subst w0 w1 w2 w3 w4 w5
      refine ⟨_, hu, rfl, ⟨d1, c1', c2, c3, c4, o2, o3, RO.slrb o4, c8, fun x hx b hb => ?_⟩, hbel, fun b hb hok => ?_⟩
      · have := c9 x hx b hb
        exact ⟨this.1, Nat.lt_of_lt_of_le this.2 hbel.size⟩
      · rcases Nat.lt_or_ge b base with h6 | h6
        · exact hbel.block b h6
        · exact r1 b ((hbl b).2 ⟨hb, h6, hok⟩)
  refine wp_mono (h K vW vN base w w _ _ hrel (Below.refl _ _)) ?_
  intro ev a w' hq
  cases ev with
  | normal =>
    obtain ⟨env, os1, gs1, hr, hd, hbel, hx⟩ := hq
    obtain ⟨u, hu, hw⟩ := fin hr hbel hx
    exact ⟨hd, u, hu, hw⟩
  | exit j => obtain ⟨_, _, _, _, _, _, hx⟩ := hq; exact hx.elim
  | ret =>
    obtain ⟨env, os1, gs1, hr, hd, hbel, hx⟩ := hq
    obtain ⟨u, hu, hw⟩ := fin hr hbel hx
    exact ⟨hd, u, hu, hw⟩
  | goto l => exact (hq : False).elim
  | panic ch => exact (hq : False).elim
  | outgrown => exact (hq : False).elim
theorem AFnB.start {P : Program} {f : FuncId} {fn : Func} {nt : Nat} {T e eb : TypeId} {W : List Int} {N : List (List Int)} {as0 : List Value} {st st' : WS} {rv : Value} (hf : P.funcs[f]? = some fn) (hnt : fn.ntmps = nt) {c : Code} (hb : fn.body = some c) (hnm : (fn.name == "runtime.NumGoroutine") = false)
    (h : ∀ K vW vN, AWp P c (WkEnd P fn T e eb W N vW vN K st' rv) (fun _ _ _ => False) (WkEnd P fn T e eb W N vW vN K st' rv) (Env.start (.optr 1 0 :: as0.map AV.val) (nt - (as0.length + 1))) (.keep 5 K :: wkL T e eb W N vW vN st)) :
    AFnB P f T e eb W N as0 st st' rv := AFnB.of hf hb hnm (by rw [hnt]) rfl h

section
variable {P : Program} {env : Env} {os : List AO} {d : Option Tmp} {ty : TypeId} {pos : String} {af : Array Edge} {g : Option (Nat × Bool)}
set_option maxHeartbeats 2000000 in
theorem c_callb {f : FuncId} {T e eb : TypeId} {W : List Int} {N : List (List Int)} {as0 : List Value} {st st' : WS} {rv : Value} {h0 h1 h2 h3 : Nat} {a0 a1 : AV} (hc : AFnB P f T e eb W N as0 st st' rv) {x : Operand} {xs : List Operand} {ats : Array TypeId} (hx : AV.ev env x = .optr h0 0)
    (o0 : os[h0]? = some (.bx T [a0, a1, .own h1, .own h2, .own h3, .b st.l])) (o1 : os[h1]? = some (.sli e st.f)) (o2 : os[h2]? = some (.sli e st.g)) (o3 : os[h3]? = some (.slr eb (bL st.s))) (hxs : xs.map (AV.ev env) = as0.map AV.val)
    (ra : RdI a0 W) (rn : RdN a1 N) (hne : ((h0 == h1) || (h0 == h2) || (h0 == h3) || (h1 == h2) || (h1 == h3) || (h2 == h3)) = false) :
    COp P ⟨d, .call { callee := .value (.func f), args := (x :: xs).toArray, argTypes := ats }, ty, pos, af, g⟩ env os (fun r e' o => r = .val rv ∧ e' = env ∧ o = (((os.set h0 (.bx T [a0, a1, .own h1, .own h2, .own h3, .b st'.l])).set h1 (.sli e st'.f)).set h2 (.sli e st'.g)).set h3 (.slr eb (bL st'.s))) := by
  simp only [Bool.or_eq_false_iff, beq_eq_false_iff_ne, ne_eq] at hne
  obtain ⟨⟨⟨⟨⟨n01, n02⟩, n03⟩, n12⟩, n13⟩, n23⟩ := hne
  intro base w gs tm hr
  have gget : ∀ {h : Nat} {o : AO}, os[h]? = some o → ∃ x, gs[h]? = some x := fun {h o} ho => ⟨_, List.getElem?_eq_getElem (by rw [hr.hl]; exact (List.getElem?_eq_some_iff.1 ho).1)⟩
  obtain ⟨g0, q0⟩ := gget o0
  obtain ⟨g1, q1⟩ := gget o1
  obtain ⟨g2, q2⟩ := gget o2
  obtain ⟨g3, q3⟩ := gget o3
  have r0 := hr.ho _ _ _ q0 o0
  have r1 := hr.ho _ _ _ q1 o1
  have r2 := hr.ho _ _ _ q2 o2
  have r3 := hr.ho _ _ _ q3 o3
  obtain ⟨cs, d1, d2, d3, d4, d5, d6, d7⟩ := r0
  match cs, d5 with
  | [z0, z1, z2, z3, z4, z5], _ =>
    have t0 : RV w (okOf gs os) gs z0 a0 := d7 0
    have t1 : RV w (okOf gs os) gs z1 a1 := d7 1
    have t2 : RV w (okOf gs os) gs z2 (.own h1) := d7 2
    have t3 : RV w (okOf gs os) gs z3 (.own h2) := d7 3
    have t4 : RV w (okOf gs os) gs z4 (.own h3) := d7 4
    have t5 : RV w (okOf gs os) gs z5 (.b st.l) := d7 5
    have w2 : z2 = g1.v := by cases t2 with | own hh => rw [q1] at hh; cases hh; rfl
    have w3 : z3 = g2.v := by cases t3 with | own hh => rw [q2] at hh; cases hh; rfl
    have w4 : z4 = g3.v := by cases t4 with | own hh => rw [q3] at hh; cases hh; rfl
    have w5 : z5 = .bool st.l := by cases t5; rfl
    subst w2 w3 w4 w5
    have hw0 := ra _ _ _ _ t0
    have hw1 := rn _ _ _ _ t1
    have hin : ∀ a ∈ [g0, g1, g2, g3], ∃ (h : Nat) (o : AO), gs[h]? = some a ∧ os[h]? = some o ∧ o.live := by
      intro a ha
      simp only [List.mem_cons, List.not_mem_nil, or_false] at ha
      rcases ha with rfl | rfl | rfl | rfl
      · exact ⟨h0, _, q0, o0, trivial⟩
      · exact ⟨h1, _, q1, o1, trivial⟩
      · exact ⟨h2, _, q2, o2, trivial⟩
      · exact ⟨h3, _, q3, o3, trivial⟩
    have okb : ∀ b, okOf gs os b → okB g0 g1 g2 g3 b := fun b hb a ha hm => by
      obtain ⟨h, o, p1, p2, p3⟩ := hin a ha
      exact hb h a o p1 p2 p3 hm
    have kpb : Keeps (okOf gs os) (okB g0 g1 g2 g3) w w := fun b hb _ => ⟨okb b hb, rfl⟩
    have dis : ∀ {i j : Nat} {a b : Gh} {p q : AO}, i ≠ j → gs[i]? = some a → gs[j]? = some b → os[i]? = some p → os[j]? = some q → p.live → q.live → ∀ c, c ∈ a.bl → c ∉ b.bl := fun hij x1 x2 y1 y2 l1 l2 => hr.hd _ _ _ _ _ _ hij x1 x2 y1 y2 l1.ne l2.ne
    have hWk : Wk T e eb base w g0 g1 g2 g3 z0 z1 st := by
      refine ⟨d1, ⟨d6 _ (by simp), d6 _ (by simp)⟩, d2, d3, d4, r1, r2, RO.slrb r3, ?_, fun a ha c hc => ?_⟩
      · intro i j a b hij ha hb
        match i, j with
        | 0, 0 => omega
        | 0, 1 => cases ha; cases hb; exact dis n01 q0 q1 o0 o1 trivial trivial
        | 0, 2 => cases ha; cases hb; exact dis n02 q0 q2 o0 o2 trivial trivial
        | 0, 3 => cases ha; cases hb; exact dis n03 q0 q3 o0 o3 trivial trivial
        | 1, 0 => cases ha; cases hb; exact dis (Ne.symm n01) q1 q0 o1 o0 trivial trivial
        | 1, 1 => omega
        | 1, 2 => cases ha; cases hb; exact dis n12 q1 q2 o1 o2 trivial trivial
        | 1, 3 => cases ha; cases hb; exact dis n13 q1 q3 o1 o3 trivial trivial
        | 2, 0 => cases ha; cases hb; exact dis (Ne.symm n02) q2 q0 o2 o0 trivial trivial
        | 2, 1 => cases ha; cases hb; exact dis (Ne.symm n12) q2 q1 o2 o1 trivial trivial
        | 2, 2 => omega
        | 2, 3 => cases ha; cases hb; exact dis n23 q2 q3 o2 o3 trivial trivial
        | 3, 0 => cases ha; cases hb; exact dis (Ne.symm n03) q3 q0 o3 o0 trivial trivial
        | 3, 1 => cases ha; cases hb; exact dis (Ne.symm n13) q3 q1 o3 o1 trivial trivial
        | 3, 2 => cases ha; cases hb; exact dis (Ne.symm n23) q3 q2 o3 o2 trivial trivial
        | 3, 3 => omega
        | i + 4, _ => simp at ha
        | 0, j + 4 => simp at hb
        | 1, j + 4 => simp at hb
        | 2, j + 4 => simp at hb
        | 3, j + 4 => simp at hb
      · obtain ⟨h, o, p1, p2, p3⟩ := hin a ha
        exact hr.hn h a o p1 p2 p3.ne c hc
    have hxv := hr.ev x
    rw [hx] at hxv
    have ex : Act.eval ⟨tm, []⟩ x = g0.v := by
      generalize Act.eval ⟨tm, []⟩ x = v at hxv
      cases hxv with
      | optr hh => rw [q0] at hh; cases hh; exact d4.symm
    have exs : xs.map (Act.eval ⟨tm, []⟩) = as0 := by
      have hlen : xs.length = as0.length := by simpa using congrArg List.length hxs
      apply List.ext_getElem (by simpa using hlen)
      intro i k1 k2
      have k3 : i < xs.length := by simpa using k1
      have : AV.ev env xs[i] = .val as0[i] := by
        have := congrArg (fun l => l[i]?) hxs
        simpa [List.getElem?_eq_getElem k3, List.getElem?_eq_getElem k2] using this
      simpa using hr.evv this
    refine ⟨f, _, run_call hc.1 (x :: xs) ats _ rfl w, ?_⟩
    have eargs : ((x :: xs).map (Act.eval ⟨tm, []⟩)).toArray = (g0.v :: as0).toArray := by rw [List.map_cons, ex, exs]
    rw [eargs]
    refine (hc.2 base w g0 g1 g2 g3 z0 z1 hr.hb hWk (hw0.mono kpb) (hw1.mono kpb)).mono ?_
    rintro ev w' ⟨rfl, hWk', hbel, hfr⟩
    obtain ⟨c1, c1', c2, c3, c4, c5, c6, c7, c8, c9⟩ := hWk'
    have l0 := (List.getElem?_eq_some_iff.1 o0).1
    have l1 := (List.getElem?_eq_some_iff.1 o1).1
    have l2 := (List.getElem?_eq_some_iff.1 o2).1
    have l3 := (List.getElem?_eq_some_iff.1 o3).1
    have oget : ∀ i : Nat, ((((os.set h0 (.bx T [a0, a1, .own h1, .own h2, .own h3, .b st'.l])).set h1 (.sli e st'.f)).set h2 (.sli e st'.g)).set h3 (.slr eb (bL st'.s)))[i]? =
        if i = h3 then some (.slr eb (bL st'.s)) else if i = h2 then some (.sli e st'.g) else if i = h1 then some (.sli e st'.f) else if i = h0 then some (.bx T [a0, a1, .own h1, .own h2, .own h3, .b st'.l]) else os[i]? := by
      intro i
      simp only [List.getElem?_set, List.length_set]
      by_cases e3 : h3 = i
      · subst e3; simp [l3]
      · have e3' : ¬ i = h3 := fun e => e3 e.symm
        by_cases e2 : h2 = i
        · subst e2; simp [l2, e3, e3']
        · have e2' : ¬ i = h2 := fun e => e2 e.symm
          by_cases e1 : h1 = i
          · subst e1; simp [l1, e3, e3', e2, e2']
          · have e1' : ¬ i = h1 := fun e => e1 e.symm
            by_cases e0 : h0 = i
            · subst e0; simp [l0, e3, e3', e2, e2', e1, e1']
            · have e0' : ¬ i = h0 := fun e => e0 e.symm
              simp [e3, e3', e2, e2', e1, e1', e0, e0']
    refine ⟨rv, .val rv, env, _, gs, rfl, ⟨rfl, rfl, rfl⟩, hr.upds [h0, h1, h2, h3] (by simp) (fun i hi => ?_) (fun i hi o o' ho ho' => ?_) (fun b hb hn => ?_) hbel.size (fun kp i hi gx o' hgx ho' => ?_), .val rv, hbel⟩
    · simp only [List.mem_cons, List.not_mem_nil, or_false, not_or] at hi
      rw [oget, if_neg hi.2.2.2, if_neg hi.2.2.1, if_neg hi.2.1, if_neg hi.1]
    · rw [oget] at ho'
      simp only [List.mem_cons, List.not_mem_nil, or_false] at hi
      rcases hi with rfl | rfl | rfl | rfl
      · rw [if_neg n03, if_neg n02, if_neg n01, if_pos rfl] at ho'
        rw [o0] at ho; cases ho; cases ho'; exact ⟨trivial, trivial⟩
      · rw [if_neg n13, if_neg n12, if_pos rfl] at ho'
        rw [o1] at ho; cases ho; cases ho'; exact ⟨trivial, trivial⟩
      · rw [if_neg n23, if_pos rfl] at ho'
        rw [o2] at ho; cases ho; cases ho'; exact ⟨trivial, trivial⟩
      · rw [if_pos rfl] at ho'
        rw [o3] at ho; cases ho; cases ho'; exact ⟨trivial, trivial⟩
    · refine hfr b hb fun a ha => ?_
      simp only [List.mem_cons, List.not_mem_nil, or_false] at ha
      rcases ha with rfl | rfl | rfl | rfl
      · exact hn h0 (by simp) _ q0
      · exact hn h1 (by simp) _ q1
      · exact hn h2 (by simp) _ q2
      · exact hn h3 (by simp) _ q3
    · rw [oget] at ho'
      simp only [List.mem_cons, List.not_mem_nil, or_false] at hi
      rcases hi with rfl | rfl | rfl | rfl
      · rw [if_neg n03, if_neg n02, if_neg n01, if_pos rfl] at ho'
        rw [q0] at hgx; cases hgx; cases ho'
        refine ⟨[z0, z1, g1.v, g2.v, g3.v, .bool st'.l], c1, c2, c3, c4, rfl, ?_, fun j => ?_⟩
        · intro z hz
          simp only [List.mem_cons, List.not_mem_nil, or_false] at hz
          rcases hz with rfl | rfl | rfl | rfl | rfl | rfl
          · exact c1'.1
          · exact c1'.2
          · exact d6 _ (by simp)
          · exact d6 _ (by simp)
          · exact d6 _ (by simp)
          · rfl
        · match j with
          | 0 => exact t0.mono kp fun _ _ h => h
          | 1 => exact t1.mono kp fun _ _ h => h
          | 2 => exact .own q1
          | 3 => exact .own q2
          | 4 => exact .own q3
          | 5 => exact .val _
          | j + 6 => exact .any _
      · rw [if_neg n13, if_neg n12, if_pos rfl] at ho'
        rw [q1] at hgx; cases hgx; cases ho'; exact c5
      · rw [if_neg n23, if_pos rfl] at ho'
        rw [q2] at hgx; cases hgx; cases ho'; exact c6
      · rw [if_pos rfl] at ho'
        rw [q3] at hgx; cases hgx; cases ho'; exact RO.slrb c7
end

section
variable {P : Program} {env : Env} {os : List AO} {d : Tmp} {ty : TypeId} {pos : String} {af : Array Edge} {g : Option (Nat × Bool)} {l rest : List Oper} {K : APost} {q : Md}
theorem w_callb {f : FuncId} {T e eb : TypeId} {W : List Int} {N : List (List Int)} {as0 : List Value} {st st' : WS} {rv : Value} {h0 h1 h2 h3 : Nat} {a0 a1 : AV} {x : Operand} {xs : List Operand} {ats : Array TypeId} {fl gl : List Int} {sl : List Bool} {b : Bool} (hc : AFnB P f T e eb W N as0 st st' rv) (hx : evo env x = some (.optr h0 0))
    (o0 : os[h0]? = some (.bx T [a0, a1, .own h1, .own h2, .own h3, .b b])) (o1 : os[h1]? = some (.sli e fl)) (o2 : os[h2]? = some (.sli e gl)) (o3 : os[h3]? = some (.slr eb (bL sl))) (hst : st = ⟨fl, gl, sl, b⟩) (hxs : xs.map (AV.ev env) = as0.map AV.val)
    (ra : RdI a0 W) (rn : RdN a1 N) (hne : ((h0 == h1) || (h0 == h2) || (h0 == h3) || (h1 == h2) || (h1 == h3) || (h2 == h3)) = false)
    (h' : AOps P .seq l rest K (env.up d (.val rv)) ((((os.set h0 (.bx T [a0, a1, .own h1, .own h2, .own h3, .b st'.l])).set h1 (.sli e st'.f)).set h2 (.sli e st'.g)).set h3 (.slr eb (bL st'.s)))) :
    AOps P .seq l (⟨some d, .call { callee := .value (.func f), args := (x :: xs).toArray, argTypes := ats }, ty, pos, af, none⟩ :: rest) K env os := by
  subst hst
  exact AOps.ca (c_callb hc (ev_of hx) o0 o1 o2 o3 hxs ra rn hne) fun r e' o ⟨h1, h2, h3⟩ => by subst h1; subst h2; subst h3; exact h'
theorem QOp.weak {o : Oper} {a a' : AV} {b : Bool} (h : QOp P b o env os a) (hw : ∀ w ok gs v, RV w ok gs v a → RV w ok gs v a') : QOp P b o env os a' := by
  unfold QOp at *
  exact fun base w gs tm hr => let ⟨v, h1, h2⟩ := h base w gs tm hr; ⟨v, hw _ _ _ _ h1, h2⟩
/-- A field that is read: its numbers, its rows. -/
theorem w_ldbi {t : TypeId} [TCell P t] {x : Operand} {h i : Nat} {T : TypeId} {avs : List AV} {u : Value} {W : List Int} (hw : wantedA l env ⟨some d, .load t x, ty, pos, af, g⟩ = some true) (hq : q.wl = false) (hx : evo env x = some (.optr h i)) (hs : os[h]? = some (.bx T avs)) (hi : avs[i]? = some (.ro (roI u W)))
    (h' : AOps P q l rest K (env.up d (.ints W)) os) : AOps P q l (⟨some d, .load t x, ty, pos, af, g⟩ :: rest) K env os :=
  AOps.qo hw (by rw [hq]; exact (QOp.cast (gdl hi) (q_load_bx (ev_of hx) hs (lt_of_get hi))).weak fun _ _ _ _ h => .ints (rdI_ro u W _ _ _ _ h)) h'
theorem w_ldbn {t : TypeId} [TCell P t] {x : Operand} {h i : Nat} {T : TypeId} {avs : List AV} {u : Value} {N : List (List Int)} (hw : wantedA l env ⟨some d, .load t x, ty, pos, af, g⟩ = some true) (hq : q.wl = false) (hx : evo env x = some (.optr h i)) (hs : os[h]? = some (.bx T avs)) (hi : avs[i]? = some (.ro (roN u N)))
    (h' : AOps P q l rest K (env.up d (.intss N)) os) : AOps P q l (⟨some d, .load t x, ty, pos, af, g⟩ :: rest) K env os :=
  AOps.qo hw (by rw [hq]; exact (QOp.cast (gdl hi) (q_load_bx (ev_of hx) hs (lt_of_get hi))).weak fun _ _ _ _ h => .intss (rdN_ro u N _ _ _ _ h)) h'
end
end Go.Proofs.Ytcolpjpppdmanaa
/-
  Regions that draw their order: a load is taken first where nothing that may come ahead of it writes. No condition.
-/
namespace Go.Proofs.Ytcolpjpppdmanaa
open Go Go.RowKit

/-- Whatever order is picked; behind an operation of G what was there is there still. -/
def wpAnyG (P : Program) (ops : Array Oper) (Q : Exit → Act → World → Prop) (G : Nat → Bool) : Nat → Array Bool → Act → World → Prop
  | 0, listed, a, w => Region.ready .any ops listed = [] ∧ Q .normal a w
  | fuel + 1, listed, a, w =>
    (Region.ready .any ops listed = [] → Q .normal a w) ∧
    ∀ i ∈ Region.ready .any ops listed, wpOp P ops Q i (fun a' w' => (G i = true → Below w.heap.size w w') ∧ wpAnyG P ops Q G fuel (listed.setIfInBounds i true) a' w') a w

theorem wpAny_of_G {P : Program} {ops : Array Oper} {Q : Exit → Act → World → Prop} {G : Nat → Bool} : ∀ (fuel : Nat) (listed : Array Bool) (a : Act) (w : World), wpAnyG P ops Q G fuel listed a w → wpAny P .any ops Q fuel listed a w
  | 0, _, _, _, h => h
  | fuel + 1, _, _, _, h => ⟨h.1, fun i hi => wpOp_mono (fun a' w' h' => wpAny_of_G fuel _ a' w' h'.2) (h.2 i hi)⟩

theorem wpAnyG_first {P : Program} {ops : Array Oper} {Q : Exit → Act → World → Prop} {G : Nat → Bool} {w0 : World} {i : Nat} {oi : Oper} {v : Value} (hi : ops[i]? = some oi) (hsel : ∀ (j : Nat) (o : Oper) cs b, ops[j]? = some o → o.op ≠ .select cs b)
    (hQ : ∀ c a w, Q (.panic c) (a.put oi.dst v) w → Q (.panic c) a w) (W : Nat → Bool)
    (hW : ∀ j oj, ops[j]? = some oj → W j = true → ∃ e ∈ oj.after, Region.binds .any e = true ∧ (e.on = i ∨ W e.on = true)) :
    ∀ (fuel : Nat) (listed : Array Bool) (a : Act) (w : World),
      (∀ j, W j = true → listed.getD j true = false) → listed.getD i true = false →
      (∀ j oj, ops[j]? = some oj → j ≠ i → listed.getD j true = false → W j = false → G j = true ∧ oi.apart ops oj = true) →
      i ∈ Region.ready .any ops listed → YieldsIf P ops (fun w' => Below w0.heap.size w0 w') oi v a → Below w0.heap.size w0 w →
      wpAnyG P ops Q G fuel (listed.setIfInBounds i true) (a.put oi.dst v) w → wpAnyG P ops Q G (fuel + 1) listed a w := by
  intro fuel
  induction fuel with
  | zero =>
    intro listed a w _ _ _ hr hy hS H
    refine ⟨fun h => (by rw [h] at hr; cases hr), fun j hj => ?_⟩
    by_cases hji : j = i
    · subst hji; exact hy.wpOp hi hS ⟨fun _ => Below.refl _ _, H⟩
    · have := ready_mono hj hji
      rw [H.1] at this
      cases this
  | succ fuel ih =>
    intro listed a w hWl hil hfree hr hy hS H
    refine ⟨fun h => (by rw [h] at hr; cases hr), fun j hj => ?_⟩
    by_cases hji : j = i
    · subst hji; exact hy.wpOp hi hS ⟨fun _ => Below.refl _ _, H⟩
    · have h1 := H.2 j (ready_mono hj hji)
      obtain ⟨hjun, oj, hoj, hall⟩ := mem_ready.1 hj
      have hWj : W j = false := by
        cases hc : W j with
        | false => rfl
        | true =>
          obtain ⟨e, he, hb, hor⟩ := hW j oj hoj hc
          have h1 := hall e he hb
          have tf : listed.getD e.on true = false → False := fun h0 => by
            rcases Nat.lt_or_ge e.on listed.size with h' | h'
            · simp [h'] at h0 h1; rw [h0] at h1; cases h1
            · simp [Array.getElem?_eq_none h'] at h1
          rcases hor with hor | hor
          · rw [hor] at tf; exact (tf hil).elim
          · exact (tf (hWl _ hor)).elim
      obtain ⟨hG, hap⟩ := hfree j oj hoj hji hjun hWj
      have h2 := wpOp_putIf hoj hap (fun cs b => hsel i oi cs b hi) (fun cs b => hsel j oj cs b hoj) hQ hy h1
      have gne : ∀ {k : Nat}, k ≠ j → (listed.setIfInBounds j true).getD k true = listed.getD k true := fun hk => getD_set_ne true (Ne.symm hk)
      refine wpOp_mono (fun a' w' h3 => ⟨h3.2.1, ih (listed.setIfInBounds j true) a' w' ?_ ?_ ?_ (ready_mono hr (Ne.symm hji)) h3.1 ?_ ?_⟩) h2
      · intro k hk
        rw [gne (fun e => by subst e; rw [hWj] at hk; cases hk)]
        exact hWl k hk
      · rw [gne (fun e => hji e.symm)]; exact hil
      · intro k ok hk hki hun hWk
        by_cases hkj : k = j
        · subst hkj
          exact hfree k ok hk hki hjun hWk
        · rw [gne hkj] at hun
          exact hfree k ok hk hki hun hWk
      · have := h3.2.1 hG
        exact hS.trans (this.mono hS.size)
      · rw [Array.setIfInBounds_comm _ _ hji]
        exact h3.2.2

theorem wpAnyG_firstY {P : Program} {ops : Array Oper} {Q : Exit → Act → World → Prop} {G : Nat → Bool} {i : Nat} {oi : Oper} {v : Value} (hi : ops[i]? = some oi) (hsel : ∀ (j : Nat) (o : Oper) cs b, ops[j]? = some o → o.op ≠ .select cs b)
    (hQ : ∀ c a w, Q (.panic c) (a.put oi.dst v) w → Q (.panic c) a w) :
    ∀ (fuel : Nat) (listed : Array Bool) (a : Act) (w : World),
      (∀ j oj, ops[j]? = some oj → j ≠ i → listed.getD j true = false → (∀ e ∈ oj.after, Region.binds .any e = true → e.on ≠ i) → oi.apart ops oj = true) →
      i ∈ Region.ready .any ops listed → Yields P ops oi v a →
      wpAnyG P ops Q G fuel (listed.setIfInBounds i true) (a.put oi.dst v) w → wpAnyG P ops Q G (fuel + 1) listed a w := by
  intro fuel
  induction fuel with
  | zero =>
    intro listed a w _ hr hy H
    refine ⟨fun h => (by rw [h] at hr; cases hr), fun j hj => ?_⟩
    by_cases hji : j = i
    · subst hji; exact hy.wpOp hi ⟨fun _ => Below.refl _ _, H⟩
    · have := ready_mono hj hji
      rw [H.1] at this
      cases this
  | succ fuel ih =>
    intro listed a w hfree hr hy H
    refine ⟨fun h => (by rw [h] at hr; cases hr), fun j hj => ?_⟩
    by_cases hji : j = i
    · subst hji; exact hy.wpOp hi ⟨fun _ => Below.refl _ _, H⟩
    · have h1 := H.2 j (ready_mono hj hji)
      obtain ⟨hjun, oj, hoj, hall⟩ := mem_ready.1 hj
      have hnot : ∀ e ∈ oj.after, Region.binds .any e = true → e.on ≠ i := fun e he hb heq => by
        have h1 := hall e he hb
        have h0 := (mem_ready.1 hr).1
        rw [heq] at h1
        rcases Nat.lt_or_ge i listed.size with h' | h'
        · simp [h'] at h0 h1; rw [h0] at h1; cases h1
        · simp [Array.getElem?_eq_none h'] at h1
      have h2 := wpOp_put hoj (hfree j oj hoj hji hjun hnot) (fun cs b => hsel i oi cs b hi) (fun cs b => hsel j oj cs b hoj) hQ hy h1
      have hfree' : ∀ k ok, ops[k]? = some ok → k ≠ i → (listed.setIfInBounds j true).getD k true = false →
          (∀ e ∈ ok.after, Region.binds .any e = true → e.on ≠ i) → oi.apart ops ok = true := fun k ok hk hki hun hno => by
        refine hfree k ok hk hki ?_ hno
        by_cases hjk : j = k
        · subst hjk; exact hjun
        · rw [getD_set_ne true hjk] at hun; exact hun
      refine wpOp_mono (fun a' w' h3 => ⟨h3.2.1, ih (listed.setIfInBounds j true) a' w' hfree' (ready_mono hr (Ne.symm hji)) h3.1 ?_⟩) h2
      rw [Array.setIfInBounds_comm _ _ hji]
      exact h3.2.2

/-- What writes nothing: no world asked, a load, a call of one of these functions. -/
def gentB (qs : List Nat) (o : Oper) : Bool :=
  wlessB o || match o.op with
    | .load _ _ => true
    | .call c => match c.callee with
      | .value (.func f) => qs.contains f
      | _ => false
    | _ => false
def gentle (qs : List Nat) (l : List Oper) (j : Nat) : Bool := match l[j]? with | some o => gentB qs o | none => false

/-- Which ones wait for i. -/
def waitsFor (i : Nat) : List Oper → List Bool → List Bool
  | [], acc => acc
  | o :: os, acc => waitsFor i os (acc ++ [o.after.toList.any fun e => Region.binds .any e && (e.on == i || acc.getD e.on false)])
def okW (l : List Oper) (i : Nat) (W : List Bool) : Bool := (List.range l.length).all fun j => !W.getD j false || match l[j]? with | some o => o.after.toList.any fun e => Region.binds .any e && (e.on == i || W.getD e.on false) | none => false
/-- i may be taken first. -/
def freeG (qs : List Nat) (l : List Oper) (listed : List Bool) (i : Nat) : Bool :=
  let W := waitsFor i l []
  okW l i W && W.length == l.length && (List.range l.length).all (fun j => !W.getD j false || !listed.getD j true) && !listed.getD i true &&
    match l[i]? with
    | none => false
    | some oi => (List.range l.length).all fun j => j == i || listed.getD j true || W.getD j false || match l[j]? with
      | some oj => gentB qs oj && oi.apart l.toArray oj
      | none => true

def AAnyG (P : Program) (qs : List Nat) (l : List Oper) (fuel : Nat) (listed : List Bool) (K : APost) (env : Env) (os : List AO) : Prop :=
  ∀ base w0 w gs tm, Rel base w gs env os tm → Below base w0 w → ∀ X Rt, wpAnyG P l.toArray (Post base w0 K X Rt) (gentle qs l) fuel listed.toArray ⟨tm, []⟩ w

/-- Each of these comes up next. -/
def AllOfG (P : Program) (qs : List Nat) (l : List Oper) (fuel : Nat) (listed : List Bool) (K : APost) (env : Env) (os : List AO) : List Nat → Prop
  | [] => True
  | i :: is => (∃ o, l[i]? = some o ∧ AOps P (cond (gentB qs o) .quiet .seq) l [o] (fun env os => AAnyG P qs l fuel (listed.set i true) K env os) env os) ∧ AllOfG P qs l fuel listed K env os is

section
variable {P : Program} {N : APost} {X : Nat → APost} {Rt : APost} {env : Env} {os : List AO} {l : List Oper} {K : APost} {fuel : Nat} {listed : List Bool} {qs : List Nat}

theorem AllOfG.get : ∀ {rs : List Nat}, AllOfG P qs l fuel listed K env os rs → ∀ i ∈ rs, ∃ o, l[i]? = some o ∧ AOps P (cond (gentB qs o) .quiet .seq) l [o] (fun env os => AAnyG P qs l fuel (listed.set i true) K env os) env os
  | [], _, i, h => by cases h
  | j :: rs, h, i, hi => by
    rcases List.mem_cons.1 hi with rfl | hi
    · exact h.1
    · exact AllOfG.get h.2 i hi
theorem AllOfG.nil : AllOfG P qs l fuel listed K env os [] := trivial
theorem AllOfG.consQ {i : Nat} {o : Oper} {is : List Nat} (ho : l[i]? = some o) (hg : gentB qs o = true) (h : AOps P .quiet l [o] (fun env os => AAnyG P qs l fuel (listed.set i true) K env os) env os) (hs : AllOfG P qs l fuel listed K env os is) :
    AllOfG P qs l fuel listed K env os (i :: is) := ⟨⟨o, ho, by rw [hg]; exact h⟩, hs⟩
theorem AllOfG.consS {i : Nat} {o : Oper} {is : List Nat} (ho : l[i]? = some o) (hg : gentB qs o = false) (h : AOps P .seq l [o] (fun env os => AAnyG P qs l fuel (listed.set i true) K env os) env os) (hs : AllOfG P qs l fuel listed K env os is) :
    AllOfG P qs l fuel listed K env os (i :: is) := ⟨⟨o, ho, by rw [hg]; exact h⟩, hs⟩

theorem AAnyG.all {i : Nat} {is : List Nat} (hr : rdyGo listed 0 l = i :: is) (h : AllOfG P qs l fuel listed K env os (i :: is)) : AAnyG P qs l (fuel + 1) listed K env os := by
  intro base w0 w gs tm hrel hb X Rt
  refine ⟨fun h0 => ?_, fun j hj => ?_⟩
  · have : i ∈ Region.ready .any l.toArray listed.toArray := mem_rdy.2 (by rw [hr]; simp)
    rw [h0] at this; cases this
  · have hj' := mem_rdy.1 hj
    rw [hr] at hj'
    obtain ⟨o, ho, hop⟩ := h.get j hj'
    have ho' : l.toArray[j]? = some o := by simpa using ho
    have hgj : gentle qs l j = gentB qs o := by unfold gentle; rw [ho]
    have kk : ∀ a w', Post base w0 (fun env os => AAnyG P qs l fuel (listed.set j true) K env os) X Rt .normal a w' → wpAnyG P l.toArray (Post base w0 K X Rt) (gentle qs l) fuel (listed.toArray.setIfInBounds j true) a w' := by
      rintro a w' ⟨env', os', gs', h1, h2, h3, h4⟩
      have ea : a = ⟨a.tmps, []⟩ := by cases a; simp_all
      rw [ea]
      have := h4 base w0 w' gs' a.tmps h1 h3 X Rt
      rwa [show listed.toArray.setIfInBounds j true = (listed.set j true).toArray from by simp]
    cases hg : gentB qs o with
    | false =>
      rw [hg] at hop
      have := hop base w0 w gs tm hrel hb X Rt
      unfold wpOp
      rw [ho']
      unfold wpList at this
      simp only
      rw [hgj, hg]
      split
      · rename_i hw
        rw [if_pos hw] at this
        rcases this with this | ⟨h1, ⟨a, w', h2⟩⟩
        · exact .inl (Oper.wp_mono2 (fun a w' h => ⟨fun e => (by cases e), kk a w' h⟩) (fun _ _ _ h => (h : False).elim) (fun ⟨_, _, h⟩ => (h : False).elim) this)
        · exact (h2 : False).elim
      · rename_i hw
        rw [if_neg hw] at this
        exact ⟨fun e => (by cases e), kk _ _ this⟩
    | true =>
      rw [hg] at hop
      have := hop base w gs tm hrel
      unfold wpOp
      rw [ho']
      unfold wpQuiet at this
      simp only
      have kq : ∀ (a : Act) w', Below w.heap.size w w' → wpQuiet P l.toArray (fun w' => Below w.heap.size w w') (fun a' => ∃ env' os' gs', AAnyG P qs l fuel (listed.set j true) K env' os' ∧ a'.defers = [] ∧ ∀ w', Below w.heap.size w w' → Rel base w' gs' env' os' a'.tmps) [] a →
          (gentle qs l j = true → Below w.heap.size w w') ∧ wpAnyG P l.toArray (Post base w0 K X Rt) (gentle qs l) fuel (listed.toArray.setIfInBounds j true) a w' := by
        rintro a w' hbw ⟨env', os', gs', h1, h2, h3⟩
        exact ⟨fun _ => hbw, kk a w' ⟨env', os', gs', h3 w' hbw, h2, hb.trans (hbw.mono hrel.hb), h1⟩⟩
      split
      · rename_i hw
        rw [if_pos hw] at this
        obtain ⟨v, hv, hn⟩ := this
        refine .inl (Oper.wp_of_quiet (C := fun w' => Below w.heap.size w w') (K := fun a' => a' = Act.put ⟨tm, []⟩ o.dst v) (Below.refl _ _) ?_ ⟨v, hv, rfl⟩)
        intro a' w' hw' he
        subst he
        exact kq _ w' hw' hn
      · rename_i hw
        rw [if_neg hw] at this
        exact kq _ w (Below.refl _ _) this

theorem AAnyG.done (hr : rdyGo listed 0 l = []) (h : K env os) : AAnyG P qs l fuel listed K env os := by
  intro base w0 w gs tm hrel hb X Rt
  have hr' : Region.ready .any l.toArray listed.toArray = [] := by
    apply List.eq_nil_iff_forall_not_mem.2
    intro j hj
    have := mem_rdy.1 hj
    rw [hr] at this; cases this
  cases fuel with
  | zero => exact ⟨hr', env, os, gs, hrel, rfl, hb, h⟩
  | succ n => exact ⟨fun _ => ⟨env, os, gs, hrel, rfl, hb, h⟩, by rw [hr']; intro j hj; cases hj⟩

theorem run_load_val {P : Program} {ρ : Operand → Value} {d : Option Tmp} {t : TypeId} {x : Operand} {ty : TypeId} {pos : String} {af : Array Edge} {g : Option (Nat × Bool)} {w w' : World} {n : Next} (h : (execOp ρ ⟨d, .load t x, ty, pos, af, g⟩).run P w = .ok n w') : ∃ u, n = .value u := by
  simp only [execOp, Sem.run_bind, Sem.run_pure, Result.andThen] at h
  split at h
  · cases h; exact ⟨_, rfl⟩
  · cases h

theorem free_parts {i : Nat} {oi : Oper} (hi : l[i]? = some oi) (h : freeG qs l listed i = true) : ∃ W : Nat → Bool,
    (∀ j oj, l[j]? = some oj → W j = true → ∃ e ∈ oj.after, Region.binds .any e = true ∧ (e.on = i ∨ W e.on = true)) ∧ (∀ j, W j = true → listed.getD j true = false) ∧ listed.getD i true = false ∧
    (∀ j oj, l[j]? = some oj → j ≠ i → listed.getD j true = false → W j = false → gentle qs l j = true ∧ oi.apart l.toArray oj = true) := by
  simp only [freeG, hi, okW, Bool.and_eq_true, List.all_eq_true, List.mem_range] at h
  obtain ⟨⟨⟨⟨h1, h2⟩, h3⟩, h4⟩, h5⟩ := h
  have hlen : (waitsFor i l []).length = l.length := by simpa using h2
  have lt : ∀ j, (waitsFor i l []).getD j false = true → j < l.length := fun j hj => by
    rcases Nat.lt_or_ge j l.length with h | h
    · exact h
    · rw [List.getD_eq_getElem?_getD, List.getElem?_eq_none (by omega)] at hj; cases hj
  refine ⟨fun j => (waitsFor i l []).getD j false, fun j oj hj hw => ?_, fun j hw => ?_, by simpa using h4, fun j oj hj hne hun hw => ?_⟩
  · have := h1 j (lt j hw)
    simp only [hw, hj, Bool.not_true, Bool.false_or, List.any_eq_true, Bool.and_eq_true, Bool.or_eq_true, beq_iff_eq] at this
    obtain ⟨e, he, hb, hor⟩ := this
    exact ⟨e, by simpa using he, hb, hor⟩
  · have := h3 j (lt j hw)
    simp only [hw, Bool.not_true, Bool.false_or] at this
    simpa using this
  · have := h5 j (List.getElem?_eq_some_iff.1 hj).1
    have hne' : (j == i) = false := by simpa using hne
    simp only [hj, hne', hun, hw, Bool.false_or, Bool.and_eq_true] at this
    exact ⟨by unfold gentle; rw [hj]; exact this.1, this.2⟩

/-- An operation that needs no world is taken first. -/
theorem AAnyG.takeW {i : Nat} {o : Oper} (hi : findW l (rdyGo listed 0 l) = some i) (ho : l[i]? = some o) (hs : Region.noSelect l.toArray = true) (hf : Region.free .any l.toArray listed.toArray i = true)
    (h : AOps P .wless l [o] (fun env os => AAnyG P qs l fuel (listed.set i true) K env os) env os) : AAnyG P qs l (fuel + 1) listed K env os := by
  intro base w0 w gs tm hrel hb X Rt
  obtain ⟨v, hy, env', os', gs', hk, hd, hr'⟩ := h base w gs tm hrel
  have ho' : l.toArray[i]? = some o := by simpa using ho
  refine wpAnyG_firstY (oi := o) (v := v) ho' (Region.noSelect_spec hs) (fun _ _ _ h => h.elim) fuel listed.toArray _ _ (Region.free_spec ho' hf) (mem_rdy.2 (findW_mem hi)) hy ?_
  have := hk base w0 w gs' _ hr' hb X Rt
  rw [show listed.toArray.setIfInBounds i true = (listed.set i true).toArray from by simp]
  have e : (⟨(Act.put ⟨tm, []⟩ o.dst v).tmps, []⟩ : Act) = Act.put ⟨tm, []⟩ o.dst v := by
    have : (Act.put ⟨tm, []⟩ o.dst v).defers = [] := hd
    generalize Act.put ⟨tm, []⟩ o.dst v = a at this
    cases a; simp_all
  rw [e] at this
  exact this

def isLoad (o : Oper) : Bool := match o.op with | .load _ _ => true | _ => false
def findL (qs : List Nat) (l : List Oper) (listed : List Bool) : List Nat → Option Nat
  | [] => none
  | i :: is => cond ((match l[i]? with | some o => isLoad o | none => false) && freeG qs l listed i) (some i) (findL qs l listed is)
theorem findL_spec : ∀ {is : List Nat} {i : Nat}, findL qs l listed is = some i → i ∈ is ∧ freeG qs l listed i = true
  | [], _, h => by cases h
  | j :: is, i, h => by
    simp only [findL] at h
    cases hb : ((match l[j]? with | some o => isLoad o | none => false) && freeG qs l listed j) with
    | true => rw [hb] at h; simp at h; subst h; rw [Bool.and_eq_true] at hb; exact ⟨by simp, hb.2⟩
    | false => rw [hb] at h; have := findL_spec h; exact ⟨List.mem_cons_of_mem _ this.1, this.2⟩

/-- A load is taken first. -/
theorem AAnyG.takeL {i : Nat} {d : Option Tmp} {t : TypeId} {x : Operand} {ty : TypeId} {pos : String} {af : Array Edge} {g : Option (Nat × Bool)} (hi : findL qs l listed (rdyGo listed 0 l) = some i) (ho : l[i]? = some ⟨d, .load t x, ty, pos, af, g⟩) (hs : Region.noSelect l.toArray = true)
    (h : AOps P .quiet l [⟨d, .load t x, ty, pos, af, g⟩] (fun env os => AAnyG P qs l fuel (listed.set i true) K env os) env os) : AAnyG P qs l (fuel + 1) listed K env os := by
  intro base w0 w gs tm hrel hb X Rt
  have hq := h base w gs tm hrel
  obtain ⟨hm, hf⟩ := findL_spec hi
  obtain ⟨W, f1, f2, f3, f4⟩ := free_parts ho hf
  have key : ∀ v, YieldsIf P l.toArray (fun w' => Below w.heap.size w w') ⟨d, .load t x, ty, pos, af, g⟩ v ⟨tm, []⟩ →
      wpQuiet P l.toArray (fun w' => Below w.heap.size w w') (fun a' => ∃ env' os' gs', AAnyG P qs l fuel (listed.set i true) K env' os' ∧ a'.defers = [] ∧ ∀ w', Below w.heap.size w w' → Rel base w' gs' env' os' a'.tmps) [] (Act.put ⟨tm, []⟩ d v) →
      wpAnyG P l.toArray (Post base w0 K X Rt) (gentle qs l) (fuel + 1) listed.toArray ⟨tm, []⟩ w := by
    rintro v hy ⟨env', os', gs', hk, hd, hr'⟩
    refine wpAnyG_first (w0 := w) (v := v) (by simpa using ho) (Region.noSelect_spec hs) (fun _ _ _ h => h.elim) W (fun j oj hj => f1 j oj (by simpa using hj)) fuel listed.toArray _ _
      (fun j hj => by have := f2 j hj; simpa [List.getD_eq_getElem?_getD, Array.getD_eq_getD_getElem?] using this) (by simpa [List.getD_eq_getElem?_getD, Array.getD_eq_getD_getElem?] using f3)
      (fun j oj hj hne hun => f4 j oj (by simpa using hj) hne (by simpa [List.getD_eq_getElem?_getD, Array.getD_eq_getD_getElem?] using hun)) (mem_rdy.2 hm) hy (Below.refl _ _) ?_
    have := hk base w0 w gs' _ (hr' w (Below.refl _ _)) hb X Rt
    rw [show listed.toArray.setIfInBounds i true = (listed.set i true).toArray from by simp]
    have e : (⟨(Act.put ⟨tm, []⟩ d v).tmps, []⟩ : Act) = Act.put ⟨tm, []⟩ d v := by
      have : (Act.put ⟨tm, []⟩ d v).defers = [] := hd
      generalize Act.put ⟨tm, []⟩ d v = a at this
      cases a; simp_all
    rw [e] at this
    exact this
  unfold wpQuiet at hq
  split at hq
  · rename_i hw
    obtain ⟨v, hv, hn⟩ := hq
    refine key v (.inl ⟨hw, fun w' hw' => ?_⟩) hn
    have := hv w' hw'
    unfold Oper.quietAt at this
    generalize hrun : (execOp (Act.eval ⟨tm, []⟩) ⟨d, .load t x, ty, pos, af, g⟩).run P w' = r at this
    cases r with
    | ok n w1 =>
      obtain ⟨u, rfl⟩ := run_load_val hrun
      simp only [Oper.quietUpon] at this
      rw [this.1, this.2]
    | halt y w1 => simp only [Oper.quietUpon] at this
  · rename_i hw
    exact key undef (.inr ⟨by simpa using hw, rfl⟩) hq

/-- A region that draws its order: every order comes to a state that may be seen as (envC, osC). 'qs': functions that are only called for their plain values. -/
theorem AWp.regionG (qs : List Nat) {id : Nat} (hm : P.follows .mixedOrders = true) {envC : Env} {osC : List AO} {n : Nat} (hn : l.length = n) {listed : List Bool} (hl : List.replicate n false = listed)
    (h : AAnyG P qs l n listed (fun e o => Fit e o envC osC ∨ ∃ σ, FitS σ e o envC osC) env os) (hk : N envC osC) : AWp P (.region id l.toArray true) N X Rt env os := by
  refine AWp.regionA hm hn hl (fun base w0 w gs tm hr hb X Rt => wpAny_of_G _ _ _ _ (h base w0 w gs tm hr hb X Rt)) hk
end
end Go.Proofs.Ytcolpjpppdmanaa
/-
  Functions with three results, the first of them new memory. No condition.
-/
namespace Go.Proofs.Ytcolpjpppdmanaa
open Go Go.RowKit
theorem ResIs.a3 {P : Program} {fn : Func} {env : Env} {os : List AO} {t u s : Tmp} (h : fn.results = #[.tmp t, .tmp u, .tmp s]) {a b c : AV} (ha : env.fd t = some a) (hb : env.fd u = some b) (hc : env.fd s = some c) : ResIs P fn env os (.tup [a, b, c]) :=
  fun _ _ _ tm hr => ⟨_, results_tmp3 h tm P _, .tup (vs := [tm.getD t undef, tm.getD u undef, tm.getD s undef]) rfl fun i => by
    match i with
    | 0 => have := hr.he t; rw [gd_of ha] at this; exact this
    | 1 => have := hr.he u; rw [gd_of hb] at this; exact this
    | 2 => have := hr.he s; rw [gd_of hc] at this; exact this
    | i + 3 => exact .any _⟩
theorem Ret1.tup3 {os : List AO} {a r : AV} {objs : List AO} {v u : Value} (h : Ret1 os a r objs) : Ret1 os (.tup [a, .val v, .val u]) (.tup [r, .val v, .val u]) objs := fun base w gs env tm hr z hz => by
  cases hz with
  | @tup vs _ h1 h2 =>
    match vs, h1 with
    | [x, y, q], _ =>
      obtain ⟨gs', h3, h4⟩ := h base w gs env tm hr x (by simpa using h2 0)
      have h5 := h2 1
      simp at h5
      cases h5
      have h6 := h2 2
      simp at h6
      cases h6
      exact ⟨gs', h3, .tup (vs := [x, v, u]) rfl fun i => by
        match i with
        | 0 => exact h4
        | 1 => exact .val _
        | 2 => exact .val _
        | i + 3 => exact .any _⟩

end Go.Proofs.Ytcolpjpppdmanaa
/-
  A drawn region that makes five objects: their numbers follow from the slots that name them; structs of five given fields. No condition.
-/
namespace Go.Proofs.Ytcolpjpppdmanaa
open Go Go.RowKit
set_option linter.unusedVariables false

section
variable {P : Program} {env : Env} {os : List AO} {d : Option Tmp} {ty : TypeId} {pos : String} {af : Array Edge} {g : Option (Nat × Bool)} {wl : Bool}
theorem q_build56 {t : TypeId} {z1 z2 z3 z4 z5 z : Value} [ht : TBuild P t 6 [z1, z2, z3, z4, z5, z]] {x1 x2 x3 x4 x5 : Operand} {a1 a2 a3 a4 a5 : AV} (h1 : AV.ev env x1 = a1) (h2 : AV.ev env x2 = a2) (h3 : AV.ev env x3 = a3) (h4 : AV.ev env x4 = a4) (h5 : AV.ev env x5 = a5)
    (o1 : OneC env os a1) (o2 : OneC env os a2) (o3 : OneC env os a3) (o4 : OneC env os a4) (o5 : OneC env os a5) (hz : z.oneCell' = true) :
    QOp P wl ⟨d, .build t #[(0, x1), (1, x2), (2, x3), (3, x4), (4, x5)], ty, pos, af, g⟩ env os (.agg [a1, a2, a3, a4, a5, .val z]) :=
  .of_run fun _ w gs tm hr => by
    have v1 := hr.ev x1
    rw [h1] at v1
    have v2 := hr.ev x2
    rw [h2] at v2
    have v3 := hr.ev x3
    rw [h3] at v3
    have v4 := hr.ev x4
    rw [h4] at v4
    have v5 := hr.ev x5
    rw [h5] at v5
    obtain ⟨p1, c1⟩ := o1 _ _ _ _ hr _ v1
    obtain ⟨p2, c2⟩ := o2 _ _ _ _ hr _ v2
    obtain ⟨p3, c3⟩ := o3 _ _ _ _ hr _ v3
    obtain ⟨p4, c4⟩ := o4 _ _ _ _ hr _ v4
    obtain ⟨p5, c5⟩ := o5 _ _ _ _ hr _ v5
    refine ⟨.agg [Act.eval ⟨tm, []⟩ x1, Act.eval ⟨tm, []⟩ x2, Act.eval ⟨tm, []⟩ x3, Act.eval ⟨tm, []⟩ x4, Act.eval ⟨tm, []⟩ x5, z].toArray, .agg rfl (by simp; exact ⟨p1, p2, p3, p4, p5, hz⟩) (rv_list rfl fun i hi => ?_), fun w' _ => ?_⟩
    · match i, hi with
      | 0, _ => exact v1
      | 1, _ => exact v2
      | 2, _ => exact v3
      | 3, _ => exact v4
      | 4, _ => exact v5
      | 5, _ => exact .val _
    · have hb : P.built t (#[(0, Act.eval ⟨tm, []⟩ x1), (1, Act.eval ⟨tm, []⟩ x2), (2, Act.eval ⟨tm, []⟩ x3), (3, Act.eval ⟨tm, []⟩ x4), (4, Act.eval ⟨tm, []⟩ x5)] : Array (Nat × Value)).toList = some #[Act.eval ⟨tm, []⟩ x1, Act.eval ⟨tm, []⟩ x2, Act.eval ⟨tm, []⟩ x3, Act.eval ⟨tm, []⟩ x4, Act.eval ⟨tm, []⟩ x5, z] := by
        rcases ht.bl with e | e <;> rw [e] <;> simp [Instr.fill, c1, c2, c3, c4, c5, List.range_succ]
      simp [execOp, run_build (P := P) w' t _ _ hb]
end
section
variable {P : Program} {env : Env} {os : List AO} {d : Tmp} {ty : TypeId} {pos : String} {af : Array Edge} {g : Option (Nat × Bool)} {l rest : List Oper} {K : APost} {q : Md}
theorem w_build56 {t : TypeId} {z1 z2 z3 z4 z5 z : Value} [TBuild P t 6 [z1, z2, z3, z4, z5, z]] {x1 x2 x3 x4 x5 : Operand} {a1 a2 a3 a4 a5 : AV} (hw : wantedA l env ⟨some d, .build t #[(0, x1), (1, x2), (2, x3), (3, x4), (4, x5)], ty, pos, af, g⟩ = some true) (h1 : evo env x1 = some a1) (h2 : evo env x2 = some a2) (h3 : evo env x3 = some a3) (h4 : evo env x4 = some a4) (h5 : evo env x5 = some a5)
    (hz : z.oneCell' = true) (o1 : OneC env os a1) (o2 : OneC env os a2) (o3 : OneC env os a3) (o4 : OneC env os a4) (o5 : OneC env os a5)
    (h' : AOps P q l rest K (env.up d (.agg [a1, a2, a3, a4, a5, .val z])) os) : AOps P q l (⟨some d, .build t #[(0, x1), (1, x2), (2, x3), (3, x4), (4, x5)], ty, pos, af, g⟩ :: rest) K env os :=
  AOps.qo hw (q_build56 (ev_of h1) (ev_of h2) (ev_of h3) (ev_of h4) (ev_of h5) o1 o2 o3 o4 o5 hz) h'
end
theorem ResIs.a4 {P : Program} {env : Env} {os : List AO} {fn : Func} {t u s x : Tmp} (h : fn.results = #[.tmp t, .tmp u, .tmp s, .tmp x]) {a b c d : AV} (ha : env.fd t = some a) (hb : env.fd u = some b) (hc : env.fd s = some c) (hd : env.fd x = some d) : ResIs P fn env os (.tup [a, b, c, d]) :=
  fun _ _ _ tm hr => ⟨.tuple #[tm.getD t undef, tm.getD u undef, tm.getD s undef, tm.getD x undef], by unfold results; rw [h]; simp, .tup (vs := [tm.getD t undef, tm.getD u undef, tm.getD s undef, tm.getD x undef]) rfl fun i => by
    match i with
    | 0 => have := hr.he t; rw [gd_of ha] at this; exact this
    | 1 => have := hr.he u; rw [gd_of hb] at this; exact this
    | 2 => have := hr.he s; rw [gd_of hc] at this; exact this
    | 3 => have := hr.he x; rw [gd_of hd] at this; exact this
    | i + 4 => exact .any _⟩
end Go.Proofs.Ytcolpjpppdmanaa
/-
  Functions that use up own memory that is handed to them, and hand back own memory. No condition.
-/
namespace Go.Proofs.Ytcolpjpppdmanaa
open Go Go.RowKit

/-- Values that hold no more than two levels of parts, and read nothing. -/
def AV.fl0 : AV → Prop
  | .any => True
  | .val _ => True
  | .own _ => True
  | .optr _ _ => True
  | .osub _ _ _ => True
  | .orow _ _ => True
  | .orptr _ _ _ => True
  | _ => False
def AV.fl1 : AV → Prop
  | .agg l => ∀ a ∈ l, a.fl0
  | a => a.fl0
def AV.fl : AV → Prop
  | .agg l => ∀ a ∈ l, a.fl0
  | .tup l => ∀ a ∈ l, a.fl1
  | a => a.fl0
section
variable {w : World} {ok ok' : Nat → Prop} {gs : List Gh} {g0 : Gh}
theorem RV.unsh0 {v : Value} {a : AV} (hf : a.fl0) (hv : RV w ok (g0 :: gs) v (a.sh0 1)) : RV w ok' gs v a := by
  cases a with
  | any => exact .any v
  | val u => cases hv with | val => exact .val _
  | own k => cases hv with | own h => exact .own (by simpa using h)
  | optr k i => cases hv with | optr h => exact .optr (by simpa using h)
  | osub k i j => cases hv with | osub h h1 h2 h3 => exact .osub (by simpa using h) h1 h2 h3
  | orow k i => cases hv with | orow h h1 => exact .orow (by simpa using h) h1
  | orptr k i j => cases hv with | orptr h h1 => exact .orptr (by simpa using h) h1
  | _ => exact hf.elim
theorem getD_mem_any {l : List AV} {p : AV → Prop} (h : ∀ a ∈ l, p a) (hany : p .any) (i : Nat) : p (l.getD i .any) := by
  rw [List.getD_eq_getElem?_getD]
  cases e : l[i]? with
  | none => exact hany
  | some a => exact h a (List.mem_of_getElem? e)
theorem RV.unsh1 {v : Value} {a : AV} (hf : a.fl1) (hv : RV w ok (g0 :: gs) v (a.sh1 1)) : RV w ok' gs v a := by
  cases a with
  | agg l => cases hv with | agg h1 h3 h2 => exact .agg (by simpa using h1) h3 (fun i => RV.unsh0 (getD_mem_any hf trivial i) (by have := h2 i; rw [getD_map_any _ rfl] at this; exact this))
  | any => exact .any v
  | val u => exact RV.unsh0 (a := .val u) trivial hv
  | own k => exact RV.unsh0 (a := .own k) trivial hv
  | optr k i => exact RV.unsh0 (a := .optr k i) trivial hv
  | osub k i j => exact RV.unsh0 (a := .osub k i j) trivial hv
  | orow k i => exact RV.unsh0 (a := .orow k i) trivial hv
  | orptr k i j => exact RV.unsh0 (a := .orptr k i j) trivial hv
  | _ => exact hf.elim
theorem RV.unsh {v : Value} {a : AV} (hf : a.fl) (hv : RV w ok (g0 :: gs) v (a.sh 1)) : RV w ok' gs v a := by
  cases a with
  | agg l => exact RV.unsh1 (a := .agg l) hf hv
  | tup l => cases hv with | tup h1 h2 => exact .tup (by simpa using h1) (fun i => RV.unsh1 (getD_mem_any hf trivial i) (by have := h2 i; rw [getD_map_any _ rfl] at this; exact this))
  | any => exact .any v
  | val u => exact RV.unsh0 (a := .val u) trivial hv
  | own k => exact RV.unsh0 (a := .own k) trivial hv
  | optr k i => exact RV.unsh0 (a := .optr k i) trivial hv
  | osub k i j => exact RV.unsh0 (a := .osub k i j) trivial hv
  | orow k i => exact RV.unsh0 (a := .orow k i) trivial hv
  | orptr k i j => exact RV.unsh0 (a := .orptr k i j) trivial hv
  | _ => exact hf.elim
end

/-- The function uses up the objects 'objs', which its arguments name, and hands back r over the objects os', of which Q speaks. All else is as it was. -/
def AFnC (P : Program) (f : FuncId) (args : List AV) (objs : List AO) (Q : AV → List AO → Prop) : Prop :=
  HasBody P f ∧ ∀ base w gs vs, base ≤ w.heap.size → Objs base w gs objs → vs.size = args.length → (∀ i : Nat, RV w (okOf gs objs) gs (vs.getD i undef) (args.getD i .any)) →
    Calls P f vs w fun e w' => ∃ v r os' gs', e = .returned v ∧ Q r os' ∧ Objs base w' gs' os' ∧ RV w' (fun _ => False) gs' v r ∧
      (∀ (h : Nat) g, gs'[h]? = some g → ∀ b, b ∈ g.bl → (∃ (k : Nat) (g0 : Gh), gs[k]? = some g0 ∧ b ∈ g0.bl) ∨ w.heap.size ≤ b) ∧ Below base w w' ∧ ∀ b, b < w.heap.size → (∀ (h : Nat) g, gs[h]? = some g → b ∉ g.bl) → w'.heap[b]? = w.heap[b]?

theorem AFnC.of {P : Program} {f : FuncId} {fn : Func} {c : Code} {args args' : List AV} {objs : List AO} {Q : AV → List AO → Prop} {n : Nat} (hf : P.funcs[f]? = some fn) (hb : fn.body = some c) (hnm : (fn.name == "runtime.NumGoroutine") = false) (hn : fn.ntmps - args.length = n) (ha : args' = args.map (AV.sh 1))
    (h : ∀ K, AWp P c (fun _ _ => False) (fun _ _ _ => False) (fun env os => ∃ env2 os' r, Turns env os env2 (.keep 1 K :: os') ∧ ResIs P fn env2 (.keep 1 K :: os') (r.sh 1) ∧ r.fl ∧ Q r os' ∧ ∀ o ∈ os', o.plain) (Env.start args' n) (.keep 1 K :: objs)) :
    AFnC P f args objs Q := by
  refine ⟨⟨fn, c, hf, hnm, hb⟩, fun base w gs vs hbase hO hsz hvs => calls_of_wp hf hb ?_⟩
  rw [show fn.ntmps - vs.size = n by rw [hsz]; exact hn]
  let bl : List Nat := (List.range w.heap.size).filter fun b => decide (base ≤ b) && gs.all fun g => !g.bl.contains b
  let gk : Gh := ⟨undef, 0, bl, []⟩
  let K : Kp := ⟨fun b => w.heap[b]?, [gk]⟩
  have hbl : ∀ b, b ∈ bl ↔ b < w.heap.size ∧ base ≤ b ∧ ∀ (h : Nat) g, gs[h]? = some g → b ∉ g.bl := by
    intro b
    simp only [bl, List.mem_filter, List.mem_range, Bool.and_eq_true, decide_eq_true_eq, List.all_eq_true, Bool.not_eq_true', List.contains_eq_mem, decide_eq_false_iff_not]
    constructor
    · rintro ⟨h1, h2, h3⟩
      exact ⟨h1, h2, fun h g hg => h3 g (List.mem_of_getElem? hg)⟩
    · rintro ⟨h1, h2, h3⟩
      exact ⟨h1, h2, fun g hg => by obtain ⟨i, hi⟩ := List.getElem?_of_mem hg; exact h3 i g hi⟩
  have hl := hO.hl
  have part : ∀ {i : Nat} {x : Gh} {y : AO}, (gk :: gs)[i]? = some x → (AO.keep 1 K :: objs)[i]? = some y → (∃ j, i = j + 1 ∧ gs[j]? = some x ∧ objs[j]? = some y) ∨ (i = 0 ∧ x = gk ∧ y = .keep 1 K) := by
    intro i x y hx hy
    match i, hx, hy with
    | 0, hx, hy => simp at hx hy; exact .inr ⟨rfl, hx.symm, hy.symm⟩
    | j + 1, hx, hy => exact .inl ⟨j, rfl, by simpa using hx, by simpa using hy⟩
  have hkeep : Keeps (okOf gs objs) (okOf (gk :: gs) (.keep 1 K :: objs)) w w := by
    intro b hbk _
    refine ⟨fun i x y hx hy hny hm => ?_, rfl⟩
    rcases part hx hy with ⟨j, rfl, h1, h2⟩ | ⟨_, _, rfl⟩
    · exact hbk j x y h1 h2 hny hm
    · exact hny.elim
  have hrel : Rel base w (gk :: gs) (Env.start args' n) (.keep 1 K :: objs) (vs ++ Array.replicate n undef) := by
    refine ⟨hbase, by simp [hl], by simp [Env.start, hsz, ha], fun i => start_rv args' n vs (fun i => ?_) i, ?_, ?_, ?_⟩
    · rw [ha, getD_map_any _ rfl]
      have := (hvs i).sh (gs0 := [gk]) hkeep
      exact this
    · intro i x y hx hy
      rcases part hx hy with ⟨j, rfl, h1, h2⟩ | ⟨_, rfl, rfl⟩
      · exact (hO.hp y (List.mem_of_getElem? h2)).ro (hO.ho j x y h1 h2)
      · exact ⟨fun b _ => rfl, rfl, fun i x h => by
            match i with
            | 0 => exact h
            | i + 1 => simp [K] at h⟩
    · intro i j g1 g2 o1 o2 hij hg1 hg2 ho1 ho2 _ _ b hb1 hb2
      rcases part hg1 ho1 with ⟨i', rfl, a1, a2⟩ | ⟨rfl, rfl, _⟩
      · rcases part hg2 ho2 with ⟨j', rfl, b1, b2⟩ | ⟨rfl, rfl, _⟩
        · exact hO.hd i' j' g1 g2 (by omega) a1 b1 b hb1 hb2
        · exact ((hbl b).1 hb2).2.2 i' g1 a1 hb1
      · rcases part hg2 ho2 with ⟨j', rfl, b1, b2⟩ | ⟨rfl, _, _⟩
        · exact ((hbl b).1 hb1).2.2 j' g2 b1 hb2
        · omega
    · intro i x y hx hy _ b hb
      rcases part hx hy with ⟨j, rfl, h1, h2⟩ | ⟨_, rfl, _⟩
      · exact hO.hn j x h1 b hb
      · exact ⟨((hbl b).1 hb).2.1, ((hbl b).1 hb).1⟩
  refine wp_mono (h K base w w _ _ hrel (Below.refl _ _)) ?_
  intro e a w' hq
  cases e with
  | normal => obtain ⟨_, _, _, _, _, _, hx⟩ := hq; exact hx.elim
  | exit j => obtain ⟨_, _, _, _, _, _, hx⟩ := hq; exact hx.elim
  | ret =>
    obtain ⟨env, os1, gs1, hr1, hd, hbel, env2, os', r, ht, hres, hfl, hQ, hpl⟩ := hq
    obtain ⟨gs2, hr⟩ := ht base w' gs1 _ hr1
    obtain ⟨v, hu, hv⟩ := hres _ _ _ _ hr
    obtain ⟨g0, gs', rfl⟩ : ∃ g0 gs', gs2 = g0 :: gs' := by
      have := hr.hl
      match gs2 with
      | [] => simp at this
      | a :: b => exact ⟨a, b, rfl⟩
    obtain ⟨r1, r2, r3⟩ := hr.ho 0 _ _ rfl rfl
    have egk : g0 = gk := by
      have := r3 0 gk rfl
      exact Option.some.inj this
    subst egk
    have hl' : gs'.length = os'.length := by have := hr.hl; simpa using this
    have hno : ∀ (i : Nat) x o, gs'[i]? = some x → os'[i]? = some o → ∀ b, b ∈ x.bl → base ≤ b ∧ b < w'.heap.size := fun i x o hx ho b hb =>
      hr.hn (i + 1) x o (by simpa using hx) (by simpa using ho) (hpl o (List.mem_of_getElem? ho)).live.ne b hb
    have obj : ∀ {i : Nat} {x : Gh}, gs'[i]? = some x → ∃ o, os'[i]? = some o := fun {i x} hx => by
      have : i < os'.length := by rw [← hl']; exact (List.getElem?_eq_some_iff.1 hx).1
      exact ⟨_, List.getElem?_eq_getElem this⟩
    refine ⟨hd, v, hu, v, r, os', gs', rfl, hQ, ⟨hl', hpl, ?_, ?_, ?_⟩, ?_, ?_, hbel, ?_⟩
    · intro i x o hx ho
      exact (hpl o (List.mem_of_getElem? ho)).ro (hr.ho (i + 1) x o (by simpa using hx) (by simpa using ho))
    · intro i j x y hij hx hy b hb1 hb2
      obtain ⟨o1, h1⟩ := obj hx
      obtain ⟨o2, h2⟩ := obj hy
      exact hr.hd (i + 1) (j + 1) x y o1 o2 (by omega) (by simpa using hx) (by simpa using hy) (by simpa using h1) (by simpa using h2) (hpl o1 (List.mem_of_getElem? h1)).live.ne (hpl o2 (List.mem_of_getElem? h2)).live.ne b hb1 hb2
    · intro i x hx b hb
      obtain ⟨o1, h1⟩ := obj hx
      exact hno i x o1 hx h1 b hb
    · exact RV.unsh (g0 := gk) hfl hv
    · intro i x hx b hb
      obtain ⟨o1, h1⟩ := obj hx
      have hb2 := hno i x o1 hx h1 b hb
      by_cases hbw : b < w.heap.size
      · left
        apply Classical.byContradiction
        intro hnb
        refine hr.hd (i + 1) 0 x gk o1 _ (by omega) (by simpa using hx) rfl (by simpa using h1) rfl (hpl o1 (List.mem_of_getElem? h1)).live.ne (by simp) b hb ((hbl b).2 ⟨hbw, hb2.1, fun k g0 hg hm => hnb ⟨k, g0, hg, hm⟩⟩)
      · right; omega
    · intro b hb hnot
      rcases Nat.lt_or_ge b base with h6 | h6
      · exact hbel.block b h6
      · exact r1 b ((hbl b).2 ⟨hb, h6, hnot⟩)
  | goto l => exact (hq : False).elim
  | panic ch => exact (hq : False).elim
  | outgrown => exact (hq : False).elim
theorem AFnC.start {P : Program} {f : FuncId} {fn : Func} {nt : Nat} {args : List AV} {objs : List AO} {Q : AV → List AO → Prop} (hf : P.funcs[f]? = some fn) (hnt : fn.ntmps = nt) {c : Code} (hb : fn.body = some c) (hnm : (fn.name == "runtime.NumGoroutine") = false)
    (h : ∀ K, AWp P c (fun _ _ => False) (fun _ _ _ => False) (fun env os => ∃ env2 os' r, Turns env os env2 (.keep 1 K :: os') ∧ ResIs P fn env2 (.keep 1 K :: os') (r.sh 1) ∧ r.fl ∧ Q r os' ∧ ∀ o ∈ os', o.plain) (Env.start (args.map (AV.sh 1)) (nt - args.length)) (.keep 1 K :: objs)) :
    AFnC P f args objs Q := AFnC.of hf hb hnm (by rw [hnt]) rfl h
theorem Turns.fit {env : Env} {os : List AO} {env' : Env} {os' : List AO} (f : Fit env os env' os') : Turns env os env' os' := fun _ _ _ _ h => h.fit f
theorem Turns.fits {env : Env} {os : List AO} {env' : Env} {os' : List AO} {σ : List Nat} (f : FitS σ env os env' os') : Turns env os env' os' := fun _ _ _ _ h => h.fits f
theorem Turns.or {env : Env} {os : List AO} {env' : Env} {os' : List AO} (f : Fit env os env' os' ∨ ∃ σ, FitS σ env os env' os') : Turns env os env' os' := by
  rcases f with f | ⟨σ, f⟩
  · exact .fit f
  · exact .fits f

section
variable {P : Program} {env : Env} {os : List AO} {d : Option Tmp} {ty : TypeId} {pos : String} {af : Array Edge} {g : Option (Nat × Bool)}
theorem deadAll_get {H : List Nat} (hn : H.Nodup) {os : List AO} {i : Nat} {y : AO} (h : (setAll os H (H.map fun _ => .dead))[i]? = some y) : (i ∈ H ∧ y = .dead) ∨ (i ∉ H ∧ os[i]? = some y) := by
  rcases setAll_get hn (by simp) h with ⟨k, h1, h2⟩ | h
  · refine .inl ⟨List.mem_of_getElem? h1, ?_⟩
    rw [List.getElem?_map, h1] at h2
    simpa using h2.symm
  · exact .inr h
theorem setAll_len : ∀ (H : List Nat) (os osP : List AO), (setAll os H osP).length = os.length
  | [], os, osP => by cases osP <;> rfl
  | h :: H, os, [] => rfl
  | h :: H, os, o :: osP => by rw [setAll, setAll_len H, List.length_set]
theorem c_callc {f : FuncId} {args : List AV} {objs : List AO} {Q : AV → List AO → Prop} (H : List Nat) (hc : AFnC P f args objs Q) {xs : List Operand} {ats : Array TypeId} (hh : Handed os H objs) (hi : ImmUs os H (xs.map (AV.ev env)) args) :
    COp P ⟨d, .call { callee := .value (.func f), args := xs.toArray, argTypes := ats }, ty, pos, af, g⟩ env os (fun r e o => ∃ r0 os', Q r0 os' ∧ r = r0.sh os.length ∧ e = env ∧ o = setAll os H (H.map fun _ => .dead) ++ os'.map (AO.sh os.length)) := by
  intro base w gs tm hr
  have hg := hi.get
  have hltH : ∀ h ∈ H, h < gs.length := fun h hm => by rw [hr.hl]; exact hh.lt h hm
  refine ⟨f, _, run_call hc.1 xs ats _ rfl w, (hc.2 base w (selG gs H) _ hr.hb (hr.objs hh) (by simpa using hg.1) fun i => ?_).mono ?_⟩
  · have h1 := hg.2 i
    have e1 : (xs.map (AV.ev env)).getD i .any = match xs[i]? with | some x => AV.ev env x | none => .any := by
      simp only [List.getD_eq_getElem?_getD, List.getElem?_map]; cases xs[i]? <;> rfl
    have e2 : (xs.map (Act.eval ⟨tm, []⟩)).toArray.getD i undef = match xs[i]? with | some x => Act.eval ⟨tm, []⟩ x | none => undef := by
      simp only [Array.getD_eq_getD_getElem?, List.getElem?_toArray, List.getElem?_map]; cases xs[i]? <;> rfl
    rw [e1] at h1
    rw [e2]
    cases hx : xs[i]? with
    | some x => rw [hx] at h1; exact h1.rv hr hh (hr.ev x)
    | none => rw [hx] at h1; exact h1.rv hr hh (.any _)
  · rintro e w' ⟨v, r, os', gs', rfl, hQ, hO', hv, hbl, hbel, hfr⟩
    have hl := hr.hl
    have hl' := hO'.hl
    have hlive : ∀ h, h ∈ H → ∃ o, os[h]? = some o ∧ o.plain := fun h hm => by
      obtain ⟨k, hk⟩ := List.getElem?_of_mem hm
      obtain ⟨o', h1, h2, h3⟩ := hh.get hk
      exact ⟨o', h2, h3⟩
    have selGet : ∀ {k : Nat} {x : Gh}, (selG gs H)[k]? = some x → ∃ h, h ∈ H ∧ gs[h]? = some x := fun hx => by
      obtain ⟨h, h1, h2⟩ := selG_get hltH hx
      exact ⟨h, List.mem_of_getElem? h1, h2⟩
    -- blocks of what is new
    have hnb : ∀ {i : Nat} {x : Gh}, gs'[i]? = some x → ∀ b, b ∈ x.bl → (∃ h gh, h ∈ H ∧ gs[h]? = some gh ∧ b ∈ gh.bl) ∨ w.heap.size ≤ b := fun hx b hb => by
      rcases hbl _ _ hx b hb with ⟨k, g0, h1, h2⟩ | h1
      · obtain ⟨h, h3, h4⟩ := selGet h1
        exact .inl ⟨h, g0, h3, h4, h2⟩
      · exact .inr h1
    have keepB : ∀ b, b < w.heap.size → (∀ h gh, h ∈ H → gs[h]? = some gh → b ∉ gh.bl) → w'.heap[b]? = w.heap[b]? := fun b hb hno => hfr b hb fun k x hx => by
      obtain ⟨h, h1, h2⟩ := selGet hx
      exact hno h x h1 h2
    let osN := setAll os H (H.map fun _ => .dead) ++ os'.map (AO.sh os.length)
    have hlen1 : (setAll os H (H.map fun _ => AO.dead)).length = gs.length := by rw [setAll_len, hl]
    have split : ∀ {i : Nat} {x : Gh} {y : AO}, (gs ++ gs')[i]? = some x → osN[i]? = some y → y ≠ .dead → (i ∉ H ∧ gs[i]? = some x ∧ os[i]? = some y) ∨ ∃ j o, i = os.length + j ∧ gs'[j]? = some x ∧ os'[j]? = some o ∧ y = o.sh os.length := by
      intro i x y hx hy hne
      by_cases hlt : i < gs.length
      · rw [List.getElem?_append_left hlt] at hx
        simp only [osN] at hy
        rw [List.getElem?_append_left (by rw [hlen1]; exact hlt)] at hy
        rcases deadAll_get hh.nd hy with ⟨_, rfl⟩ | ⟨h1, h2⟩
        · exact absurd rfl hne
        · exact .inl ⟨h1, hx, h2⟩
      · rw [List.getElem?_append_right (by omega)] at hx
        simp only [osN] at hy
        rw [List.getElem?_append_right (by rw [hlen1]; omega), hlen1, List.getElem?_map] at hy
        cases ho : os'[i - gs.length]? with
        | none => rw [ho] at hy; cases hy
        | some o =>
          rw [ho] at hy
          simp only [Option.map_some, Option.some.injEq] at hy
          exact .inr ⟨i - gs.length, o, by omega, hx, ho, hy.symm⟩
    have kp : Keeps (okOf gs os) (okOf (gs ++ gs') osN) w w' := by
      intro b hbk hlt
      refine ⟨fun i x y hx hy hny hm => ?_, keepB b hlt fun h gh hm hg hb => ?_⟩
      · rcases split hx hy hny.ne with ⟨_, h1, h2⟩ | ⟨j, o, _, h1, h2, rfl⟩
        · exact hbk i x y h1 h2 hny hm
        · rcases hnb h1 b hm with ⟨h, gh, hH, hgh, hbm⟩ | h3
          · obtain ⟨o', ho', hp⟩ := hlive h hH
            exact hbk h gh o' hgh ho' hp.live hbm
          · omega
      · obtain ⟨o', ho', hp⟩ := hlive h hm
        exact hbk h gh o' hg ho' hp.live hb
    have hgs : ∀ (i : Nat) g', gs[i]? = some g' → (gs ++ gs')[i]? = some g' := fun i g' e => by
      rw [List.getElem?_append_left (List.getElem?_eq_some_iff.1 e).1]; exact e
    have hplsh : ∀ o : AO, o.plain → (o.sh os.length) = o := fun o ho => by cases o <;> first | rfl | exact ho.elim
    have hsame : ∀ (i : Nat) x y, i ∉ H → gs[i]? = some x → os[i]? = some y → y ≠ .dead → ∀ b, b ∈ x.bl → w'.heap[b]? = w.heap[b]? := fun i x y hiH hx hy hne b hb => by
      refine keepB b (hr.hn i x y hx hy hne b hb).2 fun h gh hH hgh hbm => ?_
      obtain ⟨o', ho', hp⟩ := hlive h hH
      exact hr.hd i h x gh y o' (fun e => hiH (e ▸ hH)) hx hgh hy ho' hne hp.live.ne b hb hbm
    refine ⟨v, r.sh os.length, env, osN, gs ++ gs', rfl, ⟨r, os', hQ, rfl, rfl, rfl⟩, ?_, ?_, hbel⟩
    · refine ⟨Nat.le_trans hr.hb hbel.size, ?_, hr.hs, fun i => (hr.he i).mono kp hgs, ?_, ?_, ?_⟩
      · simp only [osN, List.length_append, List.length_map, hlen1, hl']
      · intro i x y hx hy
        by_cases hd : y = .dead
        · subst hd; trivial
        rcases split hx hy hd with ⟨h0, h1, h2⟩ | ⟨j, o, _, h1, h2, rfl⟩
        · exact (hr.ho i x y h1 h2).mono kp hgs fun hne b hb => hsame i x y h0 h1 h2 hne b hb
        · have hp := hO'.hp o (List.mem_of_getElem? h2)
          rw [hplsh o hp]
          exact hp.ro (hO'.ho j x o h1 h2)
      · intro i j x1 x2 y1 y2 hij hx1 hx2 hy1 hy2 hn1 hn2 b hb1 hb2
        rcases split hx1 hy1 hn1 with ⟨a0, a1, a2⟩ | ⟨j1, o1, e1, a1, a2, rfl⟩
        · rcases split hx2 hy2 hn2 with ⟨c0, c1, c2⟩ | ⟨j2, o2, e2, c1, c2, rfl⟩
          · exact hr.hd i j x1 x2 y1 y2 hij a1 c1 a2 c2 hn1 hn2 b hb1 hb2
          · rcases hnb c1 b hb2 with ⟨h, gh, hH, hgh, hbm⟩ | h3
            · obtain ⟨o', ho', hp⟩ := hlive h hH
              exact hr.hd i h x1 gh y1 o' (fun e => a0 (e ▸ hH)) a1 hgh a2 ho' hn1 hp.live.ne b hb1 hbm
            · have := (hr.hn i x1 y1 a1 a2 hn1 b hb1).2; omega
        · rcases split hx2 hy2 hn2 with ⟨c0, c1, c2⟩ | ⟨j2, o2, e2, c1, c2, rfl⟩
          · rcases hnb a1 b hb1 with ⟨h, gh, hH, hgh, hbm⟩ | h3
            · obtain ⟨o', ho', hp⟩ := hlive h hH
              exact hr.hd j h x2 gh y2 o' (fun e => c0 (e ▸ hH)) c1 hgh c2 ho' hn2 hp.live.ne b hb2 hbm
            · have := (hr.hn j x2 y2 c1 c2 hn2 b hb2).2; omega
          · exact hO'.hd j1 j2 x1 x2 (fun e => hij (by omega)) a1 c1 b hb1 hb2
      · intro i x y hx hy hne b hb
        rcases split hx hy hne with ⟨_, h1, h2⟩ | ⟨j, o, _, h1, h2, rfl⟩
        · have := hr.hn i x y h1 h2 hne b hb
          exact ⟨this.1, Nat.lt_of_lt_of_le this.2 hbel.size⟩
        · exact hO'.hn j x h1 b hb
    · have := hv.sh (ok' := okOf (gs ++ gs') osN) (gs0 := gs) (fun b hbk _ => hbk.elim)
      rw [hl] at this; exact this
end
section
variable {P : Program} {env : Env} {os : List AO} {d : Tmp} {ty : TypeId} {pos : String} {af : Array Edge} {l rest : List Oper} {K : APost}
theorem w_callc {f : FuncId} {args : List AV} {objs : List AO} {Q : AV → List AO → Prop} {xs : List Operand} {ats : Array TypeId} (H : List Nat) {m : Nat} (hc : AFnC P f args objs Q) (hm : os.length = m) (hh : Handed os H objs) (hi : ImmUs os H (xs.map (AV.ev env)) args)
    (h' : ∀ r os0, Q r os0 → AOps P .seq l rest K (env.up d (r.sh m)) (setAll os H (H.map fun _ => .dead) ++ os0.map (AO.sh m))) :
    AOps P .seq l (⟨some d, .call { callee := .value (.func f), args := xs.toArray, argTypes := ats }, ty, pos, af, none⟩ :: rest) K env os := by
  subst hm
  exact AOps.ca (c_callc H hc hh hi) fun r e o ⟨r0, os0, hq, h1, h2, h3⟩ => by subst h1; subst h2; subst h3; exact h' r0 os0 hq
end
end Go.Proofs.Ytcolpjpppdmanaa
/-
  Maps from pairs of integers to integers: made, read, written, walked in whatever order. No condition.
-/
namespace Go.Proofs.Ytcolpjpppdmanaa
open Go Go.RowKit
open Go.ChangeMaps (setBlock)

def mkey (i j : Int) : Value := .agg #[.int .i64 i, .int .i64 j]
/-- Pairs of integers as keys. -/
class TPair (P : Program) (kt : TypeId) (e : outParam TypeId) : Prop where
  hk : P.underlying kt = some (.array 2 e)
  he : P.underlying e = some (.int .i64)
  hi : ∃ ii, P.info? e = some ii
  hs : P.cellsOf e = 1
instance {P : Program} {kt e : TypeId} [h : TArr P kt e 2] [q : TKind P e .i64] : TPair P kt e := ⟨h.und, q.und, let ⟨i, h1, _⟩ := h.elm; ⟨i, h1⟩, by obtain ⟨i, h1, h2⟩ := h.elm; simp [Program.cellsOf, h1, h2]⟩
variable {P : Program}
/-! ### Maps from pairs to integers, as lists of triples in the order of their first writing -/
def entT (t : Int × Int × Int) : Value × Value := (mkey t.1 t.2.1, .int .i64 t.2.2)
def MapIs (es : Array MapEntry) (clock : Nat) (L : List (Int × Int × Int)) : Prop :=
  es.toList.map (fun e => (e.key, e.val)) = L.map entT ∧ (∀ e ∈ es.toList, e.born < clock) ∧ (es.toList.map (·.born)).Nodup
theorem keys_get {es : Array MapEntry} {L : List (Int × Int × Int)} (h : es.toList.map (fun e => (e.key, e.val)) = L.map entT) (k : Nat) (hk : k < L.length) :
    ∃ x, es[k]? = some x ∧ x.key = mkey (L.getD k (0, 0, 0)).1 (L.getD k (0, 0, 0)).2.1 ∧ x.val = .int .i64 (L.getD k (0, 0, 0)).2.2 := by
  have h1 := congrArg (·[k]?) h
  simp only [List.getElem?_map, List.getElem?_eq_getElem hk, Option.map_some, Array.getElem?_toList] at h1
  cases hx : es[k]? with
  | none => rw [hx] at h1; simp at h1
  | some x =>
    rw [hx] at h1
    simp only [Option.map_some, Option.some.injEq, entT, Prod.mk.injEq] at h1
    exact ⟨x, rfl, by rw [h1.1]; simp [List.getD_eq_getElem?_getD, hk], by rw [h1.2]; simp [List.getD_eq_getElem?_getD, hk]⟩
theorem size_of {es : Array MapEntry} {L : List (Int × Int × Int)} (h : es.toList.map (fun e => (e.key, e.val)) = L.map entT) : es.size = L.length := by
  have := congrArg List.length h
  simpa using this

/-! ### As objects, and as what is only read -/
def mapRo (L : List (Int × Int × Int)) : Ro where
  p w ok v := ∃ b es clock, v = .map (some b) ∧ ok b ∧ w.heap[b]? = some (.map es clock) ∧ MapIs es clock L
  up k h := by
    obtain ⟨b, es, clock, h1, h2, h3, h4⟩ := h
    have := k b h2 (Array.getElem?_eq_some_iff.1 h3).1
    exact ⟨b, es, clock, h1, this.1, this.2.trans h3, h4⟩
def mapAt (b : Nat) (es : Array MapEntry) (clock : Nat) : Ro where
  p w ok v := v = .map (some b) ∧ ok b ∧ w.heap[b]? = some (.map es clock)
  up k h := by
    obtain ⟨h1, h2, h3⟩ := h
    have := k b h2 (Array.getElem?_eq_some_iff.1 h3).1
    exact ⟨h1, this.1, this.2.trans h3⟩
def bornAt (es : Array MapEntry) (i : Nat) : Nat := ((es[i]?).map (·.born)).getD 0
/-- An iterator over the map at b, which has handed out the entries 'done'. -/
def itOb (b : Nat) (es : Array MapEntry) (clock : Nat) (done : List Nat) : Ob :=
  ob1 (fun r => .pointer (some ⟨r, 0, none⟩)) (fun o => ∃ since c0 seen, o = .mapIter (some b) since seen c0 ∧ since ≤ c0 ∧ (∀ x ∈ es.toList, x.born < since) ∧ seen.toList = done.map (bornAt es) ∧ (done = [] ∨ c0 = clock) ∧ since ≤ clock) fun _ => ⟨rfl, rfl⟩

/-- A slot may be seen otherwise. -/
theorem Rel.see {base : Nat} {w : World} {gs : List Gh} {env : Env} {os : List AO} {tm : Array Value} (h : Rel base w gs env os tm) {k : Nat} {a : AV} (ha : RV w (okOf gs os) gs (tm.getD k undef) a) : Rel base w gs (env.up k a) os tm where
  hb := h.hb
  hl := h.hl
  hs := by simpa [Env.up] using h.hs
  he i := by
    rw [Env.lk_up]
    split
    · rename_i hi; rw [hi.1]; exact ha
    · exact h.he i
  ho := h.ho
  hd := h.hd
  hn := h.hn

section
variable {P : Program} {wl : Bool} {env : Env} {os : List AO} {d : Option Tmp} {ty : TypeId} {pos : String} {af : Array Edge} {g : Option (Nat × Bool)}

theorem AWp.open {c : Code} {N : Env → List AO → Prop} {X : Nat → Env → List AO → Prop} {Rt : Env → List AO → Prop} (k : Nat) {L : List (Int × Int × Int)} (hk : env.fd k = some (.ro (mapRo L)))
    (h : ∀ b es clock, MapIs es clock L → AWp P c N X Rt (env.up k (.ro (mapAt b es clock))) os) : AWp P c N X Rt env os := by
  intro base w0 w gs tm hr
  have hv := hr.he k
  rw [Env.lk_of hk] at hv
  generalize hu : tm.getD k undef = u at hv
  cases hv with
  | ro h1 =>
    obtain ⟨b, es, clock, e1, e2, e3, hM⟩ := h1
    exact h b es clock hM base w0 w gs tm (hr.see (by rw [hu]; exact .ro ⟨e1, e2, e3⟩))

theorem Ret1.ob {h : Nat} {q : Ob} (hs : os[h]? = some (.ob q)) : Ret1 os (.own h) (.own 0) [.ob q] := fun base w gs env tm hr u hu => by
  cases hu with
  | @own _ g hg => exact ⟨[g], .one (hr.ho _ _ _ hg hs) fun b hb => hr.hn _ _ _ hg hs (by simp) b hb, .own rfl⟩

theorem map_at {base : Nat} {w : World} {gs : List Gh} {tm : Array Value} (hr : Rel base w gs env os tm) {x : Operand} {b : Nat} {es : Array MapEntry} {clock : Nat} (hx : AV.ev env x = .ro (mapAt b es clock)) :
    Act.eval ⟨tm, []⟩ x = .map (some b) ∧ okOf gs os b ∧ w.heap[b]? = some (.map es clock) := by
  have h := hr.ev x
  rw [hx] at h
  generalize Act.eval ⟨tm, []⟩ x = v at h
  cases h with
  | ro h1 => exact h1

theorem setBlock_other (w : World) (r c : Nat) (o : Obj) (h : c ≠ r) : (setBlock w r o).heap[c]? = w.heap[c]? := by
  simp only [setBlock]
  rw [Array.getElem?_setIfInBounds, if_neg (fun e => h e.symm)]
theorem setBlock_same (w : World) (r : Nat) (o : Obj) (h : r < w.heap.size) : (setBlock w r o).heap[r]? = some o := by
  simp only [setBlock]
  rw [Array.getElem?_setIfInBounds, if_pos rfl, if_pos h]
theorem setBlock_below {w w1 : World} {base r : Nat} {o : Obj} (h1 : w1 = w ∨ w1 = w.drew) (hr : base ≤ r) : Below base w (setBlock w1 r o) := by
  have : Below base w w1 := by rcases h1 with rfl | rfl; exact Below.refl _ _; exact (Below.refl _ _).drew
  exact ⟨this.os, this.tape, this.output, by simpa [setBlock] using this.size, fun k hk => by rw [setBlock_other _ _ _ _ (by omega)]; exact this.block k hk⟩

theorem born_inj {es : Array MapEntry} {clock : Nat} {L : List (Int × Int × Int)} (hM : MapIs es clock L) {i j : Nat} (hi : i < L.length) (hj : j < L.length) (h : bornAt es i = bornAt es j) : i = j := by
  obtain ⟨x, hx, _⟩ := keys_get hM.1 i hi
  obtain ⟨y, hy, _⟩ := keys_get hM.1 j hj
  simp only [bornAt, hx, hy, Option.map_some, Option.getD_some] at h
  have hn := hM.2.2
  have hs := size_of hM.1
  have gi : (es.toList.map (·.born))[i]? = some x.born := by simp [hx]
  have gj : (es.toList.map (·.born))[j]? = some y.born := by simp [hy]
  exact (List.getElem?_inj (by simp; omega) hn).1 (gi.trans (by rw [h]; exact gj.symm))

/-- One round of a loop over a map begins, or the loop ends. -/
theorem AOps.next {l rest : List Oper} {K : APost} {d : Tmp} {it : Operand} {h : Nat} {b : Nat} {es : Array MapEntry} {clock : Nat} {done : List Nat} {L : List (Int × Int × Int)} (m : Operand) (hM : MapIs es clock L) (hdone : ∀ i ∈ done, i < L.length)
    (hx : evo env it = some (.own h)) (hs : os[h]? = some (.ob (itOb b es clock done))) (hm : evo env m = some (.ro (mapAt b es clock)))
    (h0 : (∀ i, i < L.length → i ∈ done) → AOps P .seq l rest K (env.up d (.val (.tuple #[.bool false]))) os)
    (h1 : ∀ i, i < L.length → i ∉ done → AOps P .seq l rest K (env.up d (.val (.tuple #[.bool true, mkey (L.getD i (0, 0, 0)).1 (L.getD i (0, 0, 0)).2.1, .int .i64 (L.getD i (0, 0, 0)).2.2]))) (os.set h (.ob (itOb b es clock (done ++ [i]))))) :
    AOps P .seq l (⟨some d, .next it false, ty, pos, af, none⟩ :: rest) K env os := by
  intro base w0 w gs tm hr hb X Rt
  obtain ⟨_, hok, hmap⟩ := map_at hr (ev_of hm)
  have hh := hr.ev it
  rw [ev_of hx] at hh
  generalize hu : Act.eval ⟨tm, []⟩ it = u at hh
  cases hh with
  | @own _ gh hg =>
    obtain ⟨o, a1, ⟨since, c0, seen, rfl, q1, q2, q3, q4, q5⟩, a3, a4, a5⟩ := hr.ho _ _ _ hg hs
    have e5 : gh.v = .pointer (some ⟨gh.b, 0, none⟩) := a5
    have hlt : gh.b < w.heap.size := (Array.getElem?_eq_some_iff.1 a1).1
    have mem_seen : ∀ i, i < L.length → (bornAt es i ∈ seen.toList ↔ i ∈ done) := by
      intro i hi
      rw [q3, List.mem_map]
      constructor
      · rintro ⟨j, hj, e⟩
        have := born_inj hM (hdone j hj) hi e
        rwa [← this]
      · intro hi2; exact ⟨i, hi2, rfl⟩
    refine wpList_plain rfl fun K hK => ?_
    unfold Oper.wp
    rcases run_next_at (P := P) w ty gh.b b since c0 seen es clock a1 hmap q2 q1 with ⟨hz, hrun⟩ | ⟨e, he, w1, hw1, hrun⟩
    · have hrun' : (execOp (Act.eval ⟨tm, []⟩) ⟨some d, .next it false, ty, pos, af, none⟩).run P w = .ok (.value (.tuple #[.bool false])) w := by
        simp only [execOp, hu, e5, Sem.run_bind, hrun, Result.andThen_ok, Sem.run_pure]
      rw [hrun']
      refine hK _ _ (h0 (fun i hi => ?_) base w0 w gs _ (hr.put (.val _) d) hb X Rt)
      obtain ⟨x, hxe, _⟩ := keys_get hM.1 i hi
      have hnil : leftOf es seen = #[] := Array.eq_empty_of_size_eq_zero hz
      unfold leftOf at hnil
      rw [Array.filter_eq_empty_iff] at hnil
      have := hnil x (Array.mem_of_getElem? hxe)
      simp only [Bool.not_eq_true, Bool.not_eq_false', Array.contains_eq_mem, decide_eq_true_eq] at this
      refine (mem_seen i hi).1 ?_
      simpa [bornAt, hxe] using this
    · unfold leftOf at he
      simp only [Array.mem_toList_iff, Array.mem_filter, Bool.not_eq_true', Array.contains_eq_mem, decide_eq_false_iff_not] at he
      obtain ⟨hmem, hns⟩ := he
      obtain ⟨i, hi⟩ := Array.getElem?_of_mem hmem
      have hiL : i < L.length := by
        have := (Array.getElem?_eq_some_iff.1 hi).1
        have := size_of hM.1
        omega
      obtain ⟨x, hxe, k1, k2⟩ := keys_get hM.1 i hiL
      have ex : x = e := Option.some.inj (hxe.symm.trans hi)
      subst ex
      have hnd : i ∉ done := fun hc => hns (by have := (mem_seen i hiL).2 hc; simpa [bornAt, hxe] using this)
      have hrun' : (execOp (Act.eval ⟨tm, []⟩) ⟨some d, .next it false, ty, pos, af, none⟩).run P w = .ok (.value (.tuple #[.bool true, mkey (L.getD i (0, 0, 0)).1 (L.getD i (0, 0, 0)).2.1, .int .i64 (L.getD i (0, 0, 0)).2.2])) (setBlock w1 gh.b (.mapIter (some b) since (seen.push x.born) clock)) := by
        simp only [execOp, hu, e5, Sem.run_bind, hrun, Result.andThen_ok, Sem.run_pure, k1, k2]
      rw [hrun']
      have hw1h : w1.heap = w.heap := by rcases hw1 with rfl | rfl <;> rfl
      refine hK _ _ (h1 i hiL hnd base w0 _ gs _ ((hr.upd hg hs trivial (.ob (itOb b es clock (done ++ [i]))) trivial (fun c _ hc => ?_) ?_ fun _ => ?_).put (.val _) d) (hb.trans (setBlock_below hw1 a3)) X Rt)
      · rw [setBlock_other _ _ _ _ (fun e => hc (by rw [a4, e]; simp)), hw1h]
      · simp [setBlock, hw1h]
      · exact ⟨_, setBlock_same _ _ _ (by rw [hw1h]; exact hlt), ⟨since, clock, seen.push x.born, rfl, q5, q2, by simp [q3, bornAt, hxe], .inr rfl, q5⟩, a3, a4, a5⟩

variable {l rest : List Oper} {K : APost} {q : Md}
end
end Go.Proofs.Ytcolpjpppdmanaa
/-
  A few polynomials (structs of one slice) handed on as a slice. No condition.
-/
namespace Go.Proofs.Ytcolpjpppdmanaa
open Go Go.RowKit

section
variable {P : Program} {wl : Bool} {env : Env} {os : List AO} {d : Option Tmp} {ty : TypeId} {pos : String} {af : Array Edge} {g : Option (Nat × Bool)}

variable {l rest : List Oper} {K : APost} {q : Md}
end
end Go.Proofs.Ytcolpjpppdmanaa
/-
  Lists of polynomials (structs of one slice): their parts, own lists of polynomials; parts of own slices handed back. No condition.
-/
namespace Go.Proofs.Ytcolpjpppdmanaa
open Go Go.RowKit
section
variable {P : Program} {wl : Bool} {env : Env} {os : List AO} {d : Option Tmp} {ty : TypeId} {pos : String} {af : Array Edge} {g : Option (Nat × Bool)}

/-! ### Read as a list of polynomials -/
/-- The element 'a' reads as the polynomial 'f'; the handles behind it. -/
inductive PlE (os : List AO) : AV → List (List Int) → List Nat → Prop
  | intss (f : List (List Int)) : PlE os (.intss f) f []
  | nil : PlE os (.val (.slice none 0 0)) [] []
  | sls {h : Nat} {e e2 : TypeId} {f : List (List Int)} : os[h]? = some (.sls e e2 f) → PlE os (.own h) f [h]
theorem PlE.at {base : Nat} {w : World} {gs : List Gh} {ok : Nat → Prop} {a : AV} {f : List (List Int)} {hs : List Nat} (he : PlE os a f hs) (hro : ∀ (h : Nat) g o, gs[h]? = some g → os[h]? = some o → RO base w (okOf gs os) gs g o)
    (hok : ∀ h, h ∈ hs → ∀ g o, gs[h]? = some g → os[h]? = some o → o ≠ .dead → ∀ b, b ∈ g.bl → ok b) (kp : Keeps (okOf gs os) ok w w) {u : Value} (hu : RV w (okOf gs os) gs u a) : IntssAt w ok u f := by
  cases he with
  | intss => cases hu with | intss h => exact h.mono kp
  | nil => cases hu; exact IntssAt.nil
  | @sls h e e2 _ h1 =>
    cases hu with
    | own hg =>
      obtain ⟨vs, bs, mb, a1, a2, a3, a4, a5, a6, a7, a8⟩ := hro _ _ _ hg h1
      have hb := hok h (by simp) _ _ hg h1 (by simp)
      refine ⟨vs, RowAt.of_owns' a1 fun b hbb => hb b ?_, a2, fun i u hu => ⟨RowAt.of_owns' (a5 i u hu).1 fun b hbb => hb b ?_, (a5 i u hu).2.1⟩⟩
      · rw [a7]
        rcases a6 with ⟨h6, _⟩ | ⟨h6, h6'⟩
        · rw [h6] at hbb; cases hbb
        · rw [h6] at hbb; cases hbb; simp [h6']
      · have hi := (List.getElem?_eq_some_iff.1 hu).1
        rw [a7]
        refine List.mem_append.2 (.inr (List.mem_flatten.2 ⟨bs.getD i [], ?_, by rw [← (a5 i u hu).2.2, hbb]; simp⟩))
        rw [List.getD_eq_getElem?_getD, List.getElem?_eq_getElem (by omega)]
        simp
def PlL (os : List AO) : List AV → List (List (List Int)) → List Nat → Prop
  | [], [], hs => hs = []
  | a :: avs, f :: fs, hs => ∃ h1 h2, PlE os a f h1 ∧ PlL os avs fs h2 ∧ hs = h1 ++ h2
  | _, _, _ => False
theorem PlL.get : ∀ {avs : List AV} {fs : List (List (List Int))} {hs : List Nat}, PlL os avs fs hs → avs.length = fs.length ∧ ∀ (i : Nat) a, avs[i]? = some a → ∃ h1, PlE os a (fs.getD i []) h1 ∧ ∀ h, h ∈ h1 → h ∈ hs
  | [], [], hs, _ => ⟨rfl, fun i a h => by simp at h⟩
  | a :: avs, f :: fs, hs, ⟨h1, h2, p1, p2, e⟩ => by
    have ih := PlL.get p2
    refine ⟨by simp [ih.1], fun i x hx => ?_⟩
    match i with
    | 0 =>
      simp at hx; subst hx
      exact ⟨h1, by simpa using p1, fun h hh => by rw [e]; simp [hh]⟩
    | i + 1 =>
      obtain ⟨h3, q1, q2⟩ := ih.2 i x (by simpa using hx)
      exact ⟨h3, by simpa using q1, fun h hh => by rw [e]; simp [q2 h hh]⟩
  | [], _ :: _, _, h => h.elim
  | _ :: _, [], _, h => h.elim
/-! ### Parts of own slices -/
theorem Ret1.osub {h off len : Nat} {e : TypeId} {xs : List Int} (hs : os[h]? = some (.sli e xs)) : Ret1 os (.osub h off len) (.osub 0 off len) [.sli e xs] := fun base w gs env tm hr u hu => by
  cases hu with
  | osub hg hp hc hm =>
    exact ⟨[_], .one (hr.ho _ _ _ hg hs) fun b hb => hr.hn _ _ _ hg hs (by simp) b hb, .osub rfl hp hc hm⟩
end
section
variable {P : Program} {env : Env} {os : List AO} {d : Tmp} {ty : TypeId} {pos : String} {af : Array Edge} {g : Option (Nat × Bool)} {l rest : List Oper} {K : APost} {q : Md}
end
end Go.Proofs.Ytcolpjpppdmanaa
/-
  A row of an own slice of rows is handed to a function that writes to it. No condition.
-/
namespace Go.Proofs.Ytcolpjpppdmanaa
open Go Go.RowKit

section
variable {P : Program} {env : Env} {os : List AO} {d : Tmp} {ty : TypeId} {pos : String} {af : Array Edge} {l rest : List Oper} {K : APost}
end

end Go.Proofs.Ytcolpjpppdmanaa
