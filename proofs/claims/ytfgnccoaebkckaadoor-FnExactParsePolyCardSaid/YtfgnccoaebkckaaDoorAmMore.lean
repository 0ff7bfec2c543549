/-
  More rules: parts of own slices as sources, a slice compared with nil, functions that hand back a part of what they are handed. No condition.
-/
import Derived.Test.YtfgnccoaebkckaaDoorAmAny
import Derived.Lib.SliceRun
namespace Go.Proofs.YtfgnccoaebkckaaDoor
open Go Go.RowKit
section
variable {P : Program} {env : Env} {os : List AO} {d : Option Tmp} {ty : TypeId} {pos : String} {af : Array Edge} {g : Option (Nat × Bool)} {wl : Bool}

theorem q_len_osub {t e : TypeId} [ht : TSlice P t e] {x : Operand} {h off n : Nat} (hx : AV.ev env x = .osub h off n) :
    QOp P wl ⟨d, .call { callee := .builtin .len, args := #[x], argTypes := #[t] }, ty, pos, af, g⟩ env os (.i n) :=
  .of_run fun _ w gs tm hr => by
    have hh := hr.ev x
    rw [hx] at hh
    generalize hv : Act.eval ⟨tm, []⟩ x = v at hh
    cases hh with
    | osub h1 h2 h3 h4 =>
      refine ⟨_, .val _, fun w' _ => ?_⟩
      simp [execOp, resolve, invoke, builtin, hv, Builtin.len_, run_underlying ht.und, goInt]

theorem q_idx_osub {t e : TypeId} [ht : TSlice P t e] [he : TCell P e] {x y : Operand} {h off n : Nat} {i : Int} (hx : AV.ev env x = .osub h off n) (hy : AV.ev env y = .i i) (h0 : 0 ≤ i) (h1 : i < n) :
    QOp P wl ⟨d, .indexAddr t x y, ty, pos, af, g⟩ env os (.optr h (off + i.toNat)) :=
  .of_run fun _ w gs tm hr => by
    have hh := hr.ev x
    rw [hx] at hh
    generalize hv : Act.eval ⟨tm, []⟩ x = v at hh
    cases hh with
    | @osub _ _ _ cap p gh hg hp hc hm =>
      have e := hp (by omega)
      subst e
      refine ⟨_, .optr hg, fun w' _ => ?_⟩
      obtain ⟨ie, hi, hs1⟩ := he.info
      have hrun := run_idx ht.und hi hs1 ⟨gh.b, off, none⟩ n cap i h0 h1 w'
      simp only [execOp, hv, hr.evv hy, Sem.run_bind, hrun, add_none, Result.andThen_ok, Sem.run_pure]

theorem q_osub_hi {t e : TypeId} [ht : TSlice P t e] [he : TCell P e] {x y : Operand} {h off m : Nat} {n : Int} (hx : AV.ev env x = .osub h off m) (hy : AV.ev env y = .i n) (h0 : 0 ≤ n) (h1 : n ≤ m) :
    QOp P wl ⟨d, .slice t x none (some y) none, ty, pos, af, g⟩ env os (.osub h off n.toNat) :=
  .of_run fun _ w gs tm hr => by
    have hh := hr.ev x
    rw [hx] at hh
    generalize hv : Act.eval ⟨tm, []⟩ x = v at hh
    cases hh with
    | @osub _ _ _ cap p gh hg hp hc hm =>
      have e1 := elem_of (P := P) ht.und
      refine ⟨sliced p 0 n.toNat cap 1, ?_, fun w' _ => ?_⟩
      · refine RV.osub hg (fun hpos => ?_) (by omega) (by omega)
        rw [if_neg (by omega), hp (by omega)]
        simp [add_none]
      · have hrun := run_slice_h (P := P) w' t p m cap (by rw [e1]; exact ht.und) .i64 n h0 (by omega)
        rw [e1, run_size] at hrun
        have hat := run_sliceAt_slice (P := P) w' t (.slice p m cap) none (some (.int .i64 n)) none (by rw [e1]; exact ht.und)
        simp only [execOp, hv, hr.evv hy, Option.map_none, Option.map_some, Sem.run_bind, hat, hrun, Result.andThen_ok, Sem.run_pure]

theorem q_eqnil {xt yt e : TypeId} [ht : TSlice P xt e] {x : Operand} {xs : List Int} (hx : AV.ev env x = .ints xs) (h1 : 0 < xs.length) :
    QOp P wl ⟨d, .binOp .eql xt x (.const (.slice none 0 0)) yt, ty, pos, af, g⟩ env os (.b false) :=
  .of_run fun _ w gs tm hr => by
    have hh := hr.ev x
    rw [hx] at hh
    generalize hv : Act.eval ⟨tm, []⟩ x = v at hh
    cases hh with
    | ints hxs =>
      obtain ⟨⟨p, cap, e1, _, _, h3⟩, _⟩ := hxs
      obtain ⟨b, off, rfl, _⟩ := h3 (by simp; omega)
      refine ⟨.bool false, .val _, fun w' _ => ?_⟩
      have hrun := Lib.run_eql_slice_nil (P := P) w' xt e (some ⟨b, off, none⟩) (xs.map (Value.int .i64)).length cap 0 0 ht.und
      have hg : eqGuard .eql xt x (.const (.slice none 0 0)) (.slice (some ⟨b, off, none⟩) (xs.map (Value.int .i64)).length cap) (.slice none 0 0) = pure () := by simp [go_sem]
      have hce : Act.eval ⟨tm, []⟩ (.const (.slice none 0 0)) = .slice none 0 0 := rfl
      simp only [execOp, hv, e1, hce, hg, hrun, Sem.run_bind, Sem.run_pure, Result.andThen_ok, Option.isNone_some]
end

section
variable {P : Program} {env : Env} {os : List AO} {d : Tmp} {ty : TypeId} {pos : String} {af : Array Edge} {g : Option (Nat × Bool)} {l rest : List Oper} {K : APost} {q : Md}
theorem w_lenos {t e : TypeId} [TSlice P t e] {x : Operand} {h off n : Nat} (hw : wantedA l env ⟨some d, .call { callee := .builtin .len, args := #[x], argTypes := #[t] }, ty, pos, af, g⟩ = some true) (hx : evo env x = some (.osub h off n)) (h' : AOps P q l rest K (env.up d (.i n)) os) : AOps P q l (⟨some d, .call { callee := .builtin .len, args := #[x], argTypes := #[t] }, ty, pos, af, g⟩ :: rest) K env os := AOps.qo hw (q_len_osub (ev_of hx)) h'
theorem w_idxos {t e : TypeId} [TSlice P t e] [TCell P e] {x y : Operand} {h off n : Nat} {i : Int} (hw : wantedA l env ⟨some d, .indexAddr t x y, ty, pos, af, g⟩ = some true) (hx : evo env x = some (.osub h off n)) (hy : evo env y = some (.i i)) (h0 : 0 ≤ i) (h1 : i < n) (h' : AOps P q l rest K (env.up d (.optr h (off + i.toNat))) os) : AOps P q l (⟨some d, .indexAddr t x y, ty, pos, af, g⟩ :: rest) K env os := AOps.qo hw (q_idx_osub (ev_of hx) (ev_of hy) h0 h1) h'
theorem w_osubhi {t e : TypeId} [TSlice P t e] [TCell P e] {x y : Operand} {h off m : Nat} {n : Int} (hw : wantedA l env ⟨some d, .slice t x none (some y) none, ty, pos, af, g⟩ = some true) (hx : evo env x = some (.osub h off m)) (hy : evo env y = some (.i n)) (h0 : 0 ≤ n) (h1 : n ≤ m) (h' : AOps P q l rest K (env.up d (.osub h off n.toNat)) os) : AOps P q l (⟨some d, .slice t x none (some y) none, ty, pos, af, g⟩ :: rest) K env os := AOps.qo hw (q_osub_hi (ev_of hx) (ev_of hy) h0 h1) h'
theorem w_eqnil {xt yt e : TypeId} [TSlice P xt e] {x : Operand} {xs : List Int} (hw : wantedA l env ⟨some d, .binOp .eql xt x (.const (.slice none 0 0)) yt, ty, pos, af, g⟩ = some true) (hx : evo env x = some (.ints xs)) (h1 : 0 < xs.length) (h' : AOps P q l rest K (env.up d (.b false)) os) : AOps P q l (⟨some d, .binOp .eql xt x (.const (.slice none 0 0)) yt, ty, pos, af, g⟩ :: rest) K env os := AOps.qo hw (q_eqnil (ev_of hx) h1) h'
end

/-! ### Functions that hand back a part of what they are handed -/
/-- The function leaves the object 'os' behind the handle 0 as it is, and hands back a part of it: what lies off on, len long. -/
def AFnR (P : Program) (f : FuncId) (args : List AV) (T : TypeId) (xs : List Int) (off len : Nat) : Prop :=
  HasBody P f ∧ ∀ base w gs vs, base ≤ w.heap.size → Objs base w gs [.sli T xs] → vs.size = args.length → (∀ i : Nat, RV w (okOf gs [.sli T xs]) gs (vs.getD i undef) (args.getD i .any)) →
    Calls P f vs w fun e w' => ∃ v, e = .returned v ∧ RV w' (fun _ => True) gs v (.osub 0 off len) ∧ Objs base w' gs [.sli T xs] ∧ Below base w w' ∧ ∀ b, b < w.heap.size → (∀ (h : Nat) g, gs[h]? = some g → b ∉ g.bl) → w'.heap[b]? = w.heap[b]?
theorem AFnR.of {P : Program} {f : FuncId} {fn : Func} {c : Code} {args : List AV} {T : TypeId} {xs : List Int} {off len : Nat} {n : Nat} (hf : P.funcs[f]? = some fn) (hb : fn.body = some c) (hnm : (fn.name == "runtime.NumGoroutine") = false) (hn : fn.ntmps - args.length = n)
    (h : ∀ K, AWp P c (fun _ _ => False) (fun _ _ _ => False) (fun env os1 => ResIs P fn env os1 (.osub 0 off len) ∧ os1.take 1 = [.sli T xs] ∧ os1[1]? = some (.keep 2 K)) (Env.start args n) [.sli T xs, .keep 2 K]) :
    AFnR P f args T xs off len := by
  obtain ⟨os, hos⟩ : ∃ os : List AO, os = [.sli T xs] := ⟨_, rfl⟩
  have h' : ∀ K, AWp P c (fun _ _ => False) (fun _ _ _ => False) (fun env os1 => ResIs P fn env os1 (.osub 0 off len) ∧ os1.take os.length = os ∧ os1[os.length]? = some (.keep (os.length + 1) K) ∧ ∀ o ∈ os, o.plain) (Env.start args n) (os ++ [.keep (os.length + 1) K]) := by
    subst hos
    exact fun K => (h K).mono (fun _ _ e => e) (fun _ _ _ e => e) fun _ _ ⟨e1, e2, e3⟩ => ⟨e1, e2, e3, by intro o ho; simp at ho; subst ho; trivial⟩
  unfold AFnR
  rw [← hos]
  refine ⟨⟨fn, c, hf, hnm, hb⟩, fun base w gs vs hbase hO hsz hvs => calls_of_wp hf hb ?_⟩
  rw [show fn.ntmps - vs.size = n by rw [hsz]; exact hn]
  let bl : List Nat := (List.range w.heap.size).filter fun b => decide (base ≤ b) && gs.all fun g => !g.bl.contains b
  let gk : Gh := ⟨undef, 0, bl, []⟩
  let K : Kp := ⟨fun b => w.heap[b]?, gs ++ [gk]⟩
  have hbl : ∀ b, b ∈ bl ↔ b < w.heap.size ∧ base ≤ b ∧ ∀ (h : Nat) g, gs[h]? = some g → b ∉ g.bl := by
    intro b
    simp only [bl, List.mem_filter, List.mem_range, Bool.and_eq_true, decide_eq_true_eq, List.all_eq_true, Bool.not_eq_true', List.contains_eq_mem, decide_eq_false_iff_not]
    constructor
    · rintro ⟨h1, h2, h3⟩
      exact ⟨h1, h2, fun h g hg => h3 g (List.mem_of_getElem? hg)⟩
    · rintro ⟨h1, h2, h3⟩
      exact ⟨h1, h2, fun g hg => by obtain ⟨i, hi⟩ := List.getElem?_of_mem hg; exact h3 i g hi⟩
  have hl := hO.hl
  have part : ∀ {i : Nat} {x : Gh} {y : AO}, (gs ++ [gk])[i]? = some x → (os ++ [.keep (os.length + 1) K])[i]? = some y → (gs[i]? = some x ∧ os[i]? = some y) ∨ (i = os.length ∧ x = gk ∧ y = .keep (os.length + 1) K) := by
    intro i x y hx hy
    rcases append_one hx with ⟨h1, h2⟩ | ⟨h1, rfl⟩
    · rcases append_one hy with ⟨h3, h4⟩ | ⟨h3, rfl⟩
      · exact .inl ⟨h2, h4⟩
      · omega
    · rcases append_one hy with ⟨h3, h4⟩ | ⟨h3, rfl⟩
      · omega
      · exact .inr ⟨h3, rfl, rfl⟩
  have gl : ∀ (i : Nat) x, gs[i]? = some x → (gs ++ [gk])[i]? = some x := fun i x e => by
    rw [List.getElem?_append_left (List.getElem?_eq_some_iff.1 e).1]; exact e
  have kp : Keeps (okOf gs os) (okOf (gs ++ [gk]) (os ++ [.keep (os.length + 1) K])) w w := by
    intro b hbk _
    refine ⟨fun i x y hx hy hny hm => ?_, rfl⟩
    rcases part hx hy with ⟨h1, h2⟩ | ⟨_, _, rfl⟩
    · exact hbk i x y h1 h2 hny hm
    · exact hny.elim
  have hrel : Rel base w (gs ++ [gk]) (Env.start args n) (os ++ [.keep (os.length + 1) K]) (vs ++ Array.replicate n undef) := by
    refine ⟨hbase, by simp [hl], by simp [Env.start, hsz], fun i => ?_, ?_, ?_, ?_⟩
    · exact start_rv args n vs (fun i => (hvs i).mono kp gl) i
    · intro i x y hx hy
      rcases part hx hy with ⟨h1, h2⟩ | ⟨_, rfl, rfl⟩
      · exact (hO.hp y (List.mem_of_getElem? h2)).ro (hO.ho i x y h1 h2)
      · exact ⟨fun b _ => rfl, by simp [K, hl], fun i x h => h⟩
    · intro i j g1 g2 o1 o2 hij hg1 hg2 ho1 ho2 _ _ b hb1 hb2
      rcases part hg1 ho1 with ⟨a1, a2⟩ | ⟨a1, rfl, _⟩
      · rcases part hg2 ho2 with ⟨b1, b2⟩ | ⟨_, rfl, _⟩
        · exact hO.hd i j g1 g2 hij a1 b1 b hb1 hb2
        · exact ((hbl b).1 hb2).2.2 i g1 a1 hb1
      · rcases part hg2 ho2 with ⟨b1, b2⟩ | ⟨b1, _, _⟩
        · exact ((hbl b).1 hb1).2.2 j g2 b1 hb2
        · omega
    · intro i x y hx hy _ b hb
      rcases part hx hy with ⟨h1, h2⟩ | ⟨_, rfl, _⟩
      · exact hO.hn i x h1 b hb
      · exact ⟨((hbl b).1 hb).2.1, ((hbl b).1 hb).1⟩
  refine wp_mono (h' K base w w _ _ hrel (Below.refl _ _)) ?_
  intro e a w' hq
  cases e with
  | normal => obtain ⟨_, _, _, _, _, _, hx⟩ := hq; exact hx.elim
  | exit j => obtain ⟨_, _, _, _, _, _, hx⟩ := hq; exact hx.elim
  | ret =>
    obtain ⟨env, os1, gs1, hr, hd, hbel, h1, h3, h4, h5⟩ := hq
    obtain ⟨v, hu, hv⟩ := h1 _ _ _ _ hr
    have hlt : os.length < os1.length := (List.getElem?_eq_some_iff.1 h4).1
    have hltg : os.length < gs1.length := by have := hr.hl; omega
    obtain ⟨g1, hg1⟩ : ∃ g1, gs1[os.length]? = some g1 := ⟨_, List.getElem?_eq_getElem hltg⟩
    obtain ⟨r1, r2, r3⟩ := hr.ho _ _ _ hg1 h4
    have pin : ∀ (i : Nat) x, gs[i]? = some x → gs1[i]? = some x := fun i x e => r3 i x (gl i x e)
    have egk : g1 = gk := by
      have := r3 os.length gk (by show (gs ++ [gk])[os.length]? = some gk; rw [← hl]; simp)
      rw [hg1] at this
      exact Option.some.inj this
    rw [egk] at r1
    have get' : ∀ {i : Nat} {y : AO}, os[i]? = some y → os1[i]? = some y ∧ i < os.length := by
      intro i y hy
      rw [← h3, List.getElem?_take] at hy
      split at hy
      · exact ⟨hy, ‹_›⟩
      · cases hy
    refine ⟨hd, v, hu, v, rfl, ?_, ⟨hO.hl, h5, ?_, hO.hd, ?_⟩, hbel, ?_⟩
    · cases hv with
      | @osub _ _ _ cap p g0 hg hp hc hm =>
        have hlt0 : 0 < gs.length := by rw [hl, hos]; simp
        have e0 := pin 0 _ (List.getElem?_eq_getElem hlt0)
        rw [hg] at e0
        cases e0
        exact .osub (List.getElem?_eq_getElem hlt0) hp hc hm
    · intro i x y hx hy
      obtain ⟨h6, h7⟩ := get' hy
      exact (h5 y (List.mem_of_getElem? hy)).ro (hr.ho i x y (pin i x hx) h6)
    · intro i x hx b hb
      have := hO.hn i x hx b hb
      exact ⟨this.1, Nat.lt_of_lt_of_le this.2 hbel.size⟩
    · intro b hb hnot
      rcases Nat.lt_or_ge b base with h6 | h6
      · exact hbel.block b h6
      · exact r1 b ((hbl b).2 ⟨hb, h6, hnot⟩)
  | goto l => exact (hq : False).elim
  | panic ch => exact (hq : False).elim
  | outgrown => exact (hq : False).elim


theorem AFnR.start {P : Program} {f : FuncId} {fn : Func} {nt : Nat} {args : List AV} {T : TypeId} {xs : List Int} {off len : Nat} (hf : P.funcs[f]? = some fn) (hnt : fn.ntmps = nt) {c : Code} (hb : fn.body = some c) (hnm : (fn.name == "runtime.NumGoroutine") = false)
    (h : ∀ K, AWp P c (fun _ _ => False) (fun _ _ _ => False) (fun env os1 => ResIs P fn env os1 (.osub 0 off len) ∧ os1.take 1 = [.sli T xs] ∧ os1[1]? = some (.keep 2 K)) (Env.start args (nt - args.length)) [.sli T xs, .keep 2 K]) :
    AFnR P f args T xs off len := AFnR.of hf hb hnm (by rw [hnt]) h

section
variable {P : Program} {env : Env} {os : List AO} {d : Tmp} {ty : TypeId} {pos : String} {af : Array Edge} {l rest : List Oper} {K : APost}
theorem w_callr {f : FuncId} {ats : Array TypeId} {T : TypeId} {xs : List Int} {off len h : Nat} {x : Operand} (hc : AFnR P f [.osub 0 0 xs.length] T xs off len) (hx : evo env x = some (.own h)) (hs : os[h]? = some (.sli T xs))
    (h' : AOps P .seq l rest K (env.up d (.osub h off len)) os) :
    AOps P .seq l (⟨some d, .call { callee := .value (.func f), args := #[x], argTypes := ats }, ty, pos, af, none⟩ :: rest) K env os := by
  refine AOps.ca (Q := fun r e o => r = .osub h off len ∧ e = env ∧ o = os) ?_ fun r e o ⟨h1, h2, h3⟩ => by subst h1; subst h2; subst h3; exact h'
  intro base w gs tm hr
  have hh : Handed os [h] [.sli T xs] := handed1 hs True.intro
  have hlt : ∀ k ∈ [h], k < gs.length := fun k hk => by rw [hr.hl]; exact hh.lt k hk
  have hev := hr.ev x
  rw [ev_of hx] at hev
  obtain ⟨gh, hg⟩ : ∃ gh, gs[h]? = some gh := by
    generalize Act.eval ⟨tm, []⟩ x = v at hev
    cases hev with | own hg => exact ⟨_, hg⟩
  have hsel : (selG gs [h])[0]? = some gh := selG_of (H := [h]) rfl hg
  have ho := hr.ho _ _ _ hg hs
  obtain ⟨a1, a2, a3⟩ := ho
  have hrv : RV w (okOf (selG gs [h]) [.sli T xs]) (selG gs [h]) (Act.eval ⟨tm, []⟩ x) (.osub 0 0 xs.length) := by
    generalize hv : Act.eval ⟨tm, []⟩ x = v at hev
    cases hev with
    | own hg' =>
      rw [hg] at hg'
      cases hg'
      obtain ⟨a, cap, ev, hc1, hm1, ha⟩ := sliced_own a1 a3
      rw [ev]
      exact .osub hsel (fun hp => ha (by omega)) hc1 hm1
  refine ⟨f, _, run_call hc.1 [x] ats _ rfl w, (hc.2 base w (selG gs [h]) _ hr.hb (hr.objs hh) (by simp) fun i => ?_).mono ?_⟩
  · match i with
    | 0 => simpa using hrv
    | i + 1 => exact .any _
  · rintro e w' ⟨u, rfl, hu, ho', hbel, hw⟩
    have hr' := hr.updAll hh ho' hbel hw
    have es : setAll os [h] [.sli T xs] = os := by
      simp only [setAll]
      apply List.ext_getElem?
      intro i
      rw [List.getElem?_set]
      split
      · subst_vars; split
        · exact hs.symm
        · rename_i h5; exact absurd (List.getElem?_eq_some_iff.1 hs).1 h5
      · rfl
    rw [es] at hr'
    refine ⟨u, .osub h off len, env, os, gs, rfl, ⟨rfl, rfl, rfl⟩, hr', ?_, hbel⟩
    cases hu with
    | osub hg2 hp hc2 hm =>
      rw [hsel] at hg2
      cases hg2
      exact .osub hg hp hc2 hm
end
end Go.Proofs.YtfgnccoaebkckaaDoor
