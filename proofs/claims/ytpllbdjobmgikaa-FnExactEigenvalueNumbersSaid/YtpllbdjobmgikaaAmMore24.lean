/-
  Functions that are handed a pointer to one object and things that are only read beside it; closures with such a pointer and a row. No condition.
-/
import Derived.Test.YtpllbdjobmgikaaAmMore22
namespace Go.Proofs.Ytpllbdjobmgikaa
open Go Go.RowKit
set_option linter.unusedVariables false

def pinOb (q : Ob) (B : Nat) (V : Value) : Ob where
  p base w g := q.p base w g ∧ g.b = B ∧ g.v = V
  up hb h := ⟨q.up hb h.1, h.2⟩
  lower hl h := ⟨q.lower hl h.1, h.2⟩
  one h := q.one h.1

/-- The object's place and its pointer are known. -/
def Pinned (q : Ob) (B : Nat) (V : Value) : Prop := ∀ base w g, q.p base w g → g.b = B ∧ g.v = V
theorem pinned1 {q : Ob} {B : Nat} {V : Value} : Pinned (pinOb q B V) B V := fun _ _ _ h => h.2
theorem pinned2 {q : Ob} {B B' : Nat} {V V' : Value} (h : Pinned q B V) : Pinned (pinOb q B' V') B V := fun _ _ _ h1 => h _ _ _ h1.1
/-- The function turns the object q that it is handed into q', and hands back v. -/
def AFnO (P : Program) (f : FuncId) (args : List AV) (q q' : Ob) (v : Value) : Prop :=
  HasBody P f ∧ ∀ base w g vs, base ≤ w.heap.size → q.p base w g → (∀ b, b ∈ g.bl → base ≤ b ∧ b < w.heap.size) → vs.size = args.length → (∀ i : Nat, RV w (okOf [g] [.ob q]) [g] (vs.getD i undef) (args.getD i .any)) →
    Calls P f vs w fun e w' => ∃ g' : Gh, e = .returned v ∧ g'.v = g.v ∧ g'.b = g.b ∧ q'.p base w' g' ∧ (∀ b, b ∈ g'.bl → (b ∈ g.bl ∨ w.heap.size ≤ b) ∧ b < w'.heap.size) ∧ Below base w w' ∧ ∀ b, b < w.heap.size → b ∉ g.bl → w'.heap[b]? = w.heap[b]?
theorem okOf_ob {g : Gh} {q q2 : Ob} : okOf [g] [.ob q] = okOf [g] [.ob q2] := by
  have key : ∀ {q q2 : Ob} {b : Nat}, okOf [g] [.ob q] b → okOf [g] [.ob q2] b := by
    intro q q2 b h i x y hx hy _
    match i with
    | 0 => exact h 0 x (.ob q) hx rfl trivial
    | i + 1 => simp at hx
  funext b
  exact propext ⟨key, key⟩
theorem AFnO.pin {P : Program} {f : FuncId} {args : List AV} {q q' : Ob} {v : Value} (h : AFnO P f args q q' v) (B : Nat) (V : Value) : AFnO P f args (pinOb q B V) (pinOb q' B V) v := by
  refine ⟨h.1, fun base w g vs hb hq hn hs hv => ?_⟩
  refine (h.2 base w g vs hb hq.1 hn hs fun i => ?_).mono ?_
  · rw [okOf_ob (q2 := pinOb q B V)]; exact hv i
  · rintro e w' ⟨g', h1, h2, h3, h4, h5⟩
    exact ⟨g', h1, h2, h3, ⟨h4, by rw [h3]; exact hq.2.1, by rw [h2]; exact hq.2.2⟩, h5⟩
theorem AFnO.drop {P : Program} {f : FuncId} {args : List AV} {q q' : Ob} {v : Value} {B : Nat} {V : Value} (h : AFnO P f args q (pinOb q' B V) v) : AFnO P f args q q' v := by
  refine ⟨h.1, fun base w g vs hb hq hn hs hv => (h.2 base w g vs hb hq hn hs hv).mono ?_⟩
  rintro e w' ⟨g', h1, h2, h3, h4, h5⟩
  exact ⟨g', h1, h2, h3, h4.1, h5⟩
theorem AFnO.ofP {P : Program} {f : FuncId} {as0 : List Value} {T e e2 : TypeId} {L L' : List (List Int)} {v : Value} (h : AFnP P f as0 T e e2 L L' v) : AFnO P f (.optr 0 0 :: as0.map AV.val) (cntOb T e e2 L) (cntOb T e e2 L') v := by
  refine ⟨h.1, fun base w g vs hb hq hn hs hv => ?_⟩
  have e0 : vs = (g.v :: as0).toArray := by
    have hq' := hq
    obtain ⟨p, _, _, a3, _⟩ := hq'
    apply Array.ext
    · simpa using hs
    · intro i h1 h2
      have := hv i
      rw [Array.getD_eq_getD_getElem?, Array.getElem?_eq_getElem h1] at this
      simp only [Option.getD_some] at this
      generalize hx : vs[i] = x at this
      match i, h1, h2, hx, this with
      | 0, h1, h2, hx, this =>
        simp only [List.getD_cons_zero] at this
        cases this with
        | optr hg => simp at hg; subst hg; simp [a3]
      | i + 1, h1, h2, hx, this =>
        have hl : i < as0.length := by simpa using h2
        rw [List.getD_cons_succ, List.getD_eq_getElem?_getD, List.getElem?_map, List.getElem?_eq_getElem hl] at this
        simp only [Option.map_some, Option.getD_some] at this
        cases this
        simp
  rw [e0]
  exact h.2 base w g hb hq hn

theorem AFnO.of {P : Program} {f : FuncId} {fn : Func} {c : Code} {args args' : List AV} {q q' : Ob} {v : Value} {n : Nat} (hf : P.funcs[f]? = some fn) (hb : fn.body = some c) (hnm : (fn.name == "runtime.NumGoroutine") = false) (hn : fn.ntmps - args.length = n) (ha : args' = args.map (AV.sh 1))
    (h : ∀ K B V, AWp P c (fun env (os : List AO) => ∃ k : Nat, ResIs P fn env os (.val v) ∧ os[k]? = some (.ob (pinOb q' B V)) ∧ os[0]? = some (.keep 1 K)) (fun _ _ _ => False) (fun env (os : List AO) => ∃ k : Nat, ResIs P fn env os (.val v) ∧ os[k]? = some (.ob (pinOb q' B V)) ∧ os[0]? = some (.keep 1 K)) (Env.start args' n) [.keep 1 K, .ob (pinOb q B V)]) :
    AFnO P f args q q' v := by
  refine ⟨⟨fn, c, hf, hnm, hb⟩, fun base w g vs hbase hq hn0 hsz hvs => calls_of_wp hf hb ?_⟩
  rw [show fn.ntmps - vs.size = n by rw [hsz]; exact hn]
  have h := fun K => h K g.b g.v
  let bl : List Nat := (List.range w.heap.size).filter fun b => decide (base ≤ b) && !g.bl.contains b
  let gk : Gh := ⟨undef, 0, bl, []⟩
  let K : Kp := ⟨fun b => w.heap[b]?, [gk]⟩
  let oo : AO := .ob (pinOb q g.b g.v)
  have hbl : ∀ b, b ∈ bl ↔ b < w.heap.size ∧ base ≤ b ∧ b ∉ g.bl := by
    intro b
    simp only [bl, List.mem_filter, List.mem_range, Bool.and_eq_true, decide_eq_true_eq, Bool.not_eq_true', List.contains_eq_mem, decide_eq_false_iff_not]
  have gg : ∀ {i : Nat} {x : Gh}, [gk, g][i]? = some x → (i = 0 ∧ x = gk) ∨ (i = 1 ∧ x = g) := by
    intro i x hx
    match i with
    | 0 => simp at hx; exact .inl ⟨rfl, hx.symm⟩
    | 1 => simp at hx; exact .inr ⟨rfl, hx.symm⟩
    | i + 2 => simp at hx
  have go : ∀ {i : Nat} {x : AO}, [AO.keep 1 K, oo][i]? = some x → (i = 0 ∧ x = .keep 1 K) ∨ (i = 1 ∧ x = oo) := by
    intro i x hx
    match i with
    | 0 => simp at hx; exact .inl ⟨rfl, hx.symm⟩
    | 1 => simp at hx; exact .inr ⟨rfl, hx.symm⟩
    | i + 2 => simp at hx
  have hkeep : Keeps (okOf [g] [.ob q]) (okOf [gk, g] [.keep 1 K, oo]) w w := by
    intro b hbk _
    refine ⟨fun i x y hx hy hny hm => ?_, rfl⟩
    rcases gg hx with ⟨rfl, rfl⟩ | ⟨rfl, rfl⟩
    · rcases go hy with ⟨_, rfl⟩ | ⟨h0, _⟩
      · exact hny.elim
      · omega
    · rcases go hy with ⟨h0, _⟩ | ⟨_, rfl⟩
      · omega
      · exact hbk 0 _ _ rfl rfl trivial hm
  have hrel : Rel base w [gk, g] (Env.start args' n) [.keep 1 K, oo] (vs ++ Array.replicate n undef) := by
    refine ⟨hbase, rfl, by simp [Env.start, hsz, ha], fun i => start_rv args' n vs (fun i => ?_) i, ?_, ?_, ?_⟩
    · rw [ha, getD_map_any _ rfl]
      have := (hvs i).sh (gs0 := [gk]) hkeep
      exact this
    · intro i x y hx hy
      rcases gg hx with ⟨rfl, rfl⟩ | ⟨rfl, rfl⟩
      · rcases go hy with ⟨_, rfl⟩ | ⟨h0, _⟩
        · exact ⟨fun b _ => rfl, rfl, fun i x h => by
            match i with
            | 0 => exact h
            | i + 1 => simp [K] at h⟩
        · omega
      · rcases go hy with ⟨h0, _⟩ | ⟨_, rfl⟩
        · omega
        · exact ⟨hq, rfl, rfl⟩
    · intro i j g1 g2 o1 o2 hij hg1 hg2 ho1 ho2 _ _ b hb1 hb2
      rcases gg hg1 with ⟨rfl, rfl⟩ | ⟨rfl, rfl⟩
      · rcases gg hg2 with ⟨rfl, rfl⟩ | ⟨rfl, rfl⟩
        · exact hij rfl
        · exact ((hbl b).1 hb1).2.2 hb2
      · rcases gg hg2 with ⟨rfl, rfl⟩ | ⟨rfl, rfl⟩
        · exact ((hbl b).1 hb2).2.2 hb1
        · exact hij rfl
    · intro i x y hx hy _ b hb
      rcases gg hx with ⟨rfl, rfl⟩ | ⟨rfl, rfl⟩
      · exact ⟨((hbl b).1 hb).2.1, ((hbl b).1 hb).1⟩
      · exact hn0 b hb
  have fin : ∀ {env : Env} {os1 : List AO} {gs2 : List Gh} {a : Act} {w' : World}, Rel base w' gs2 env os1 a.tmps → Below base w w' → (∃ k : Nat, ResIs P fn env os1 (.val v) ∧ os1[k]? = some (AO.ob (pinOb q' g.b g.v)) ∧ os1[0]? = some (.keep 1 K)) →
      ∃ u, (results fn a.tmps).run P w' = .ok u w' ∧ ∃ g' : Gh, Exit.ret = Exit.ret ∧ u = v ∧ g'.v = g.v ∧ g'.b = g.b ∧ q'.p base w' g' ∧ (∀ b, b ∈ g'.bl → (b ∈ g.bl ∨ w.heap.size ≤ b) ∧ b < w'.heap.size) ∧ Below base w w' ∧ ∀ b, b < w.heap.size → b ∉ g.bl → w'.heap[b]? = w.heap[b]? := by
    intro env os1 gs2 a w' hr hbel ⟨k, hres, hok, hkp⟩
    obtain ⟨u, hu, hv⟩ := hres _ _ _ _ hr
    cases hv
    have hltk : k < gs2.length := by rw [hr.hl]; exact (List.getElem?_eq_some_iff.1 hok).1
    obtain ⟨g', hg'⟩ : ∃ g', gs2[k]? = some g' := ⟨_, List.getElem?_eq_getElem hltk⟩
    have hlt0 : 0 < gs2.length := by rw [hr.hl]; exact (List.getElem?_eq_some_iff.1 hkp).1
    obtain ⟨g0, hg0⟩ : ∃ g0, gs2[0]? = some g0 := ⟨_, List.getElem?_eq_getElem hlt0⟩
    obtain ⟨r1, r2, r3⟩ := hr.ho _ _ _ hg0 hkp
    have egk : g0 = gk := by
      have := r3 0 gk rfl
      rw [hg0] at this
      exact Option.some.inj this
    subst egk
    have hk0 : k ≠ 0 := fun e => by subst e; rw [hkp] at hok; cases hok
    obtain ⟨hro1, hro2, hro3⟩ := hr.ho _ _ _ hg' hok
    refine ⟨v, hu, g', rfl, rfl, hro3, hro2, hro1, fun b hb => ?_, hbel, fun b hb hnot => ?_⟩
    · have hbn := hr.hn _ _ _ hg' hok (by simp) b hb
      refine ⟨?_, hbn.2⟩
      by_cases hbw : b < w.heap.size
      · left
        apply Classical.byContradiction
        intro hnb
        exact hr.hd k 0 g' _ _ _ hk0 hg' hg0 hok hkp (by simp) (by simp) b hb ((hbl b).2 ⟨hbw, hbn.1, hnb⟩)
      · right; omega
    · rcases Nat.lt_or_ge b base with h6 | h6
      · exact hbel.block b h6
      · exact r1 b ((hbl b).2 ⟨hb, h6, hnot⟩)
  refine wp_mono (h K base w w _ _ hrel (Below.refl _ _)) ?_
  intro e a w' hq
  cases e with
  | normal =>
    obtain ⟨env, os1, gs1, hr, hd, hbel, hx⟩ := hq
    obtain ⟨u, hu, g', _, rfl, r⟩ := fin hr hbel hx
    exact ⟨hd, _, hu, g', rfl, r⟩
  | exit j => obtain ⟨_, _, _, _, _, _, hx⟩ := hq; exact hx.elim
  | ret =>
    obtain ⟨env, os1, gs1, hr, hd, hbel, hx⟩ := hq
    obtain ⟨u, hu, g', _, rfl, r⟩ := fin hr hbel hx
    exact ⟨hd, _, hu, g', rfl, r⟩
  | goto l => exact (hq : False).elim
  | panic ch => exact (hq : False).elim
  | outgrown => exact (hq : False).elim
theorem AFnO.start {P : Program} {f : FuncId} {fn : Func} {nt : Nat} {args : List AV} {q q' : Ob} {v : Value} (hf : P.funcs[f]? = some fn) (hnt : fn.ntmps = nt) {c : Code} (hb : fn.body = some c) (hnm : (fn.name == "runtime.NumGoroutine") = false)
    (h : ∀ K B V, AWp P c (fun env (os : List AO) => ∃ k : Nat, ResIs P fn env os (.val v) ∧ os[k]? = some (.ob (pinOb q' B V)) ∧ os[0]? = some (.keep 1 K)) (fun _ _ _ => False) (fun env (os : List AO) => ∃ k : Nat, ResIs P fn env os (.val v) ∧ os[k]? = some (.ob (pinOb q' B V)) ∧ os[0]? = some (.keep 1 K)) (Env.start (args.map (AV.sh 1)) (nt - args.length)) [.keep 1 K, .ob (pinOb q B V)]) :
    AFnO P f args q q' v := AFnO.of hf hb hnm (by rw [hnt]) rfl h

/-! ### Calls -/
def ImmO (os : List AO) (h : Nat) (a a' : AV) : Prop := (∃ i, a = .optr h i ∧ a' = .optr 0 i) ∨ ImmU os [h] a a'
def ImmOs (os : List AO) (h : Nat) : List AV → List AV → Prop
  | [], [] => True
  | a :: as0, b :: bs => ImmO os h a b ∧ ImmOs os h as0 bs
  | _, _ => False
theorem ImmOs.get {os : List AO} {h : Nat} : ∀ {l l' : List AV}, ImmOs os h l l' → l.length = l'.length ∧ ∀ i : Nat, ImmO os h (l.getD i .any) (l'.getD i .any)
  | [], [], _ => ⟨rfl, fun _ => .inr (.any _)⟩
  | a :: l, b :: l', hh => by
    obtain ⟨h1, h2⟩ := hh
    have ih := ImmOs.get h2
    refine ⟨by simp [ih.1], fun i => ?_⟩
    match i with
    | 0 => exact h1
    | i + 1 => exact ih.2 i
  | [], _ :: _, hh => hh.elim
  | _ :: _, [], hh => hh.elim

section
variable {P : Program} {env : Env} {os : List AO} {d : Option Tmp} {ty : TypeId} {pos : String} {af : Array Edge} {g : Option (Nat × Bool)}
/-- What a call of such a function leaves. -/
theorem AFnO.leaves {f : FuncId} {args : List AV} {q q' : Ob} {v : Value} (e2 : TypeId) (hc : AFnO P f args q q' v) {h : Nat} (hs : os[h]? = some (.ob q)) {base : Nat} {w : World} {gs : List Gh} {tm : Array Value} (hr : Rel base w gs env os tm) {gh : Gh} (hgh : gs[h]? = some gh) {vs : Array Value} (hsz : vs.size = args.length) (hvs : ∀ i : Nat, RV w (okOf [gh] [.ob q]) [gh] (vs.getD i undef) (args.getD i .any)) :
    Calls P f vs w fun e w' => ∃ v' r env' os' gs', e = .returned v' ∧ (r = .val v ∧ env' = env.mp (AV.noRow h) ∧ os' = (((os ++ [AO.sli e2 []]).map (AO.via (AV.noRow h) h)).set h (.ob q')).set os.length .dead) ∧ Rel base w' gs' env' os' tm ∧ RV w' (okOf gs' os') gs' v' r ∧ Below base w w' := by
  have hlt : h < os.length := (List.getElem?_eq_some_iff.1 hs).1
  have hgl : h < gs.length := by rw [hr.hl]; exact hlt
  have hq : q.p base w gh := hr.ho _ _ _ hgh hs
  refine (hc.2 base w gh vs hr.hb hq (hr.hn _ _ _ hgh hs (by simp)) hsz hvs).mono ?_
  rintro e w' ⟨g', rfl, hgv, hgb, hro, hbl, hbel, hfr⟩
  let gd : Gh := ⟨.slice none 0 0, 0, [], []⟩
  have hr1 : Rel base w (gs ++ [gd]) env (os ++ [.sli e2 []]) tm := hr.new (Below.refl _ _) (.sli e2 []) gd (fun _ b hb => by simp [gd] at hb) ⟨World.ownsRow_nil w base e2 1, fun x hx => by simp at hx, .inl ⟨rfl, rfl⟩⟩
  have hg1 : (gs ++ [gd])[h]? = some gh := by rw [List.getElem?_append_left hgl]; exact hgh
  have hs1 : (os ++ [AO.sli e2 []])[h]? = some (.ob q) := by rw [List.getElem?_append_left hlt]; exact hs
  have hgd : (gs ++ [gd])[os.length]? = some gd := by rw [← hr.hl]; simp
  have hod : (os ++ [AO.sli e2 []])[os.length]? = some (.sli e2 []) := by simp
  have sv : SameV h (gs ++ [gd]) ((gs ++ [gd]).set h g') := by
    refine ⟨fun j z hj hz => ?_, fun z hz => ⟨g', by rw [List.getElem?_set_self (by rw [List.length_append]; omega)], ?_⟩⟩
    · rw [List.getElem?_set, if_neg (fun e => hj e.symm)]; exact hz
    · rw [hg1] at hz; cases hz; exact ⟨hgv, hgb⟩
  refine ⟨v, .val v, _, _, (gs ++ [gd]).set h g', rfl, ⟨rfl, rfl, rfl⟩, hr1.absorb hg1 hs1 trivial hgd hod trivial (by omega) g' _ (AV.noRow h) rfl hfr hbel.size ?_ (fun kp hv => hv.noRow kp sv) (fun _ => hro), .val _, hbel⟩
  intro b hb
  have := hbl b hb
  refine ⟨?_, this.2⟩
  rcases this.1 with h1 | h1
  · exact .inl h1
  · exact .inr (.inr h1)
theorem ImmO.rv {q : Ob} {h : Nat} (hs : os[h]? = some (.ob q)) {base : Nat} {w : World} {gs : List Gh} {tm : Array Value} (hr : Rel base w gs env os tm) {gh : Gh} (hgh : gs[h]? = some gh) {a a' : AV} (hi : ImmO os h a a') {v : Value} (hv : RV w (okOf gs os) gs v a) : RV w (okOf [gh] [.ob q]) [gh] v a' := by
  have hh : Handed os [h] [.ob q] := handed1 hs True.intro
  have esel : selG gs [h] = [gh] := by simp [selG, hgh]
  rcases hi with ⟨i, rfl, rfl⟩ | hi
  · cases hv with
    | optr hg => rw [hgh] at hg; cases hg; exact .optr rfl
  · have := hi.rv hr hh hv
    rw [esel] at this
    exact this
theorem c_callo {f : FuncId} {args : List AV} {q q' : Ob} {v : Value} (e2 : TypeId) (hc : AFnO P f args q q' v) {xs : List Operand} {ats : Array TypeId} {h : Nat} (hs : os[h]? = some (.ob q)) (hi : ImmOs os h (xs.map (AV.ev env)) args) :
    COp P ⟨d, .call { callee := .value (.func f), args := xs.toArray, argTypes := ats }, ty, pos, af, g⟩ env os (fun r e o => r = .val v ∧ e = env.mp (AV.noRow h) ∧ o = (((os ++ [AO.sli e2 []]).map (AO.via (AV.noRow h) h)).set h (.ob q')).set os.length .dead) := by
  intro base w gs tm hr
  have hg := hi.get
  have hgl : h < gs.length := by rw [hr.hl]; exact (List.getElem?_eq_some_iff.1 hs).1
  obtain ⟨gh, hgh⟩ : ∃ x, gs[h]? = some x := ⟨_, List.getElem?_eq_getElem hgl⟩
  refine ⟨f, _, run_call hc.1 xs ats _ rfl w, hc.leaves e2 hs hr hgh (by simpa using hg.1) fun i => ?_⟩
  have h1 := hg.2 i
  have e1 : (xs.map (AV.ev env)).getD i .any = match xs[i]? with | some x => AV.ev env x | none => .any := by
    simp only [List.getD_eq_getElem?_getD, List.getElem?_map]; cases xs[i]? <;> rfl
  have e2 : (xs.map (Act.eval ⟨tm, []⟩)).toArray.getD i undef = match xs[i]? with | some x => Act.eval ⟨tm, []⟩ x | none => undef := by
    simp only [Array.getD_eq_getD_getElem?, List.getElem?_toArray, List.getElem?_map]; cases xs[i]? <;> rfl
  rw [e1] at h1
  rw [e2]
  cases hx : xs[i]? with
  | some x => rw [hx] at h1; exact h1.rv hs hr hgh (hr.ev x)
  | none => rw [hx] at h1; exact h1.rv hs hr hgh (.any _)

theorem cnt_ptr {T e e2 : TypeId} {L : List (List Int)} (base : Nat) (w : World) (g : Gh) (h : (cntOb T e e2 L).p base w g) : g.v = .pointer (some ⟨g.b, 0, none⟩) := by
  obtain ⟨p, _, _, a3, _⟩ := h
  exact a3

/-! ### A closure that holds a pointer to the object and the place of a row -/
def cloRo (f0 : FuncId) (V : Value) (xs : List Int) : Ro where
  p w ok v := ∃ u, v = .func (.func f0) #[] #[V, eptr u 0] ∧ IntssAt w ok u [xs]
  up k h := by
    obtain ⟨u, h1, h2⟩ := h
    exact ⟨u, h1, h2.mono k⟩
theorem run_callk {f : FuncId} (hb : HasBody P f) (x : Operand) (xs : List Operand) (ats : Array TypeId) (ρ : Operand → Value) (caps : Array Value) (hρ : ρ x = .func (.func f) #[] caps) (w : World) :
    (execOp ρ ⟨d, .call { callee := .value x, args := xs.toArray, argTypes := ats }, ty, pos, af, g⟩).run P w = .ok (.enter f ((xs.map ρ).toArray ++ caps)) w := by
  have := hb.run ((xs.map ρ).toArray ++ caps) w
  simp only [execOp, resolve, hρ, Deferred.ofValue, Sem.run_bind, Sem.run_pure, Result.andThen_ok, invoke, List.map_toArray]
  simpa using this
theorem c_callk {f : FuncId} {args : List AV} {q q' : Ob} {v : Value} (e2 : TypeId) {B : Nat} {V : Value} {rx : List Int} (hV : V = .pointer (some ⟨B, 0, none⟩)) (hp : Pinned q B V) (hc : AFnO P f (args ++ [.optr 0 0, .iiptr [rx] 0]) q q' v) {x : Operand} {xs : List Operand} {ats : Array TypeId} {h : Nat} (hx : AV.ev env x = .ro (cloRo f V rx)) (hs : os[h]? = some (.ob q)) (hi : ImmOs os h (xs.map (AV.ev env)) args) :
    COp P ⟨d, .call { callee := .value x, args := xs.toArray, argTypes := ats }, ty, pos, af, g⟩ env os (fun r e o => r = .val v ∧ e = env.mp (AV.noRow h) ∧ o = (((os ++ [AO.sli e2 []]).map (AO.via (AV.noRow h) h)).set h (.ob q')).set os.length .dead) := by
  intro base w gs tm hr
  have hg := hi.get
  have hgl : h < gs.length := by rw [hr.hl]; exact (List.getElem?_eq_some_iff.1 hs).1
  obtain ⟨gh, hgh⟩ : ∃ x, gs[h]? = some x := ⟨_, List.getElem?_eq_getElem hgl⟩
  have hq := hp base w gh (hr.ho _ _ _ hgh hs)
  have hxv := hr.ev x
  rw [hx] at hxv
  generalize hu : Act.eval ⟨tm, []⟩ x = u at hxv
  cases hxv with
  | ro hcl =>
  obtain ⟨u1, rfl, hu1⟩ := hcl
  have kp : Keeps (okOf gs os) (okOf [gh] [.ob q]) w w := by
    intro b hb _
    refine ⟨fun i y z hy hz hl hm => ?_, rfl⟩
    match i, hy, hz with
    | 0, hy, hz => simp at hy hz; subst hy; exact hb h _ _ hgh hs trivial hm
    | i + 1, hy, hz => simp at hy
  refine ⟨f, _, run_callk hc.1 x xs ats _ _ hu w, hc.leaves e2 hs hr hgh (by have := hg.1; simp at this ⊢; exact this) fun i => ?_⟩
  have hlen : xs.length = args.length := by simpa using hg.1
  rcases Nat.lt_or_ge i xs.length with hil | hil
  · have h1 := hg.2 i
    have e1 : (xs.map (AV.ev env)).getD i .any = AV.ev env xs[i] := by
      simp [List.getD_eq_getElem?_getD, hil]
    have e2 : ((xs.map (Act.eval ⟨tm, []⟩)).toArray ++ #[V, eptr u1 0]).getD i undef = Act.eval ⟨tm, []⟩ xs[i] := by
      rw [Array.getD_eq_getD_getElem?, Array.getElem?_append_left (by simpa using hil)]
      simp [hil]
    have e3 : (args ++ [AV.optr 0 0, .iiptr [rx] 0]).getD i .any = args.getD i .any := by
      simp only [List.getD_eq_getElem?_getD]
      rw [List.getElem?_append_left (by omega)]
    rw [e1] at h1
    rw [e2, e3]
    exact h1.rv hs hr hgh (hr.ev _)
  · have e2 : ((xs.map (Act.eval ⟨tm, []⟩)).toArray ++ #[V, eptr u1 0]).getD i undef = (#[V, eptr u1 0] : Array Value).getD (i - xs.length) undef := by
      simp only [Array.getD_eq_getD_getElem?, Array.getElem?_append]
      rw [if_neg (by simp; omega)]
      simp
    have e3 : (args ++ [AV.optr 0 0, .iiptr [rx] 0]).getD i .any = [AV.optr 0 0, .iiptr [rx] 0].getD (i - xs.length) .any := by
      simp only [List.getD_eq_getElem?_getD]
      rw [List.getElem?_append_right (by omega), hlen]
    rw [e2, e3]
    match i - xs.length with
    | 0 =>
      have : RV w (okOf [gh] [.ob q]) [gh] (.pointer (some ⟨gh.b, 0, none⟩)) (.optr 0 0) := .optr rfl
      rw [hq.1, ← hV] at this
      exact this
    | 1 => exact .iiptr (hu1.mono kp) (by omega) (by simp)
    | i + 2 => exact .any _
/-- The closure is made. -/
theorem q_makef {f : FuncId} {x y : Operand} {h : Nat} {q : Ob} {B : Nat} {V : Value} {rx : List Int} (hV : V = .pointer (some ⟨B, 0, none⟩)) (hp : Pinned q B V) (hx : AV.ev env x = .optr h 0) (hs : os[h]? = some (.ob q)) (hy : AV.ev env y = .iiptr [rx] 0) {wl : Bool} :
    QOp P wl ⟨d, .makeFunc (.func f) #[] #[x, y], ty, pos, af, g⟩ env os (.ro (cloRo f V rx)) :=
  .of_run fun base w gs tm hr => by
    have h1 := hr.ev x
    have h2 := hr.ev y
    rw [hx] at h1
    rw [hy] at h2
    generalize hv1 : Act.eval ⟨tm, []⟩ x = v1 at h1
    generalize hv2 : Act.eval ⟨tm, []⟩ y = v2 at h2
    cases h1 with
    | optr hg =>
    cases h2 with
    | iiptr h3 h4 h5 =>
    obtain ⟨hb, _⟩ := hp _ _ _ (hr.ho _ _ _ hg hs)
    refine ⟨.func (.func f) #[] #[V, eptr _ 0], .ro ⟨_, rfl, h3⟩, fun w' _ => ?_⟩
    simp [execOp, Instr.makeFunc, hv1, hv2, hV, hb]
end
section
variable {P : Program} {env : Env} {os : List AO} {l rest : List Oper} {K : APost}
/-- A box with a row that is only read, from now on. -/
theorem AOps.freeze (k b : Nat) {T : TypeId} {rx : List Int} (hk : env.fd k = some (.optr b 0)) (hs : os[b]? = some (.bx T [.ints rx])) (h : AOps P .seq l rest K (env.up k (.iiptr [rx] 0)) (os.set b .dead)) : AOps P .seq l rest K env os := by
  intro base w0 w gs tm hr hb X Rt
  refine h base w0 w gs tm ?_ hb X Rt
  have hgl : b < gs.length := by rw [hr.hl]; exact (List.getElem?_eq_some_iff.1 hs).1
  obtain ⟨gb, hg⟩ : ∃ x, gs[b]? = some x := ⟨_, List.getElem?_eq_getElem hgl⟩
  obtain ⟨cs, c1, c2, c3, c4, c5, c6, c7⟩ := hr.ho _ _ _ hg hs
  match cs, c5 with
  | [c0], _ =>
  have h0 := c7 0
  simp only [List.getD_cons_zero] at h0
  have hint : IntsAt w (okOf gs os) c0 rx := by
    cases h0 with
    | ints hh => exact hh
  have oget : ∀ {i : Nat} {y : AO}, (os.set b .dead)[i]? = some y → y ≠ .dead → i ≠ b ∧ os[i]? = some y := by
    intro i y hy hny
    rw [List.getElem?_set] at hy
    split at hy
    · split at hy
      · cases hy; exact absurd rfl hny
      · cases hy
    · rename_i hne; exact ⟨fun e => hne e.symm, hy⟩
  have kp : Keeps (okOf gs os) (okOf gs (os.set b .dead)) w w := by
    intro c hc _
    refine ⟨fun i x y hx hy hl hm => ?_, rfl⟩
    exact hc i x y hx (oget hy hl.ne).2 hl hm
  have hok : okOf gs (os.set b .dead) gb.b := by
    intro i x y hx hy hl hm
    obtain ⟨h1, h2⟩ := oget hy hl.ne
    exact hr.hd i b x gb y _ h1 hx hg h2 hs hl.ne (by simp) gb.b hm (by rw [c3]; simp)
  have hptr : RV w (okOf gs (os.set b .dead)) gs (.pointer (some ⟨gb.b, 0, none⟩)) (.iiptr [rx] 0) := by
    have hrow : IntssAt w (okOf gs (os.set b .dead)) (.slice (some ⟨gb.b, 0, none⟩) 1 1) [rx] := by
      refine ⟨[c0], ⟨some ⟨gb.b, 0, none⟩, 1, rfl, by simp, by decide, fun _ => ⟨gb.b, 0, rfl, hok, fun i u hu => ?_⟩⟩, rfl, fun i u hu => ?_⟩
      · match i with
        | 0 =>
          simp at hu
          subst hu
          simp [World.cell?, c1]
        | i + 1 => simp at hu
      · match i with
        | 0 => simp at hu; subst hu; exact hint.mono kp
        | i + 1 => simp at hu
    have := RV.iiptr (w := w) (ok := okOf gs (os.set b .dead)) (gs := gs) (i := 0) hrow (by omega) (by simp)
    simpa [eptr, Addr.add] using this
  have hbk : RV w (okOf gs os) gs (tm.getD k undef) (.optr b 0) := by
    have := hr.he k
    rw [Env.lk_of hk] at this
    exact this
  have hval : tm.getD k undef = .pointer (some ⟨gb.b, 0, none⟩) := by
    generalize tm.getD k undef = u at hbk
    cases hbk with
    | optr hg2 => rw [hg] at hg2; cases hg2; rfl
  refine ⟨hr.hb, by rw [List.length_set]; exact hr.hl, hr.hs, fun i => ?_, ?_, ?_, ?_⟩
  · rw [Env.lk_up]
    split
    · rename_i h1; rw [h1.1, hval]; exact hptr
    · exact (hr.he i).mono kp fun _ _ e => e
  · intro i x y hx hy
    by_cases hd : y = .dead
    · subst hd; trivial
    obtain ⟨h1, h2⟩ := oget hy hd
    exact (hr.ho i x y hx h2).mono kp (fun _ _ e => e) fun _ _ _ => rfl
  · intro i j x y o1 o2 hij hx hy ho1 ho2 hn1 hn2
    exact hr.hd i j x y o1 o2 hij hx hy (oget ho1 hn1).2 (oget ho2 hn2).2 hn1 hn2
  · intro i x y hx hy hny
    exact hr.hn i x y hx (oget hy hny).2 hny
/-- The object's place has a name, from now on. -/
theorem AOps.pin (h : Nat) {q : Ob} (hs : os[h]? = some (.ob q)) (hqv : ∀ base w g, q.p base w g → g.v = .pointer (some ⟨g.b, 0, none⟩)) (h' : ∀ B V, V = .pointer (some ⟨B, 0, none⟩) → AOps P .seq l rest K env (os.set h (.ob (pinOb q B V)))) : AOps P .seq l rest K env os := by
  intro base w0 w gs tm hr hb X Rt
  have hgl : h < gs.length := by rw [hr.hl]; exact (List.getElem?_eq_some_iff.1 hs).1
  obtain ⟨gh, hg⟩ : ∃ x, gs[h]? = some x := ⟨_, List.getElem?_eq_getElem hgl⟩
  refine h' gh.b gh.v (hqv _ _ _ (hr.ho _ _ _ hg hs)) base w0 w gs tm ?_ hb X Rt
  exact hr.upd hg hs trivial _ trivial (fun _ _ _ => rfl) (Nat.le_refl _) fun _ => ⟨hr.ho _ _ _ hg hs, rfl, rfl⟩
theorem AOps.unpin (h : Nat) {q : Ob} {B : Nat} {V : Value} (hs : os[h]? = some (.ob (pinOb q B V))) (h' : AOps P .seq l rest K env (os.set h (.ob q))) : AOps P .seq l rest K env os := by
  intro base w0 w gs tm hr hb X Rt
  have hgl : h < gs.length := by rw [hr.hl]; exact (List.getElem?_eq_some_iff.1 hs).1
  obtain ⟨gh, hg⟩ : ∃ x, gs[h]? = some x := ⟨_, List.getElem?_eq_getElem hgl⟩
  exact h' base w0 w gs tm (hr.upd hg hs trivial _ trivial (fun _ _ _ => rfl) (Nat.le_refl _) fun _ => (hr.ho _ _ _ hg hs).1) hb X Rt
end
section
variable {P : Program} {env : Env} {os : List AO} {d : Tmp} {ty : TypeId} {pos : String} {af : Array Edge} {l rest : List Oper} {K : APost}
theorem w_callo {f : FuncId} {args : List AV} {q q' : Ob} {v : Value} {xs : List Operand} {ats : Array TypeId} (h : Nat) (e2 : TypeId) {m : Nat} (hc : AFnO P f args q q' v) (hs : os[h]? = some (.ob q)) (hm : os.length = m) (hi : ImmOs os h (xs.map (AV.ev env)) args)
    (h' : AOps P .seq l rest K ((env.mp (AV.noRow h)).up d (.val v)) ((((os ++ [AO.sli e2 []]).map (AO.via (AV.noRow h) h)).set h (.ob q')).set m .dead)) :
    AOps P .seq l (⟨some d, .call { callee := .value (.func f), args := xs.toArray, argTypes := ats }, ty, pos, af, none⟩ :: rest) K env os := by
  subst hm
  exact AOps.ca (c_callo e2 hc hs hi) fun r e o ⟨h1, h2, h3⟩ => by subst h1; subst h2; subst h3; exact h'
theorem w_callk {f : FuncId} {args : List AV} {q q' : Ob} {v : Value} {xs : List Operand} {ats : Array TypeId} (h : Nat) (e2 : TypeId) {m : Nat} {B : Nat} {V : Value} {rx : List Int} {x : Operand} (hV : V = .pointer (some ⟨B, 0, none⟩)) (hp : Pinned q B V) (hc : AFnO P f (args ++ [.optr 0 0, .iiptr [rx] 0]) q q' v) (hx : evo env x = some (.ro (cloRo f V rx))) (hs : os[h]? = some (.ob q)) (hm : os.length = m) (hi : ImmOs os h (xs.map (AV.ev env)) args)
    (h' : AOps P .seq l rest K ((env.mp (AV.noRow h)).up d (.val v)) ((((os ++ [AO.sli e2 []]).map (AO.via (AV.noRow h) h)).set h (.ob q')).set m .dead)) :
    AOps P .seq l (⟨some d, .call { callee := .value x, args := xs.toArray, argTypes := ats }, ty, pos, af, none⟩ :: rest) K env os := by
  subst hm
  exact AOps.ca (c_callk e2 hV hp hc (ev_of hx) hs hi) fun r e o ⟨h1, h2, h3⟩ => by subst h1; subst h2; subst h3; exact h'
theorem w_makef {f : FuncId} {x y : Operand} {h : Nat} {qo : Ob} {B : Nat} {V : Value} {rx : List Int} {q : Md} {g : Option (Nat × Bool)} (hV : V = .pointer (some ⟨B, 0, none⟩)) (hp : Pinned qo B V) (hw : wantedA l env ⟨some d, .makeFunc (.func f) #[] #[x, y], ty, pos, af, g⟩ = some true) (hx : evo env x = some (.optr h 0)) (hs : os[h]? = some (.ob qo)) (hy : evo env y = some (.iiptr [rx] 0))
    (h' : AOps P q l rest K (env.up d (.ro (cloRo f V rx))) os) : AOps P q l (⟨some d, .makeFunc (.func f) #[] #[x, y], ty, pos, af, g⟩ :: rest) K env os :=
  AOps.qo hw (q_makef hV hp (ev_of hx) hs (ev_of hy)) h'
theorem imo_nil {os : List AO} {h : Nat} : ImmOs os h [] [] := True.intro
theorem imo_ptr {os : List AO} {h i : Nat} {a : AV} {as0 bs : List AV} (ha : a = .optr h i) (h2 : ImmOs os h as0 bs) : ImmOs os h (a :: as0) (.optr 0 i :: bs) := ⟨.inl ⟨i, ha, rfl⟩, h2⟩
theorem imo_cons {os : List AO} {h : Nat} {a a1 b : AV} {as0 bs : List AV} (ha : a = a1) (h1 : ImmU os [h] a1 b) (h2 : ImmOs os h as0 bs) : ImmOs os h (a :: as0) (b :: bs) := ⟨.inr (ha ▸ h1), h2⟩
end
end Go.Proofs.Ytpllbdjobmgikaa
