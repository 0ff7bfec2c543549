/-
  Parts of the proof, one behind the other: contracts of functions and plain laws. No condition.
-/
import Derived.Test.YtfaeiphgenddkaaPt3SupportOfEdg
/-
  Functions that use up own memory that is handed to them, and hand back own memory. No condition.
-/
namespace Go.Proofs.Ytfaeiphgenddkaa
open Go Go.RowKit

/-- Values that hold no more than two levels of parts, and read nothing. -/
def AV.fl0 : AV → Prop
  | .any => True
  | .val _ => True
  | .own _ => True
  | .optr _ _ => True
  | .osub _ _ _ => True
  | .orow _ _ => True
  | .orptr _ _ _ => True
  | _ => False
def AV.fl1 : AV → Prop
  | .agg l => ∀ a ∈ l, a.fl0
  | a => a.fl0
def AV.fl : AV → Prop
  | .agg l => ∀ a ∈ l, a.fl0
  | .tup l => ∀ a ∈ l, a.fl1
  | a => a.fl0
section
variable {w : World} {ok ok' : Nat → Prop} {gs : List Gh} {g0 : Gh}
theorem RV.unsh0 {v : Value} {a : AV} (hf : a.fl0) (hv : RV w ok (g0 :: gs) v (a.sh0 1)) : RV w ok' gs v a := by
  cases a with
  | any => exact .any v
  | val u => cases hv with | val => exact .val _
  | own k => cases hv with | own h => exact .own (by simpa using h)
  | optr k i => cases hv with | optr h => exact .optr (by simpa using h)
  | osub k i j => cases hv with | osub h h1 h2 h3 => exact .osub (by simpa using h) h1 h2 h3
  | orow k i => cases hv with | orow h h1 => exact .orow (by simpa using h) h1
  | orptr k i j => cases hv with | orptr h h1 => exact .orptr (by simpa using h) h1
  | _ => exact hf.elim
theorem getD_mem_any {l : List AV} {p : AV → Prop} (h : ∀ a ∈ l, p a) (hany : p .any) (i : Nat) : p (l.getD i .any) := by
  rw [List.getD_eq_getElem?_getD]
  cases e : l[i]? with
  | none => exact hany
  | some a => exact h a (List.mem_of_getElem? e)
theorem RV.unsh1 {v : Value} {a : AV} (hf : a.fl1) (hv : RV w ok (g0 :: gs) v (a.sh1 1)) : RV w ok' gs v a := by
  cases a with
  | agg l => cases hv with | agg h1 h3 h2 => exact .agg (by simpa using h1) h3 (fun i => RV.unsh0 (getD_mem_any hf trivial i) (by have := h2 i; rw [getD_map_any _ rfl] at this; exact this))
  | any => exact .any v
  | val u => exact RV.unsh0 (a := .val u) trivial hv
  | own k => exact RV.unsh0 (a := .own k) trivial hv
  | optr k i => exact RV.unsh0 (a := .optr k i) trivial hv
  | osub k i j => exact RV.unsh0 (a := .osub k i j) trivial hv
  | orow k i => exact RV.unsh0 (a := .orow k i) trivial hv
  | orptr k i j => exact RV.unsh0 (a := .orptr k i j) trivial hv
  | _ => exact hf.elim
theorem RV.unsh {v : Value} {a : AV} (hf : a.fl) (hv : RV w ok (g0 :: gs) v (a.sh 1)) : RV w ok' gs v a := by
  cases a with
  | agg l => exact RV.unsh1 (a := .agg l) hf hv
  | tup l => cases hv with | tup h1 h2 => exact .tup (by simpa using h1) (fun i => RV.unsh1 (getD_mem_any hf trivial i) (by have := h2 i; rw [getD_map_any _ rfl] at this; exact this))
  | any => exact .any v
  | val u => exact RV.unsh0 (a := .val u) trivial hv
  | own k => exact RV.unsh0 (a := .own k) trivial hv
  | optr k i => exact RV.unsh0 (a := .optr k i) trivial hv
  | osub k i j => exact RV.unsh0 (a := .osub k i j) trivial hv
  | orow k i => exact RV.unsh0 (a := .orow k i) trivial hv
  | orptr k i j => exact RV.unsh0 (a := .orptr k i j) trivial hv
  | _ => exact hf.elim
end

/-- The function uses up the objects 'objs', which its arguments name, and hands back r over the objects os', of which Q speaks. All else is as it was. -/
def AFnC (P : Program) (f : FuncId) (args : List AV) (objs : List AO) (Q : AV → List AO → Prop) : Prop :=
  HasBody P f ∧ ∀ base w gs vs, base ≤ w.heap.size → Objs base w gs objs → vs.size = args.length → (∀ i : Nat, RV w (okOf gs objs) gs (vs.getD i undef) (args.getD i .any)) →
    Calls P f vs w fun e w' => ∃ v r os' gs', e = .returned v ∧ Q r os' ∧ Objs base w' gs' os' ∧ RV w' (fun _ => False) gs' v r ∧
      (∀ (h : Nat) g, gs'[h]? = some g → ∀ b, b ∈ g.bl → (∃ (k : Nat) (g0 : Gh), gs[k]? = some g0 ∧ b ∈ g0.bl) ∨ w.heap.size ≤ b) ∧ Below base w w' ∧ ∀ b, b < w.heap.size → (∀ (h : Nat) g, gs[h]? = some g → b ∉ g.bl) → w'.heap[b]? = w.heap[b]?

theorem AFnC.of {P : Program} {f : FuncId} {fn : Func} {c : Code} {args args' : List AV} {objs : List AO} {Q : AV → List AO → Prop} {n : Nat} (hf : P.funcs[f]? = some fn) (hb : fn.body = some c) (hnm : (fn.name == "runtime.NumGoroutine") = false) (hn : fn.ntmps - args.length = n) (ha : args' = args.map (AV.sh 1))
    (h : ∀ K, AWp P c (fun _ _ => False) (fun _ _ _ => False) (fun env os => ∃ env2 os' r, Turns env os env2 (.keep 1 K :: os') ∧ ResIs P fn env2 (.keep 1 K :: os') (r.sh 1) ∧ r.fl ∧ Q r os' ∧ ∀ o ∈ os', o.plain) (Env.start args' n) (.keep 1 K :: objs)) :
    AFnC P f args objs Q := by
  refine ⟨⟨fn, c, hf, hnm, hb⟩, fun base w gs vs hbase hO hsz hvs => calls_of_wp hf hb ?_⟩
  rw [show fn.ntmps - vs.size = n by rw [hsz]; exact hn]
  let bl : List Nat := (List.range w.heap.size).filter fun b => decide (base ≤ b) && gs.all fun g => !g.bl.contains b
  let gk : Gh := ⟨undef, 0, bl, []⟩
  let K : Kp := ⟨fun b => w.heap[b]?, [gk]⟩
  have hbl : ∀ b, b ∈ bl ↔ b < w.heap.size ∧ base ≤ b ∧ ∀ (h : Nat) g, gs[h]? = some g → b ∉ g.bl := by
    intro b
    simp only [bl, List.mem_filter, List.mem_range, Bool.and_eq_true, decide_eq_true_eq, List.all_eq_true, Bool.not_eq_true', List.contains_eq_mem, decide_eq_false_iff_not]
    constructor
    · rintro ⟨h1, h2, h3⟩
      exact ⟨h1, h2, fun h g hg => h3 g (List.mem_of_getElem? hg)⟩
    · rintro ⟨h1, h2, h3⟩
      exact ⟨h1, h2, fun g hg => by obtain ⟨i, hi⟩ := List.getElem?_of_mem hg; exact h3 i g hi⟩
  have hl := hO.hl
  have part : ∀ {i : Nat} {x : Gh} {y : AO}, (gk :: gs)[i]? = some x → (AO.keep 1 K :: objs)[i]? = some y → (∃ j, i = j + 1 ∧ gs[j]? = some x ∧ objs[j]? = some y) ∨ (i = 0 ∧ x = gk ∧ y = .keep 1 K) := by
    intro i x y hx hy
    match i, hx, hy with
    | 0, hx, hy => simp at hx hy; exact .inr ⟨rfl, hx.symm, hy.symm⟩
    | j + 1, hx, hy => exact .inl ⟨j, rfl, by simpa using hx, by simpa using hy⟩
  have hkeep : Keeps (okOf gs objs) (okOf (gk :: gs) (.keep 1 K :: objs)) w w := by
    intro b hbk _
    refine ⟨fun i x y hx hy hny hm => ?_, rfl⟩
    rcases part hx hy with ⟨j, rfl, h1, h2⟩ | ⟨_, _, rfl⟩
    · exact hbk j x y h1 h2 hny hm
    · exact hny.elim
  have hrel : Rel base w (gk :: gs) (Env.start args' n) (.keep 1 K :: objs) (vs ++ Array.replicate n undef) := by
    refine ⟨hbase, by simp [hl], by simp [Env.start, hsz, ha], fun i => start_rv args' n vs (fun i => ?_) i, ?_, ?_, ?_⟩
    · rw [ha, getD_map_any _ rfl]
      have := (hvs i).sh (gs0 := [gk]) hkeep
      exact this
    · intro i x y hx hy
      rcases part hx hy with ⟨j, rfl, h1, h2⟩ | ⟨_, rfl, rfl⟩
      · exact (hO.hp y (List.mem_of_getElem? h2)).ro (hO.ho j x y h1 h2)
      · exact ⟨fun b _ => rfl, rfl, fun i x h => by
            match i with
            | 0 => exact h
            | i + 1 => simp [K] at h⟩
    · intro i j g1 g2 o1 o2 hij hg1 hg2 ho1 ho2 _ _ b hb1 hb2
      rcases part hg1 ho1 with ⟨i', rfl, a1, a2⟩ | ⟨rfl, rfl, _⟩
      · rcases part hg2 ho2 with ⟨j', rfl, b1, b2⟩ | ⟨rfl, rfl, _⟩
        · exact hO.hd i' j' g1 g2 (by omega) a1 b1 b hb1 hb2
        · exact ((hbl b).1 hb2).2.2 i' g1 a1 hb1
      · rcases part hg2 ho2 with ⟨j', rfl, b1, b2⟩ | ⟨rfl, _, _⟩
        · exact ((hbl b).1 hb1).2.2 j' g2 b1 hb2
        · omega
    · intro i x y hx hy _ b hb
      rcases part hx hy with ⟨j, rfl, h1, h2⟩ | ⟨_, rfl, _⟩
      · exact hO.hn j x h1 b hb
      · exact ⟨((hbl b).1 hb).2.1, ((hbl b).1 hb).1⟩
  refine wp_mono (h K base w w _ _ hrel (Below.refl _ _)) ?_
  intro e a w' hq
  cases e with
  | normal => obtain ⟨_, _, _, _, _, _, hx⟩ := hq; exact hx.elim
  | exit j => obtain ⟨_, _, _, _, _, _, hx⟩ := hq; exact hx.elim
  | ret =>
    obtain ⟨env, os1, gs1, hr1, hd, hbel, env2, os', r, ht, hres, hfl, hQ, hpl⟩ := hq
    obtain ⟨gs2, hr⟩ := ht base w' gs1 _ hr1
    obtain ⟨v, hu, hv⟩ := hres _ _ _ _ hr
    obtain ⟨g0, gs', rfl⟩ : ∃ g0 gs', gs2 = g0 :: gs' := by
      have := hr.hl
      match gs2 with
      | [] => simp at this
      | a :: b => exact ⟨a, b, rfl⟩
    obtain ⟨r1, r2, r3⟩ := hr.ho 0 _ _ rfl rfl
    have egk : g0 = gk := by
      have := r3 0 gk rfl
      exact Option.some.inj this
    subst egk
    have hl' : gs'.length = os'.length := by have := hr.hl; simpa using this
    have hno : ∀ (i : Nat) x o, gs'[i]? = some x → os'[i]? = some o → ∀ b, b ∈ x.bl → base ≤ b ∧ b < w'.heap.size := fun i x o hx ho b hb =>
      hr.hn (i + 1) x o (by simpa using hx) (by simpa using ho) (hpl o (List.mem_of_getElem? ho)).live.ne b hb
    have obj : ∀ {i : Nat} {x : Gh}, gs'[i]? = some x → ∃ o, os'[i]? = some o := fun {i x} hx => by
      have : i < os'.length := by rw [← hl']; exact (List.getElem?_eq_some_iff.1 hx).1
      exact ⟨_, List.getElem?_eq_getElem this⟩
    refine ⟨hd, v, hu, v, r, os', gs', rfl, hQ, ⟨hl', hpl, ?_, ?_, ?_⟩, ?_, ?_, hbel, ?_⟩
    · intro i x o hx ho
      exact (hpl o (List.mem_of_getElem? ho)).ro (hr.ho (i + 1) x o (by simpa using hx) (by simpa using ho))
    · intro i j x y hij hx hy b hb1 hb2
      obtain ⟨o1, h1⟩ := obj hx
      obtain ⟨o2, h2⟩ := obj hy
      exact hr.hd (i + 1) (j + 1) x y o1 o2 (by omega) (by simpa using hx) (by simpa using hy) (by simpa using h1) (by simpa using h2) (hpl o1 (List.mem_of_getElem? h1)).live.ne (hpl o2 (List.mem_of_getElem? h2)).live.ne b hb1 hb2
    · intro i x hx b hb
      obtain ⟨o1, h1⟩ := obj hx
      exact hno i x o1 hx h1 b hb
    · exact RV.unsh (g0 := gk) hfl hv
    · intro i x hx b hb
      obtain ⟨o1, h1⟩ := obj hx
      have hb2 := hno i x o1 hx h1 b hb
      by_cases hbw : b < w.heap.size
      · left
        apply Classical.byContradiction
        intro hnb
        refine hr.hd (i + 1) 0 x gk o1 _ (by omega) (by simpa using hx) rfl (by simpa using h1) rfl (hpl o1 (List.mem_of_getElem? h1)).live.ne (by simp) b hb ((hbl b).2 ⟨hbw, hb2.1, fun k g0 hg hm => hnb ⟨k, g0, hg, hm⟩⟩)
      · right; omega
    · intro b hb hnot
      rcases Nat.lt_or_ge b base with h6 | h6
      · exact hbel.block b h6
      · exact r1 b ((hbl b).2 ⟨hb, h6, hnot⟩)
  | goto l => exact (hq : False).elim
  | panic ch => exact (hq : False).elim
  | outgrown => exact (hq : False).elim
theorem AFnC.start {P : Program} {f : FuncId} {fn : Func} {nt : Nat} {args : List AV} {objs : List AO} {Q : AV → List AO → Prop} (hf : P.funcs[f]? = some fn) (hnt : fn.ntmps = nt) {c : Code} (hb : fn.body = some c) (hnm : (fn.name == "runtime.NumGoroutine") = false)
    (h : ∀ K, AWp P c (fun _ _ => False) (fun _ _ _ => False) (fun env os => ∃ env2 os' r, Turns env os env2 (.keep 1 K :: os') ∧ ResIs P fn env2 (.keep 1 K :: os') (r.sh 1) ∧ r.fl ∧ Q r os' ∧ ∀ o ∈ os', o.plain) (Env.start (args.map (AV.sh 1)) (nt - args.length)) (.keep 1 K :: objs)) :
    AFnC P f args objs Q := AFnC.of hf hb hnm (by rw [hnt]) rfl h
theorem Turns.fit {env : Env} {os : List AO} {env' : Env} {os' : List AO} (f : Fit env os env' os') : Turns env os env' os' := fun _ _ _ _ h => h.fit f
theorem Turns.fits {env : Env} {os : List AO} {env' : Env} {os' : List AO} {σ : List Nat} (f : FitS σ env os env' os') : Turns env os env' os' := fun _ _ _ _ h => h.fits f
theorem Turns.or {env : Env} {os : List AO} {env' : Env} {os' : List AO} (f : Fit env os env' os' ∨ ∃ σ, FitS σ env os env' os') : Turns env os env' os' := by
  rcases f with f | ⟨σ, f⟩
  · exact .fit f
  · exact .fits f

section
variable {P : Program} {env : Env} {os : List AO} {d : Option Tmp} {ty : TypeId} {pos : String} {af : Array Edge} {g : Option (Nat × Bool)}
theorem deadAll_get {H : List Nat} (hn : H.Nodup) {os : List AO} {i : Nat} {y : AO} (h : (setAll os H (H.map fun _ => .dead))[i]? = some y) : (i ∈ H ∧ y = .dead) ∨ (i ∉ H ∧ os[i]? = some y) := by
  rcases setAll_get hn (by simp) h with ⟨k, h1, h2⟩ | h
  · refine .inl ⟨List.mem_of_getElem? h1, ?_⟩
    rw [List.getElem?_map, h1] at h2
    simpa using h2.symm
  · exact .inr h
theorem setAll_len : ∀ (H : List Nat) (os osP : List AO), (setAll os H osP).length = os.length
  | [], os, osP => by cases osP <;> rfl
  | h :: H, os, [] => rfl
  | h :: H, os, o :: osP => by rw [setAll, setAll_len H, List.length_set]
theorem c_callc {f : FuncId} {args : List AV} {objs : List AO} {Q : AV → List AO → Prop} (H : List Nat) (hc : AFnC P f args objs Q) {xs : List Operand} {ats : Array TypeId} (hh : Handed os H objs) (hi : ImmUs os H (xs.map (AV.ev env)) args) :
    COp P ⟨d, .call { callee := .value (.func f), args := xs.toArray, argTypes := ats }, ty, pos, af, g⟩ env os (fun r e o => ∃ r0 os', Q r0 os' ∧ r = r0.sh os.length ∧ e = env ∧ o = setAll os H (H.map fun _ => .dead) ++ os'.map (AO.sh os.length)) := by
  intro base w gs tm hr
  have hg := hi.get
  have hltH : ∀ h ∈ H, h < gs.length := fun h hm => by rw [hr.hl]; exact hh.lt h hm
  refine ⟨f, _, run_call hc.1 xs ats _ rfl w, (hc.2 base w (selG gs H) _ hr.hb (hr.objs hh) (by simpa using hg.1) fun i => ?_).mono ?_⟩
  · have h1 := hg.2 i
    have e1 : (xs.map (AV.ev env)).getD i .any = match xs[i]? with | some x => AV.ev env x | none => .any := by
      simp only [List.getD_eq_getElem?_getD, List.getElem?_map]; cases xs[i]? <;> rfl
    have e2 : (xs.map (Act.eval ⟨tm, []⟩)).toArray.getD i undef = match xs[i]? with | some x => Act.eval ⟨tm, []⟩ x | none => undef := by
      simp only [Array.getD_eq_getD_getElem?, List.getElem?_toArray, List.getElem?_map]; cases xs[i]? <;> rfl
    rw [e1] at h1
    rw [e2]
    cases hx : xs[i]? with
    | some x => rw [hx] at h1; exact h1.rv hr hh (hr.ev x)
    | none => rw [hx] at h1; exact h1.rv hr hh (.any _)
  · rintro e w' ⟨v, r, os', gs', rfl, hQ, hO', hv, hbl, hbel, hfr⟩
    have hl := hr.hl
    have hl' := hO'.hl
    have hlive : ∀ h, h ∈ H → ∃ o, os[h]? = some o ∧ o.plain := fun h hm => by
      obtain ⟨k, hk⟩ := List.getElem?_of_mem hm
      obtain ⟨o', h1, h2, h3⟩ := hh.get hk
      exact ⟨o', h2, h3⟩
    have selGet : ∀ {k : Nat} {x : Gh}, (selG gs H)[k]? = some x → ∃ h, h ∈ H ∧ gs[h]? = some x := fun hx => by
      obtain ⟨h, h1, h2⟩ := selG_get hltH hx
      exact ⟨h, List.mem_of_getElem? h1, h2⟩
    -- blocks of what is new
    have hnb : ∀ {i : Nat} {x : Gh}, gs'[i]? = some x → ∀ b, b ∈ x.bl → (∃ h gh, h ∈ H ∧ gs[h]? = some gh ∧ b ∈ gh.bl) ∨ w.heap.size ≤ b := fun hx b hb => by
      rcases hbl _ _ hx b hb with ⟨k, g0, h1, h2⟩ | h1
      · obtain ⟨h, h3, h4⟩ := selGet h1
        exact .inl ⟨h, g0, h3, h4, h2⟩
      · exact .inr h1
    have keepB : ∀ b, b < w.heap.size → (∀ h gh, h ∈ H → gs[h]? = some gh → b ∉ gh.bl) → w'.heap[b]? = w.heap[b]? := fun b hb hno => hfr b hb fun k x hx => by
      obtain ⟨h, h1, h2⟩ := selGet hx
      exact hno h x h1 h2
    let osN := setAll os H (H.map fun _ => .dead) ++ os'.map (AO.sh os.length)
    have hlen1 : (setAll os H (H.map fun _ => AO.dead)).length = gs.length := by rw [setAll_len, hl]
    have split : ∀ {i : Nat} {x : Gh} {y : AO}, (gs ++ gs')[i]? = some x → osN[i]? = some y → y ≠ .dead → (i ∉ H ∧ gs[i]? = some x ∧ os[i]? = some y) ∨ ∃ j o, i = os.length + j ∧ gs'[j]? = some x ∧ os'[j]? = some o ∧ y = o.sh os.length := by
      intro i x y hx hy hne
      by_cases hlt : i < gs.length
      · rw [List.getElem?_append_left hlt] at hx
        simp only [osN] at hy
        rw [List.getElem?_append_left (by rw [hlen1]; exact hlt)] at hy
        rcases deadAll_get hh.nd hy with ⟨_, rfl⟩ | ⟨h1, h2⟩
        · exact absurd rfl hne
        · exact .inl ⟨h1, hx, h2⟩
      · rw [List.getElem?_append_right (by omega)] at hx
        simp only [osN] at hy
        rw [List.getElem?_append_right (by rw [hlen1]; omega), hlen1, List.getElem?_map] at hy
        cases ho : os'[i - gs.length]? with
        | none => rw [ho] at hy; cases hy
        | some o =>
          rw [ho] at hy
          simp only [Option.map_some, Option.some.injEq] at hy
          exact .inr ⟨i - gs.length, o, by omega, hx, ho, hy.symm⟩
    have kp : Keeps (okOf gs os) (okOf (gs ++ gs') osN) w w' := by
      intro b hbk hlt
      refine ⟨fun i x y hx hy hny hm => ?_, keepB b hlt fun h gh hm hg hb => ?_⟩
      · rcases split hx hy hny.ne with ⟨_, h1, h2⟩ | ⟨j, o, _, h1, h2, rfl⟩
        · exact hbk i x y h1 h2 hny hm
        · rcases hnb h1 b hm with ⟨h, gh, hH, hgh, hbm⟩ | h3
          · obtain ⟨o', ho', hp⟩ := hlive h hH
            exact hbk h gh o' hgh ho' hp.live hbm
          · omega
      · obtain ⟨o', ho', hp⟩ := hlive h hm
        exact hbk h gh o' hg ho' hp.live hb
    have hgs : ∀ (i : Nat) g', gs[i]? = some g' → (gs ++ gs')[i]? = some g' := fun i g' e => by
      rw [List.getElem?_append_left (List.getElem?_eq_some_iff.1 e).1]; exact e
    have hplsh : ∀ o : AO, o.plain → (o.sh os.length) = o := fun o ho => by cases o <;> first | rfl | exact ho.elim
    have hsame : ∀ (i : Nat) x y, i ∉ H → gs[i]? = some x → os[i]? = some y → y ≠ .dead → ∀ b, b ∈ x.bl → w'.heap[b]? = w.heap[b]? := fun i x y hiH hx hy hne b hb => by
      refine keepB b (hr.hn i x y hx hy hne b hb).2 fun h gh hH hgh hbm => ?_
      obtain ⟨o', ho', hp⟩ := hlive h hH
      exact hr.hd i h x gh y o' (fun e => hiH (e ▸ hH)) hx hgh hy ho' hne hp.live.ne b hb hbm
    refine ⟨v, r.sh os.length, env, osN, gs ++ gs', rfl, ⟨r, os', hQ, rfl, rfl, rfl⟩, ?_, ?_, hbel⟩
    · refine ⟨Nat.le_trans hr.hb hbel.size, ?_, hr.hs, fun i => (hr.he i).mono kp hgs, ?_, ?_, ?_⟩
      · simp only [osN, List.length_append, List.length_map, hlen1, hl']
      · intro i x y hx hy
        by_cases hd : y = .dead
        · subst hd; trivial
        rcases split hx hy hd with ⟨h0, h1, h2⟩ | ⟨j, o, _, h1, h2, rfl⟩
        · exact (hr.ho i x y h1 h2).mono kp hgs fun hne b hb => hsame i x y h0 h1 h2 hne b hb
        · have hp := hO'.hp o (List.mem_of_getElem? h2)
          rw [hplsh o hp]
          exact hp.ro (hO'.ho j x o h1 h2)
      · intro i j x1 x2 y1 y2 hij hx1 hx2 hy1 hy2 hn1 hn2 b hb1 hb2
        rcases split hx1 hy1 hn1 with ⟨a0, a1, a2⟩ | ⟨j1, o1, e1, a1, a2, rfl⟩
        · rcases split hx2 hy2 hn2 with ⟨c0, c1, c2⟩ | ⟨j2, o2, e2, c1, c2, rfl⟩
          · exact hr.hd i j x1 x2 y1 y2 hij a1 c1 a2 c2 hn1 hn2 b hb1 hb2
          · rcases hnb c1 b hb2 with ⟨h, gh, hH, hgh, hbm⟩ | h3
            · obtain ⟨o', ho', hp⟩ := hlive h hH
              exact hr.hd i h x1 gh y1 o' (fun e => a0 (e ▸ hH)) a1 hgh a2 ho' hn1 hp.live.ne b hb1 hbm
            · have := (hr.hn i x1 y1 a1 a2 hn1 b hb1).2; omega
        · rcases split hx2 hy2 hn2 with ⟨c0, c1, c2⟩ | ⟨j2, o2, e2, c1, c2, rfl⟩
          · rcases hnb a1 b hb1 with ⟨h, gh, hH, hgh, hbm⟩ | h3
            · obtain ⟨o', ho', hp⟩ := hlive h hH
              exact hr.hd j h x2 gh y2 o' (fun e => c0 (e ▸ hH)) c1 hgh c2 ho' hn2 hp.live.ne b hb2 hbm
            · have := (hr.hn j x2 y2 c1 c2 hn2 b hb2).2; omega
          · exact hO'.hd j1 j2 x1 x2 (fun e => hij (by omega)) a1 c1 b hb1 hb2
      · intro i x y hx hy hne b hb
        rcases split hx hy hne with ⟨_, h1, h2⟩ | ⟨j, o, _, h1, h2, rfl⟩
        · have := hr.hn i x y h1 h2 hne b hb
          exact ⟨this.1, Nat.lt_of_lt_of_le this.2 hbel.size⟩
        · exact hO'.hn j x h1 b hb
    · have := hv.sh (ok' := okOf (gs ++ gs') osN) (gs0 := gs) (fun b hbk _ => hbk.elim)
      rw [hl] at this; exact this
end
section
variable {P : Program} {env : Env} {os : List AO} {d : Tmp} {ty : TypeId} {pos : String} {af : Array Edge} {l rest : List Oper} {K : APost}
theorem w_callc {f : FuncId} {args : List AV} {objs : List AO} {Q : AV → List AO → Prop} {xs : List Operand} {ats : Array TypeId} (H : List Nat) {m : Nat} (hc : AFnC P f args objs Q) (hm : os.length = m) (hh : Handed os H objs) (hi : ImmUs os H (xs.map (AV.ev env)) args)
    (h' : ∀ r os0, Q r os0 → AOps P .seq l rest K (env.up d (r.sh m)) (setAll os H (H.map fun _ => .dead) ++ os0.map (AO.sh m))) :
    AOps P .seq l (⟨some d, .call { callee := .value (.func f), args := xs.toArray, argTypes := ats }, ty, pos, af, none⟩ :: rest) K env os := by
  subst hm
  exact AOps.ca (c_callc H hc hh hi) fun r e o ⟨r0, os0, hq, h1, h2, h3⟩ => by subst h1; subst h2; subst h3; exact h' r0 os0 hq
end
end Go.Proofs.Ytfaeiphgenddkaa
/-
  Own slices whose cells are rows that are only read. No condition.
-/
namespace Go.Proofs.Ytfaeiphgenddkaa
open Go Go.RowKit

/-- Cells that are rows that are read. -/
def rdL (yss : List (List Int)) : List AV := yss.map AV.ints
theorem rdL_len (yss : List (List Int)) : (rdL yss).length = yss.length := List.length_map _
theorem rdL_app (yss zss : List (List Int)) : rdL (yss ++ zss) = rdL yss ++ rdL zss := List.map_append
theorem map_ints_kill (h : Nat) (yss : List (List Int)) : (rdL yss).map (AV.kill h) = rdL yss := by
  unfold rdL; rw [List.map_map]; rfl
theorem map_ints_rin (k p j : Nat) (yss : List (List Int)) : (rdL yss).map (AV.rin k p j) = rdL yss := by
  unfold rdL; rw [List.map_map]; rfl
theorem map_ints_lim (n : Nat) (yss : List (List Int)) : (rdL yss).map (AV.lim n) = rdL yss := by
  unfold rdL; rw [List.map_map]; rfl
theorem map_ints_ren (s : List Nat) (yss : List (List Int)) : (rdL yss).map (AV.ren s) = rdL yss := by
  unfold rdL; rw [List.map_map]; rfl
theorem getD_ints {yss : List (List Int)} {j : Nat} (h : j < yss.length) : (rdL yss)[j]? = some (.ints (yss.getD j [])) := by
  unfold rdL; rw [List.getElem?_map, List.getD_eq_getElem?_getD, List.getElem?_eq_getElem h]; rfl
theorem ints_one {w : World} {ok : Nat → Prop} {gs : List Gh} {v : Value} {a : AV} (h : RV w ok gs v a) {xs : List Int} (e : a = .ints xs) : v.oneCell' = true := by
  subst e
  cases h with
  | ints h => obtain ⟨⟨a, cap, hv, _⟩, _⟩ := h; rw [hv]; rfl

section
variable {P : Program} {env : Env} {os : List AO} {d : Option Tmp} {ty : TypeId} {pos : String} {af : Array Edge} {g : Option (Nat × Bool)} {wl : Bool}

/-- A literal slice of one row that is read. -/
theorem l_bsi1 {t e : TypeId} {bytes : Nat} [ht : TSlice P t e] [he : TElem P e (.slice none 0 0) bytes] {x : Operand} {ys : List Int} (hx : AV.ev env x = .ints ys) :
    LOp P ⟨d, .buildSlice t 1 #[(0, x)], ty, pos, af, g⟩ env os (.own os.length) env (os ++ [.slr e (rdL [ys])]) := by
  intro base w gs tm hr
  have hxv := hr.ev x
  rw [hx] at hxv
  generalize hv : Act.eval ⟨tm, []⟩ x = v at hxv
  have hone := ints_one hxv rfl
  obtain ⟨ua, un, uc, eu⟩ : ∃ ua un uc, v = .slice ua un uc := by
    cases hxv with
    | ints h => obtain ⟨⟨a, cap, hv, _⟩, _⟩ := h; exact ⟨_, _, _, hv⟩
  obtain ⟨ii, hi, hs, hz, hby⟩ := he.info
  have hbel := below_alloc w (.cells [v].toArray e)
  have hno : AO.slr e (rdL [ys]) ≠ .dead → ∀ b, b ∈ [w.heap.size] → w.heap.size ≤ b ∧ b < (w.alloc (.cells [v].toArray e)).heap.size := fun _ b hb => by simp at hb; simp; omega
  let gn : Gh := ⟨.slice (some ⟨w.heap.size, 0, none⟩) 1 1, w.heap.size, [w.heap.size], []⟩
  have hgs : ∀ (i : Nat) g', gs[i]? = some g' → (gs ++ [gn])[i]? = some g' := fun i g' e => by
    rw [List.getElem?_append_left (List.getElem?_eq_some_iff.1 e).1]; exact e
  have kp := keeps_new (g := gn) (o := AO.slr e (rdL [ys])) hr.hl hbel hno
  refine ⟨.slice (some ⟨w.heap.size, 0, none⟩) 1 1, _, gs ++ [gn], .inl ?_, hr.new hbel _ _ hno ?_, ?_, hbel.mono hr.hb⟩
  · simp [execOp, Instr.buildSlice, run_underlying ht.und, sizeOf, typeInfo, zeroValue, hi, hs, hz, Instr.fill, newRow, hv, eu, Value.cells, ar1]
  · refine ⟨[v], ⟨rfl, .inr ⟨w.heap.size, 1, _, rfl, hr.hb, heap_alloc_new w _, Nat.le_refl _, by simp [maxLen], by simp, by simp⟩⟩, rfl, fun i => ?_, .inr ⟨rfl, rfl⟩⟩
    match i with
    | 0 => exact hxv.mono kp hgs
    | i + 1 => exact .any _
  · have := RV.own (w := w.alloc (.cells [v].toArray e)) (ok := okOf (gs ++ [gn]) (os ++ [.slr e (rdL [ys])])) (len_new (gs := gs) (g := gn))
    rw [hr.hl] at this
    exact this
theorem l_bsi0 {t e : TypeId} {bytes : Nat} [ht : TSlice P t e] [he : TElem P e (.slice none 0 0) bytes] : LOp P ⟨d, .buildSlice t 0 #[], ty, pos, af, g⟩ env os (.own os.length) env (os ++ [.slr e (rdL [])]) := l_bsx0 0

theorem slr_slice {base : Nat} {w : World} {ok : Nat → Prop} {gs : List Gh} {gh : Gh} {e : TypeId} {avs : List AV} (h : RO base w ok gs gh (.slr e avs)) : ∃ a cap, gh.v = .slice a avs.length cap ∧ avs.length ≤ cap ∧ cap ≤ maxLen ∧
    (0 < avs.length → a = some ⟨gh.b, 0, none⟩) ∧ ∃ vs : List Value, vs.length = avs.length ∧ (∀ (i : Nat) u, vs[i]? = some u → w.cell? ⟨gh.b, i, none⟩ = some u) ∧ ∀ i : Nat, RV w ok gs (vs.getD i undef) (avs.getD i .any) := by
  obtain ⟨vs, a1, a2, a3, a4⟩ := h
  obtain ⟨a, cap, q1, q2, q3, q4⟩ := RowAt.of_owns a1
  rw [a2] at q1 q2 q4
  have hblk : ∀ b off, a = some ⟨b, off, none⟩ → 0 < avs.length → b = gh.b ∧ off = 0 := by
    intro b off ha hp
    obtain ⟨b', cap', r1, r2, _, _⟩ := own_slice a1 (i := 0) (by omega)
    rw [q1, ha] at r1
    simp only [Value.slice.injEq, Option.some.injEq, Addr.mk.injEq, and_true] at r1
    obtain ⟨⟨rfl, rfl⟩, _⟩ := r1
    rcases a4 with ⟨s1, _⟩ | ⟨s1, _⟩
    · rw [s1] at r2; cases r2
    · rw [s1] at r2; cases r2; exact ⟨rfl, rfl⟩
  refine ⟨a, cap, q1, q2, q3, fun hp => ?_, vs, a2, fun i u hu => ?_, a3⟩
  · obtain ⟨b, off, r1, _, _⟩ := q4 hp
    obtain ⟨rfl, rfl⟩ := hblk b off r1 hp
    exact r1
  · have hi := (List.getElem?_eq_some_iff.1 hu).1
    obtain ⟨b, off, r1, _, r3⟩ := q4 (by omega)
    obtain ⟨rfl, rfl⟩ := hblk b off r1 (by omega)
    have := r3 i u hu
    rwa [Nat.zero_add] at this

theorem q_slr_hi {t e : TypeId} [ht : TSlice P t e] [he : TCell P e] {x y : Operand} {h : Nat} {e' : TypeId} {avs : List AV} {n : Int} (hx : AV.ev env x = .own h) (hs : os[h]? = some (.slr e' avs)) (hy : AV.ev env y = .i n) (h0 : 0 ≤ n) (h1 : n ≤ avs.length) :
    QOp P wl ⟨d, .slice t x none (some y) none, ty, pos, af, g⟩ env os (.osub h 0 n.toNat) :=
  .of_run fun _ w gs tm hr => by
    have hh := hr.ev x
    rw [hx] at hh
    generalize hv : Act.eval ⟨tm, []⟩ x = v at hh
    cases hh with
    | @own _ gh hg =>
      obtain ⟨a, cap, ev, hc, hm, ha, _⟩ := slr_slice (hr.ho _ _ _ hg hs)
      have e1 := elem_of (P := P) ht.und
      refine ⟨sliced a 0 n.toNat cap 1, ?_, fun w' _ => ?_⟩
      · refine RV.osub hg (fun hp => ?_) (by omega) (by omega)
        rw [if_neg (by omega), ha (by omega)]
        simp [add_none]
      · have hrun := run_slice_h (P := P) w' t a avs.length cap (by rw [e1]; exact ht.und) .i64 n h0 (by omega)
        rw [e1, run_size] at hrun
        have hat := run_sliceAt_slice (P := P) w' t (.slice a avs.length cap) none (some (.int .i64 n)) none (by rw [e1]; exact ht.und)
        simp only [execOp, hv, ev, hr.evv hy, Option.map_none, Option.map_some, Sem.run_bind, hat, hrun, Result.andThen_ok, Sem.run_pure]
theorem q_slr_lo {t e : TypeId} [ht : TSlice P t e] [he : TCell P e] {x y : Operand} {h : Nat} {e' : TypeId} {avs : List AV} {n : Int} (hx : AV.ev env x = .own h) (hs : os[h]? = some (.slr e' avs)) (hy : AV.ev env y = .i n) (h0 : 0 ≤ n) (h1 : n ≤ avs.length) :
    QOp P wl ⟨d, .slice t x (some y) none none, ty, pos, af, g⟩ env os (.osub h n.toNat (avs.length - n.toNat)) :=
  .of_run fun _ w gs tm hr => by
    have hh := hr.ev x
    rw [hx] at hh
    generalize hv : Act.eval ⟨tm, []⟩ x = v at hh
    cases hh with
    | @own _ gh hg =>
      obtain ⟨a, cap, ev, hc, hm, ha, _⟩ := slr_slice (hr.ho _ _ _ hg hs)
      have e1 := elem_of (P := P) ht.und
      refine ⟨sliced a n.toNat avs.length cap 1, ?_, fun w' _ => ?_⟩
      · refine RV.osub hg (fun hp => ?_) (by omega) (by omega)
        rw [if_neg (by omega), ha (by omega)]
        simp [add_none]
      · have hrun := run_slice_l (P := P) w' t a avs.length cap (by rw [e1]; exact ht.und) .i64 n h0 h1
        rw [e1, run_size] at hrun
        have hat := run_sliceAt_slice (P := P) w' t (.slice a avs.length cap) (some (.int .i64 n)) none none (by rw [e1]; exact ht.und)
        simp only [execOp, hv, ev, hr.evv hy, Option.map_none, Option.map_some, Sem.run_bind, hat, hrun, Result.andThen_ok, Sem.run_pure]

theorem src_isub {y : Operand} {h off len : Nat} {e : TypeId} {yss : List (List Int)} (hy : AV.ev env y = .osub h off len) (hs : os[h]? = some (.slr e (rdL yss))) (hle : off + len ≤ yss.length) : Src env os y (rdL ((yss.drop off).take len)) := by
  intro base w gs tm hr
  have hyv := hr.ev y
  rw [hy] at hyv
  generalize hv : Act.eval ⟨tm, []⟩ y = v at hyv
  cases hyv with
  | @osub _ _ _ cap p gh hg hp hc hm =>
    obtain ⟨_, _, _, _, _, _, vs, q5, q6, q7⟩ := slr_slice (hr.ho _ _ _ hg hs)
    rw [rdL_len] at q5
    have hl : (rdL ((yss.drop off).take len)).length = len := by rw [rdL_len]; simp; omega
    have rvj : ∀ j, j < yss.length → RV w (okOf gs os) gs (vs.getD j undef) (.ints (yss.getD j [])) := fun j hj => by
      have := q7 j
      rwa [List.getD_eq_getElem?_getD (l := rdL yss), getD_ints hj] at this
    refine ⟨p, cap, (vs.drop off).take len, by rw [hl], by rw [hl]; simp; omega, fun h0 => ?_, fun u hu => ?_, fun i => ?_⟩
    · rw [hl] at h0
      refine ⟨_, hp h0, fun j u hj => ?_⟩
      rw [List.getElem?_take] at hj
      split at hj
      · rw [List.getElem?_drop] at hj
        rw [add_none]
        exact q6 _ _ hj
      · cases hj
    · obtain ⟨j, hj⟩ := List.getElem?_of_mem (List.mem_of_mem_drop (List.mem_of_mem_take hu))
      have hjl := (List.getElem?_eq_some_iff.1 hj).1
      have := rvj j (by omega)
      rw [List.getD_eq_getElem?_getD (l := vs), hj] at this
      exact ints_one this rfl
    · by_cases hi : i < len
      · have e1 : ((vs.drop off).take len).getD i undef = vs.getD (off + i) undef := by
          rw [List.getD_eq_getElem?_getD, List.getElem?_take, if_pos hi, List.getElem?_drop, List.getD_eq_getElem?_getD]
        have e2 : (rdL ((yss.drop off).take len)).getD i .any = .ints (yss.getD (off + i) []) := by
          unfold rdL; rw [List.getD_eq_getElem?_getD, List.getElem?_map, List.getElem?_take, if_pos hi, List.getElem?_drop, List.getD_eq_getElem?_getD, List.getElem?_eq_getElem (by omega)]; rfl
        rw [e1, e2]
        exact rvj _ (by omega)
      · have e2 : (rdL ((yss.drop off).take len)).getD i .any = .any := by
          rw [List.getD_eq_getElem?_getD, List.getElem?_eq_none (by omega)]; rfl
        rw [e2]; exact .any _
theorem src_islr {y : Operand} {q : Nat} {e : TypeId} {yss : List (List Int)} (hy : AV.ev env y = .own q) (hs : os[q]? = some (.slr e (rdL yss))) : Src env os y (rdL yss) := by
  intro base w gs tm hr
  have hyv := hr.ev y
  rw [hy] at hyv
  generalize hv : Act.eval ⟨tm, []⟩ y = v at hyv
  cases hyv with
  | @own _ gh hg =>
    obtain ⟨a, cap, q1, q2, q3, q4, vs, q5, q6, q7⟩ := slr_slice (hr.ho _ _ _ hg hs)
    refine ⟨a, cap, vs, q1, q5, fun h0 => ⟨_, q4 h0, fun j u hj => by rw [add_none, Nat.zero_add]; exact q6 j u hj⟩, fun u hu => ?_, q7⟩
    obtain ⟨j, hj⟩ := List.getElem?_of_mem hu
    have hjl := (List.getElem?_eq_some_iff.1 hj).1
    have := q7 j
    rw [rdL_len] at q5
    rw [List.getD_eq_getElem?_getD (l := rdL yss), getD_ints (by omega), List.getD_eq_getElem?_getD (l := vs), hj] at this
    exact ints_one this rfl
end

section
variable {P : Program} {env : Env} {os : List AO} {d : Tmp} {ty : TypeId} {pos : String} {af : Array Edge} {g : Option (Nat × Bool)} {l rest : List Oper} {K : APost} {q : Md}
theorem w_bsi0 {t e : TypeId} {bytes : Nat} [TSlice P t e] [TElem P e (.slice none 0 0) bytes] {m : Nat} (hm : os.length = m) (h' : AOps P .seq l rest K (env.up d (.own m)) (os ++ [.slr e (rdL [])])) :
    AOps P .seq l (⟨some d, .buildSlice t 0 #[], ty, pos, af, none⟩ :: rest) K env os := AOps.lo (hm ▸ l_bsi0) h'
theorem w_bsi1 {t e : TypeId} {bytes : Nat} [TSlice P t e] [TElem P e (.slice none 0 0) bytes] {x : Operand} {m : Nat} {ys : List Int} (hx : evo env x = some (.ints ys)) (hm : os.length = m)
    (h' : AOps P .seq l rest K (env.up d (.own m)) (os ++ [.slr e (rdL [ys])])) : AOps P .seq l (⟨some d, .buildSlice t 1 #[(0, x)], ty, pos, af, none⟩ :: rest) K env os := AOps.lo (hm ▸ l_bsi1 (ev_of hx)) h'
theorem w_ldri {t : TypeId} [TCell P t] {x : Operand} {h i : Nat} {e : TypeId} {yss : List (List Int)} (hw : wantedA l env ⟨some d, .load t x, ty, pos, af, g⟩ = some true) (hq : q.wl = false) (hx : evo env x = some (.optr h i)) (hs : os[h]? = some (.slr e (rdL yss))) (hi : i < yss.length)
    (h' : AOps P q l rest K (env.up d (.ints (yss.getD i []))) os) : AOps P q l (⟨some d, .load t x, ty, pos, af, g⟩ :: rest) K env os := AOps.qo hw (by rw [hq]; exact q_load_slr (ev_of hx) hs (getD_ints hi)) h'
theorem w_leni {t e0 : TypeId} [TSlice P t e0] {x : Operand} {h : Nat} {e : TypeId} {yss : List (List Int)} (hw : wantedA l env ⟨some d, .call { callee := .builtin .len, args := #[x], argTypes := #[t] }, ty, pos, af, g⟩ = some true) (hx : evo env x = some (.own h)) (hs : os[h]? = some (.slr e (rdL yss)))
    (h' : AOps P q l rest K (env.up d (.i yss.length)) os) : AOps P q l (⟨some d, .call { callee := .builtin .len, args := #[x], argTypes := #[t] }, ty, pos, af, g⟩ :: rest) K env os :=
  w_len hw hx (.slr hs) (by rw [rdL_len]; exact h')
theorem w_idxi {t e : TypeId} [TSlice P t e] [TCell P e] {x y : Operand} {h : Nat} {e' : TypeId} {yss : List (List Int)} {i : Int} (hw : wantedA l env ⟨some d, .indexAddr t x y, ty, pos, af, g⟩ = some true) (hx : evo env x = some (.own h)) (hs : os[h]? = some (.slr e' (rdL yss))) (hy : evo env y = some (.i i)) (h0 : 0 ≤ i) (h1 : i < yss.length)
    (h' : AOps P q l rest K (env.up d (.optr h i.toNat)) os) : AOps P q l (⟨some d, .indexAddr t x y, ty, pos, af, g⟩ :: rest) K env os := w_idxo hw hx (.slr hs) hy h0 (by rw [rdL_len]; exact h1) h'
theorem w_slrhi {t e : TypeId} [TSlice P t e] [TCell P e] {x y : Operand} {h : Nat} {e' : TypeId} {yss : List (List Int)} {n : Int} (hw : wantedA l env ⟨some d, .slice t x none (some y) none, ty, pos, af, g⟩ = some true) (hx : evo env x = some (.own h)) (hs : os[h]? = some (.slr e' (rdL yss))) (hy : evo env y = some (.i n)) (h0 : 0 ≤ n) (h1 : n ≤ yss.length)
    (h' : AOps P q l rest K (env.up d (.osub h 0 n.toNat)) os) : AOps P q l (⟨some d, .slice t x none (some y) none, ty, pos, af, g⟩ :: rest) K env os := AOps.qo hw (q_slr_hi (ev_of hx) hs (ev_of hy) h0 (by rw [rdL_len]; exact h1)) h'
theorem w_slrlo {t e : TypeId} [TSlice P t e] [TCell P e] {x y : Operand} {h : Nat} {e' : TypeId} {yss : List (List Int)} {n : Int} (hw : wantedA l env ⟨some d, .slice t x (some y) none none, ty, pos, af, g⟩ = some true) (hx : evo env x = some (.own h)) (hs : os[h]? = some (.slr e' (rdL yss))) (hy : evo env y = some (.i n)) (h0 : 0 ≤ n) (h1 : n ≤ yss.length)
    (h' : AOps P q l rest K (env.up d (.osub h n.toNat (yss.length - n.toNat))) os) : AOps P q l (⟨some d, .slice t x (some y) none none, ty, pos, af, g⟩ :: rest) K env os :=
  AOps.qo hw (q_slr_lo (P := P) (t := t) (e := e) (ev_of hx) hs (ev_of hy) h0 (by rw [rdL_len]; exact h1)) (by rw [rdL_len]; exact h')
theorem w_appisub {t e : TypeId} {bytes : Nat} [TSlice P t e] [TElem P e (.slice none 0 0) bytes] {x y : Operand} {p h off len : Nat} {e' e1 : TypeId} {yss zss : List (List Int)}
    (hx : evo env x = some (.own p)) (hs : os[p]? = some (.slr e' (rdL zss))) (hee : e' = e) (hy : evo env y = some (.osub h off len)) (hh : os[h]? = some (.slr e1 (rdL yss))) (hle : off + len ≤ yss.length) (hb : (zss.length + len) * bytes ≤ 140737488355328)
    (h' : AOps P .seq l rest K (Env.up (env.mp (AV.kill p)) d (.own p)) ((os.map (AO.kill p)).set p (.slr e (rdL (zss ++ (yss.drop off).take len))))) :
    AOps P .seq l (⟨some d, .call { callee := .builtin .append, args := #[x, y], argTypes := #[t, t] }, ty, pos, af, none⟩ :: rest) K env os :=
  AOps.lo (l_append_src (ev_of hx) hs hee (src_isub (ev_of hy) hh hle) (by rw [rdL_len, rdL_len, List.length_take, List.length_drop, Nat.min_eq_left (by omega)]; exact hb) (map_ints_kill _ _) (map_ints_kill _ _)) (by rw [rdL_app] at h'; exact h')
theorem w_appislr {t e : TypeId} {bytes : Nat} [TSlice P t e] [TElem P e (.slice none 0 0) bytes] {x y : Operand} {p h : Nat} {e' e1 : TypeId} {yss zss : List (List Int)}
    (hx : evo env x = some (.own p)) (hs : os[p]? = some (.slr e' (rdL zss))) (hee : e' = e) (hy : evo env y = some (.own h)) (hh : os[h]? = some (.slr e1 (rdL yss))) (hb : (zss.length + yss.length) * bytes ≤ 140737488355328)
    (h' : AOps P .seq l rest K (Env.up (env.mp (AV.kill p)) d (.own p)) ((os.map (AO.kill p)).set p (.slr e (rdL (zss ++ yss))))) :
    AOps P .seq l (⟨some d, .call { callee := .builtin .append, args := #[x, y], argTypes := #[t, t] }, ty, pos, af, none⟩ :: rest) K env os :=
  AOps.lo (l_append_src (ev_of hx) hs hee (src_islr (ev_of hy) hh) (by rw [rdL_len, rdL_len]; exact hb) (map_ints_kill _ _) (map_ints_kill _ _)) (by rw [rdL_app] at h'; exact h')
end
end Go.Proofs.Ytfaeiphgenddkaa
/-
  The points of a chain, walked; limited points; the reference's polygon of edges. Condition: numbers of moderate size.
-/
namespace Go.Proofs.Ytfaeiphgenddkaa
open Go Go.RowKit
attribute [local irreducible] AWp AOps ResIs Ret1 QOp LOp COp AFnV AFn Imms LeE LeO
set_option maxHeartbeats 1000000
set_option linter.unusedSimpArgs false
set_option linter.unusedVariables false

theorem geti_p0 (a b : Int) : geti [a, b] 0 = a := rfl
theorem geti_p1 (a b : Int) : geti [a, b] 1 = b := rfl
set_option maxHeartbeats 4000000 in
theorem verticesFrom_c (p : List Int) (L : List (List Int)) (hp : p.length = 2) (hn : L.length ≤ 100000) (hL : ∀ l ∈ L, l.length = 2) (hb : ∀ q ∈ vfP p L, (0 ≤ geti q 0 ∧ geti q 0 ≤ 100000) ∧ (0 ≤ geti q 1 ∧ geti q 1 ≤ 100000)) :
    AFn Try.prog 23 [.ints p, .intss L] (IsIntss 33 2 (vfP p L)) := by
  have hcl := clone_c p (by omega) (by omega)
  have hlen := vfP_len L p
  have e0 : (vfP p L).take 1 = [p] := by
    obtain ⟨r, hr⟩ := vfP_ne p L
    rw [hr]; rfl
  (refine AFn.start Try.func23 Try.ntmps23 rfl (by kernel_rfl) fun hk => ?_; simp only [Env.start, enumF, List.length_cons, List.length_nil, Nat.reduceAdd, Nat.reduceSub, List.cons_append, List.nil_append])
  repeat' (first | (apply AOps.nil; try simp only [List.nil_append, List.cons_append, List.set_cons_zero, List.set_cons_succ, List.length_cons, List.length_nil, Nat.reduceAdd, AV.sh, AV.sh1, AV.sh0, AO.sh, List.map_cons, List.map_nil, Nat.zero_add, Nat.add_zero, setAll]) | (apply w_move; exact rfl; exact rfl) | (apply w_assign; exact rfl; exact rfl) | apply AWp.seq | apply AWp.region | apply AWp.block | (apply w_len; exact rfl; exact rfl; first | exact .ints _ | exact .intss _ | exact .sli rfl | exact .sls rfl | exact .slr rfl | exact .orow rfl | exact .nil) | (apply w_bsr1s; exact rfl; exact rfl; exact rfl; exact rfl; simp only [Env.mp, List.map_cons, List.map_nil, List.set_cons_zero, List.set_cons_succ, AV.kill, AV.kill1, AO.kill, AV.rin, AV.rin1, AV.noRow, AV.noRow1, AO.via, reduceIte, Nat.reduceEqDiff, Nat.reduceLT, Env.up, Nat.zero_ne_one, Nat.one_ne_zero, Nat.reduceAdd, List.cons_append, List.nil_append]) | (apply w_callm (hcl); (focus ((repeat (first | exact im_nil | refine im_cons rfl (.ints _) ?_)); done)); rintro r os0 ⟨rfl, rfl⟩; try simp only [List.nil_append, List.cons_append, List.set_cons_zero, List.set_cons_succ, List.length_cons, List.length_nil, Nat.reduceAdd, AV.sh, AV.sh1, AV.sh0, AO.sh, List.map_cons, List.map_nil, Nat.zero_add, Nat.add_zero, setAll]))
  refine AWp.loop (ι := Nat) (fun n => ⟨44, [(5, .own 1), (12, .intss L), (13, .i L.length), (14, .i n)]⟩) (fun n => [.dead, .sls 33 2 ((vfP p L).take (n + 1))]) (fun n => n ≤ L.length) (fun n => L.length - n) 0 (by omega) (by rw [e0]; exact ⟨lee rfl (by (repeat (first | exact le_nil | refine le_eq rfl rfl ?_))), by (repeat (first | exact lo_nil | refine lo_dead ?_ | refine lo_eq rfl ?_)), rfl, rfl⟩) ?_
  rintro n n0
  have hk : ((vfP p L).take (n + 1)).length = n + 1 := by rw [List.length_take]; omega
  by_cases hlt : n < L.length
  · have hrow : (gets L (n : Nat)).length = 2 := hL _ (gets_mem (by omega) (by omega))
    have eg : gets L (n : Nat) = L.getD n [] := by simp [gets, List.getD_eq_getElem?_getD]
    have el : ((((n + 1 : Nat) : Int)) - 1).toNat = n := by omega
    have hq := hb ((vfP p L).getD n []) (by rw [List.getD_eq_getElem?_getD, List.getElem?_eq_getElem (by omega)]; exact List.getElem_mem _)
    have hq2 := hb ((vfP p L).getD (n + 1) []) (by rw [List.getD_eq_getElem?_getD, List.getElem?_eq_getElem (by omega)]; exact List.getElem_mem _)
    have hs := vfP_succ L p n hlt
    have hql : ((vfP p L).getD n []).length = 2 := vfP_row hp _ (by rw [List.getD_eq_getElem?_getD, List.getElem?_eq_getElem (by omega)]; exact List.getElem_mem _)
    have et : ((vfP p L).take (n + 1)).getD n [] = (vfP p L).getD n [] := take_gets _ _ _ (by omega)
    rw [hs] at hq2
    simp only [geti_p0, geti_p1] at hq2
    rw [← eg] at hq2 hs
    have e2 := vfP_take L p n hlt
    rw [← eg] at e2
    have hrl : (((vfP p L).take (n + 1)).getD ((((n + 1 : Nat) : Int)) - 1).toNat []).length = 2 := by rw [el, et]; exact hql
    have hkl : (((vfP p L).take (n + 1)).length : Int) = ((n + 1 : Nat) : Int) := by rw [hk]
    rw [← et] at hq hq2 e2 hql
    generalize eV : (vfP p L).take (n + 1) = V at *
    have el' : ((V.length : Int) - 1).toNat = n := by omega
    have hq' := hq
    have hql' := hql
    rw [← el'] at hq' hql'
    have hq3 : (0 ≤ geti (V.getD n []) ((Int.toNat 0 : Nat) : Int) + geti (gets L (n : Nat)) 0 ∧ geti (V.getD n []) ((Int.toNat 0 : Nat) : Int) + geti (gets L (n : Nat)) 0 ≤ 100000) ∧ (0 ≤ geti (V.getD n []) ((Int.toNat 1 : Nat) : Int) - geti (gets L (n : Nat)) 1 ∧ geti (V.getD n []) ((Int.toNat 1 : Nat) : Int) - geti (gets L (n : Nat)) 1 ≤ 100000) := hq2
    repeat' (first | (apply AOps.nil; try simp only [List.nil_append, List.cons_append, List.set_cons_zero, List.set_cons_succ, List.length_cons, List.length_nil, Nat.reduceAdd, AV.sh, AV.sh1, AV.sh0, AO.sh, List.map_cons, List.map_nil, Nat.zero_add, Nat.add_zero, setAll]) | (apply w_move; exact rfl; exact rfl) | (apply w_assign; exact rfl; exact rfl) | apply AWp.seq | apply AWp.region | ((apply AWp.condP; exact rfl) <;> intro h) | apply AWp.block | apply AWp.ret | apply AWp.exit | apply AWp.skip | (apply w_len; exact rfl; exact rfl; first | exact .ints _ | exact .intss _ | exact .sli rfl | exact .sls rfl | exact .slr rfl | exact .orow rfl | exact .nil) | omega | ((first | apply w_lss | apply w_sub | apply w_idx | apply w_ld); iterate 3 exact rfl) | ((first | apply w_idxs | apply w_lds); iterate 3 exact rfl) | (apply w_idxo; exact rfl; exact rfl; (exact .sls rfl); exact rfl) | (apply w_ldls; iterate 4 exact rfl) | (apply inI_of <;> omega))
    refine AWp.regionG [] (by kernel_rfl) (envC := ⟨44, [(5, .own 1), (12, .intss L), (13, .i L.length), (14, .i n)]⟩) (osC := [.dead, .sls 33 2 (V ++ [[geti (V.getD n []) 0 + geti (gets L (n : Nat)) 0, geti (V.getD n []) 1 - geti (gets L (n : Nat)) 1]])]) rfl rfl ?_ ?_
    · rw [el']
      repeat' (first | (apply AOps.nil; try simp only [List.nil_append, List.cons_append, List.set_cons_zero, List.set_cons_succ, List.length_cons, List.length_nil, Nat.reduceAdd, AV.sh, AV.sh1, AV.sh0, AO.sh, List.map_cons, List.map_nil, Nat.zero_add, Nat.add_zero, setAll]) | (apply w_move; exact rfl; exact rfl) | (apply w_assign; exact rfl; exact rfl) | ((first | apply w_bsr1 | apply w_add | apply w_sub | apply w_idx | apply w_ld | apply w_bs2); iterate 3 exact rfl) | (apply w_appr; exact rfl; exact rfl; exact rfl; exact rfl; exact rfl; exact rfl; exact rfl; rotate_left 1; simp only [Env.mp, List.map_cons, List.map_nil, List.set_cons_zero, List.set_cons_succ, AV.kill, AV.kill1, AO.kill, AV.rin, AV.rin1, AV.noRow, AV.noRow1, AO.via, reduceIte, Nat.reduceEqDiff, Nat.reduceLT, Env.up, Nat.zero_ne_one, Nat.one_ne_zero, Nat.reduceAdd, List.cons_append, List.nil_append]; rotate_left 1) | apply AllOfG.nil | (apply AllOfG.consS; exact rfl; exact rfl) | (apply AAnyG.takeW; exact rfl; exact rfl; kernel_rfl; kernel_rfl) | (apply AAnyG.takeL; exact rfl; exact rfl; kernel_rfl) | (apply AAnyG.all; exact rfl) | (apply AAnyG.done; exact rfl) | omega | ((first | apply w_idxr | apply w_ldr); iterate 4 exact rfl) | (apply w_ldrp; iterate 4 exact rfl) | (apply inI_of <;> omega))
      all_goals (apply Or.inl; refine ⟨lee rfl ?_, ?_, rfl, rfl⟩; (focus ((repeat (first | exact le_nil | refine le_eq rfl rfl ?_)); done)); (focus ((repeat (first | exact lo_nil | refine lo_dead ?_ | refine lo_eq rfl ?_)); done)))
    repeat' (first | (apply AOps.nil; try simp only [List.nil_append, List.cons_append, List.set_cons_zero, List.set_cons_succ, List.length_cons, List.length_nil, Nat.reduceAdd, AV.sh, AV.sh1, AV.sh0, AO.sh, List.map_cons, List.map_nil, Nat.zero_add, Nat.add_zero, setAll]) | (apply w_move; exact rfl; exact rfl) | apply AWp.region | ((apply w_add); iterate 3 exact rfl) | (apply inI_of <;> omega))
    exact ⟨n + 1, by omega, by omega, ⟨lee rfl (by (repeat (first | exact le_nil | refine le_eq rfl rfl ?_))), by (repeat (first | exact lo_nil | refine lo_dead ?_ | refine lo_eq (congrArg (AO.sls _ _) (e2)) ?_)), rfl, rfl⟩⟩
  · repeat' (first | (apply AOps.nil; try simp only [List.nil_append, List.cons_append, List.set_cons_zero, List.set_cons_succ, List.length_cons, List.length_nil, Nat.reduceAdd, AV.sh, AV.sh1, AV.sh0, AO.sh, List.map_cons, List.map_nil, Nat.zero_add, Nat.add_zero, setAll]) | (apply w_move; exact rfl; exact rfl) | (apply w_assign; exact rfl; exact rfl) | apply AWp.seq | apply AWp.region | ((apply AWp.condP; exact rfl) <;> intro h) | apply AWp.block | apply AWp.ret | apply AWp.exit | apply AWp.skip | omega | ((apply w_lss); iterate 3 exact rfl))
    have e : n = L.length := by omega
    subst e
    have ea : (vfP p L).take (L.length + 1) = vfP p L := List.take_of_length_le (by omega)
    rw [ea]
    exact ⟨_, _, _, .v1 Try.results23 rfl, .sls rfl, rfl, rfl⟩
end Go.Proofs.Ytfaeiphgenddkaa
/-
  Limited points; the reference's polygon of edges. Condition: numbers of moderate size.
-/
namespace Go.Proofs.Ytfaeiphgenddkaa
open Go Go.RowKit
attribute [local irreducible] AWp AOps ResIs Ret1 QOp LOp COp AFnV AFn Imms LeE LeO
set_option maxHeartbeats 1000000
set_option linter.unusedSimpArgs false
set_option linter.unusedVariables false

/-- Both coordinates from 0 to 60. -/
def R60 (r : List Int) : Prop := (0 ≤ geti r 0 ∧ geti r 0 ≤ 60) ∧ (0 ≤ geti r 1 ∧ geti r 1 ≤ 60)
theorem limOk_c (V : List (List Int)) (hn : V.length ≤ 1000000) (hr : ∀ r ∈ V, r.length = 2 ∧ R60 r) :
    AFnC Try.prog 22 [.own 0] [.sls 33 2 V] (fun r os => r = .tup [.own 0, .i 0] ∧ os = [.sls 33 2 V]) := by
  have hrn : ∀ n : Nat, n < V.length → (V.getD (n : Int).toNat []).length = 2 ∧ R60 (V.getD (n : Int).toNat []) := fun n hn => hr _ (by
    rw [Int.toNat_natCast, List.getD_eq_getElem?_getD, List.getElem?_eq_getElem hn]; exact List.getElem_mem _)
  (refine AFnC.start Try.func22 Try.ntmps22 rfl (by kernel_rfl) fun K => ?_; simp only [Env.start, enumF, List.map_cons, List.map_nil, AV.sh, List.length_cons, List.length_nil, Nat.reduceAdd, Nat.reduceSub, List.cons_append, List.nil_append])
  repeat' (first | (apply AOps.nil; try simp only [List.nil_append, List.cons_append, List.set_cons_zero, List.set_cons_succ, List.length_cons, List.length_nil, Nat.reduceAdd, AV.sh, AV.sh1, AV.sh0, AO.sh, List.map_cons, List.map_nil, Nat.zero_add, Nat.add_zero, setAll]) | (apply w_move; exact rfl; exact rfl) | (apply w_assign; exact rfl; exact rfl) | apply AWp.seq | apply AWp.region | apply AWp.block | (apply w_len; exact rfl; exact rfl; first | exact .ints _ | exact .intss _ | exact .sli rfl | exact .sls rfl | exact .slr rfl | exact .orow rfl | exact .nil))
  refine AWp.loop (ι := Nat) (fun n => ⟨17, [(0, .own 1), (6, .own 1), (7, .i V.length), (8, .i n)]⟩) (fun n => [.keep 1 K, .sls 33 2 V]) (fun n => n ≤ V.length) (fun n => V.length - n) 0 (by omega) ⟨lee rfl (by (repeat (first | exact le_nil | refine le_eq rfl rfl ?_))), by (repeat (first | exact lo_nil | refine lo_eq rfl ?_)), rfl, rfl⟩ ?_
  rintro n n0
  by_cases hlt : n < V.length
  · obtain ⟨h1, h2⟩ := hrn n hlt
    have hw := within2_c (V.getD (n : Int).toNat []) h1
    unfold R60 at h2
    rw [decide_eq_true h2] at hw
    repeat' (first | (apply AOps.nil; try simp only [List.nil_append, List.cons_append, List.set_cons_zero, List.set_cons_succ, List.length_cons, List.length_nil, Nat.reduceAdd, AV.sh, AV.sh1, AV.sh0, AO.sh, List.map_cons, List.map_nil, Nat.zero_add, Nat.add_zero, setAll]) | (apply w_move; exact rfl; exact rfl) | (apply w_assign; exact rfl; exact rfl) | apply AWp.seq | apply AWp.region | ((apply AWp.condP; exact rfl) <;> intro h) | (apply AWp.condF; exact rfl) | apply AWp.block | apply AWp.ret | apply AWp.exit | apply AWp.skip | (apply w_call (hw); exact rfl; exact rfl; focus ((repeat (first | exact im_nil | refine im_cons rfl (.val _) ?_ | refine im_cons rfl (.orow rfl) ?_)); done)) | omega | ((first | apply w_lss | apply w_add | apply w_idx | apply w_ld); iterate 3 exact rfl) | ((apply w_not); iterate 2 exact rfl) | (apply w_idxo; exact rfl; exact rfl; (exact .sls rfl); exact rfl) | (apply w_ldls; iterate 4 exact rfl) | (apply inI_of <;> omega))
    exact ⟨n + 1, hlt, by omega, ⟨lee rfl (by (repeat (first | exact le_nil | refine le_eq rfl rfl ?_))), by (repeat (first | exact lo_nil | refine lo_eq rfl ?_)), rfl, rfl⟩⟩
  · repeat' (first | (apply AOps.nil; try simp only [List.nil_append, List.cons_append, List.set_cons_zero, List.set_cons_succ, List.length_cons, List.length_nil, Nat.reduceAdd, AV.sh, AV.sh1, AV.sh0, AO.sh, List.map_cons, List.map_nil, Nat.zero_add, Nat.add_zero, setAll]) | (apply w_move; exact rfl; exact rfl) | (apply w_assign; exact rfl; exact rfl) | apply AWp.seq | apply AWp.region | ((apply AWp.condP; exact rfl) <;> intro h) | apply AWp.block | apply AWp.ret | apply AWp.exit | apply AWp.skip | omega | ((apply w_lss); iterate 3 exact rfl))
    refine ⟨⟨17, [(2, .own 1), (3, .i 0)]⟩, [.sls 33 2 V], .tup [.own 0, .i 0], .or (.inl ⟨lee rfl (by (repeat (first | exact le_nil | refine le_eq rfl rfl ?_))), by (repeat (first | exact lo_nil | refine lo_eq rfl ?_)), rfl, rfl⟩), .a2 Try.results22 rfl rfl, by simp [AV.fl, AV.fl1, AV.fl0], ⟨rfl, rfl⟩, by simp [AO.plain]⟩
theorem limBad_c (V : List (List Int)) (hn : V.length ≤ 1000000) (hr : ∀ r ∈ V, r.length = 2) (hb : ∃ r ∈ V, ¬ R60 r) :
    AFnC Try.prog 22 [.own 0] [.sls 33 2 V] (fun r os => r = .tup [.val (.slice none 0 0), .i 3] ∧ os = []) := by
  have hrn : ∀ n : Nat, n < V.length → (V.getD (n : Int).toNat []).length = 2 := fun n hn => hr _ (by
    rw [Int.toNat_natCast, List.getD_eq_getElem?_getD, List.getElem?_eq_getElem hn]; exact List.getElem_mem _)
  obtain ⟨i, hi, hbad⟩ : ∃ i : Nat, i < V.length ∧ ¬ R60 (V.getD i []) := by
    obtain ⟨r, hr, hz⟩ := hb
    obtain ⟨i, hi⟩ := List.getElem?_of_mem hr
    exact ⟨i, (List.getElem?_eq_some_iff.1 hi).1, by rw [List.getD_eq_getElem?_getD, hi]; exact hz⟩
  (refine AFnC.start Try.func22 Try.ntmps22 rfl (by kernel_rfl) fun K => ?_; simp only [Env.start, enumF, List.map_cons, List.map_nil, AV.sh, List.length_cons, List.length_nil, Nat.reduceAdd, Nat.reduceSub, List.cons_append, List.nil_append])
  repeat' (first | (apply AOps.nil; try simp only [List.nil_append, List.cons_append, List.set_cons_zero, List.set_cons_succ, List.length_cons, List.length_nil, Nat.reduceAdd, AV.sh, AV.sh1, AV.sh0, AO.sh, List.map_cons, List.map_nil, Nat.zero_add, Nat.add_zero, setAll]) | (apply w_move; exact rfl; exact rfl) | (apply w_assign; exact rfl; exact rfl) | apply AWp.seq | apply AWp.region | apply AWp.block | (apply w_len; exact rfl; exact rfl; first | exact .ints _ | exact .intss _ | exact .sli rfl | exact .sls rfl | exact .slr rfl | exact .orow rfl | exact .nil))
  refine AWp.loop (ι := Nat) (fun n => ⟨17, [(0, .own 1), (6, .own 1), (7, .i V.length), (8, .i n)]⟩) (fun n => [.keep 1 K, .sls 33 2 V]) (fun n => n ≤ i) (fun n => V.length - n) 0 (by omega) ⟨lee rfl (by (repeat (first | exact le_nil | refine le_eq rfl rfl ?_))), by (repeat (first | exact lo_nil | refine lo_eq rfl ?_)), rfl, rfl⟩ ?_
  rintro n n0
  have hlt : n < V.length := by omega
  have h1 := hrn n hlt
  have hw := within2_c (V.getD (n : Int).toNat []) h1
  by_cases h2 : R60 (V.getD (n : Int).toNat [])
  · have hne : n ≠ i := fun e => by subst e; exact hbad h2
    unfold R60 at h2
    rw [decide_eq_true h2] at hw
    repeat' (first | (apply AOps.nil; try simp only [List.nil_append, List.cons_append, List.set_cons_zero, List.set_cons_succ, List.length_cons, List.length_nil, Nat.reduceAdd, AV.sh, AV.sh1, AV.sh0, AO.sh, List.map_cons, List.map_nil, Nat.zero_add, Nat.add_zero, setAll]) | (apply w_move; exact rfl; exact rfl) | (apply w_assign; exact rfl; exact rfl) | apply AWp.seq | apply AWp.region | ((apply AWp.condP; exact rfl) <;> intro h) | (apply AWp.condF; exact rfl) | apply AWp.block | apply AWp.ret | apply AWp.exit | apply AWp.skip | (apply w_call (hw); exact rfl; exact rfl; focus ((repeat (first | exact im_nil | refine im_cons rfl (.val _) ?_ | refine im_cons rfl (.orow rfl) ?_)); done)) | omega | ((first | apply w_lss | apply w_add | apply w_idx | apply w_ld); iterate 3 exact rfl) | ((apply w_not); iterate 2 exact rfl) | (apply w_idxo; exact rfl; exact rfl; (exact .sls rfl); exact rfl) | (apply w_ldls; iterate 4 exact rfl) | (apply inI_of <;> omega))
    exact ⟨n + 1, by omega, by omega, ⟨lee rfl (by (repeat (first | exact le_nil | refine le_eq rfl rfl ?_))), by (repeat (first | exact lo_nil | refine lo_eq rfl ?_)), rfl, rfl⟩⟩
  · unfold R60 at h2
    rw [decide_eq_false h2] at hw
    repeat' (first | (apply AOps.nil; try simp only [List.nil_append, List.cons_append, List.set_cons_zero, List.set_cons_succ, List.length_cons, List.length_nil, Nat.reduceAdd, AV.sh, AV.sh1, AV.sh0, AO.sh, List.map_cons, List.map_nil, Nat.zero_add, Nat.add_zero, setAll]) | (apply w_move; exact rfl; exact rfl) | (apply w_assign; exact rfl; exact rfl) | apply AWp.seq | apply AWp.region | ((apply AWp.condP; exact rfl) <;> intro h) | (apply AWp.condT; exact rfl) | apply AWp.block | apply AWp.ret | apply AWp.exit | apply AWp.skip | (apply w_call (hw); exact rfl; exact rfl; focus ((repeat (first | exact im_nil | refine im_cons rfl (.val _) ?_ | refine im_cons rfl (.orow rfl) ?_)); done)) | omega | ((first | apply w_lss | apply w_idx | apply w_ld); iterate 3 exact rfl) | ((apply w_not); iterate 2 exact rfl) | (apply w_idxo; exact rfl; exact rfl; (exact .sls rfl); exact rfl) | (apply w_ldls; iterate 4 exact rfl))
    refine ⟨⟨17, [(2, .val (.slice none 0 0)), (3, .i 3)]⟩, [], .tup [.val (.slice none 0 0), .i 3], .or ?_, .a2 Try.results22 rfl rfl, by simp [AV.fl, AV.fl1, AV.fl0], ⟨rfl, rfl⟩, by simp⟩
    (apply Or.inl; refine ⟨lee rfl ?_, ?_, rfl, rfl⟩; (focus ((repeat (first | exact le_nil | refine le_eq rfl rfl ?_)); done)); (focus ((repeat (first | exact lo_nil | refine lo_eq rfl ?_)); done)))

/-! ### The polygon of edges -/
def EdOk (xss : List (List Int)) : Prop := (1 ≤ xss.length ∧ xss.length ≤ 60) ∧ ∀ e ∈ xss, E60 e
open Classical in
noncomputable def seE (xss : List (List Int)) : Int := if EdOk xss then (if 60 < sS E0 xss ∨ 60 < sS E1 xss then 3 else 0) else 2
noncomputable def seL (xss : List (List Int)) : List (List Int) := if seE xss = 0 then verts (vfP [0, sS E1 xss] (srtE xss xss.length)) else []
theorem seE_bad {xss : List (List Int)} (h : ¬ EdOk xss) : seE xss = 2 ∧ seL xss = [] := by
  have e : seE xss = 2 := if_neg h
  exact ⟨e, by rw [seL, e, if_neg (by decide)]⟩
theorem seE_lim {xss : List (List Int)} (h : EdOk xss) (h2 : 60 < sS E0 xss ∨ 60 < sS E1 xss) : seE xss = 3 ∧ seL xss = [] := by
  have e : seE xss = 3 := by rw [seE, if_pos h, if_pos h2]
  exact ⟨e, by rw [seL, e, if_neg (by decide)]⟩
theorem seE_ok {xss : List (List Int)} (h : EdOk xss) (h2 : ¬ (60 < sS E0 xss ∨ 60 < sS E1 xss)) : seE xss = 0 ∧ seL xss = verts (vfP [0, sS E1 xss] (srtE xss xss.length)) := by
  have e : seE xss = 0 := by rw [seE, if_pos h, if_neg h2]
  exact ⟨e, by rw [seL, if_pos e]⟩

theorem seRow {xss : List (List Int)} (h : ∀ e ∈ xss, E60 e) (n : Nat) (hn : n < xss.length) : E60 (gets xss (n : Nat)) := h _ (gets_mem (by omega) (by omega))
theorem bad_row {xss : List (List Int)} (h : ¬ ∀ e ∈ xss, E60 e) : ∃ i : Nat, i < xss.length ∧ ¬ E60 (gets xss (i : Nat)) := by
  apply Classical.byContradiction
  intro hn
  refine h fun e he => ?_
  obtain ⟨i, hi⟩ := List.getElem?_of_mem he
  have hl := (List.getElem?_eq_some_iff.1 hi).1
  apply Classical.byContradiction
  intro hz
  exact hn ⟨i, hl, by simp [gets, hi]; exact hz⟩

set_option maxHeartbeats 8000000 in
theorem specSupportOfEdges_c (xss : List (List Int)) : AFn Try.prog 7 [.intss xss] (IsSSC 33 2 (seL xss) (seE xss)) := by
  (refine AFn.start Try.func7 Try.ntmps7 rfl (by kernel_rfl) fun hk => ?_; simp only [Env.start, enumF, List.length_cons, List.length_nil, Nat.reduceAdd, Nat.reduceSub, List.cons_append, List.nil_append])
  by_cases hl : 1 ≤ xss.length ∧ xss.length ≤ 60
  case neg =>
    obtain ⟨e1, e2⟩ := seE_bad (xss := xss) fun h => hl h.1
    repeat' (first | (apply AOps.nil; try simp only [List.nil_append, List.cons_append, List.set_cons_zero, List.set_cons_succ, List.length_cons, List.length_nil, Nat.reduceAdd, AV.sh, AV.sh1, AV.sh0, AO.sh, List.map_cons, List.map_nil, Nat.zero_add, Nat.add_zero, setAll]) | ((apply AOps.splitP; exact rfl; exact rfl) <;> intro h) | (apply w_move; exact rfl; exact rfl) | (apply w_assign; exact rfl; exact rfl) | apply AWp.seq | apply AWp.region | ((apply AWp.condP; exact rfl) <;> intro h) | (apply AWp.condT; exact rfl) | apply AWp.ret | apply AWp.skip | (apply w_skip; exact rfl) | (apply w_pickT; exact rfl; exact rfl; exact rfl) | (apply w_pickF; exact rfl; exact rfl; exact rfl) | (apply w_len; exact rfl; exact rfl; first | exact .ints _ | exact .intss _ | exact .sli rfl | exact .sls rfl | exact .slr rfl | exact .orow rfl | exact .nil) | omega | ((first | apply w_lss | apply w_gtr); iterate 3 exact rfl))
    all_goals exact ⟨_, _, _, .a2 Try.results7 rfl rfl, .tup2 (.nils 33 2), by rw [e1], by rw [e2]⟩
  repeat' (first | (apply AOps.nil; try simp only [List.nil_append, List.cons_append, List.set_cons_zero, List.set_cons_succ, List.length_cons, List.length_nil, Nat.reduceAdd, AV.sh, AV.sh1, AV.sh0, AO.sh, List.map_cons, List.map_nil, Nat.zero_add, Nat.add_zero, setAll]) | ((apply AOps.splitP; exact rfl; exact rfl) <;> intro h) | (apply w_move; exact rfl; exact rfl) | (apply w_assign; exact rfl; exact rfl) | apply AWp.seq | apply AWp.region | ((apply AWp.condP; exact rfl) <;> intro h) | (apply AWp.condT; exact rfl) | apply AWp.ret | apply AWp.skip | (apply w_skip; exact rfl) | (apply w_pickT; exact rfl; exact rfl; exact rfl) | (apply w_pickF; exact rfl; exact rfl; exact rfl) | (apply w_len; exact rfl; exact rfl; first | exact .ints _ | exact .intss _ | exact .sli rfl | exact .sls rfl | exact .slr rfl | exact .orow rfl | exact .nil) | omega | ((first | apply w_lss | apply w_gtr); iterate 3 exact rfl))
  refine w_bsi0 rfl ?_
  try simp only [List.nil_append, List.cons_append, List.set_cons_zero, List.set_cons_succ, List.length_cons, List.length_nil, Nat.reduceAdd, AV.sh, AV.sh1, AV.sh0, AO.sh, List.map_cons, List.map_nil, Nat.zero_add, Nat.add_zero, setAll]
  repeat' (first | (apply AOps.nil; try simp only [List.nil_append, List.cons_append, List.set_cons_zero, List.set_cons_succ, List.length_cons, List.length_nil, Nat.reduceAdd, AV.sh, AV.sh1, AV.sh0, AO.sh, List.map_cons, List.map_nil, Nat.zero_add, Nat.add_zero, setAll]) | (apply w_assign; exact rfl; exact rfl) | apply AWp.seq | apply AWp.region | apply AWp.block)
  by_cases hr : ∀ e ∈ xss, E60 e
  case neg =>
    obtain ⟨b, hb, hbad⟩ := bad_row hr
    obtain ⟨e1, e2⟩ := seE_bad (xss := xss) fun h => hr h.2
    refine AWp.loop (ι := Nat) (fun i => ⟨165, [(0, .intss xss), (4, .own 0), (5, .i 0), (6, .i 0), (7, .i i)]⟩) (fun i => [.slr 33 (rdL [])]) (fun i => i ≤ b) (fun i => xss.length - i) 0 (by omega) ⟨lee rfl (by (repeat (first | exact le_nil | refine le_eq rfl rfl ?_))), by (repeat (first | exact lo_nil | refine lo_eq rfl ?_)), rfl, rfl⟩ ?_
    rintro i h0
    by_cases hi : E60 (gets xss (i : Nat))
    · have hne : i ≠ b := fun e => by subst e; exact hbad hi
      obtain ⟨a1, a2, a3⟩ := hi
      repeat' (first | (apply AOps.nil; try simp only [List.nil_append, List.cons_append, List.set_cons_zero, List.set_cons_succ, List.length_cons, List.length_nil, Nat.reduceAdd, AV.sh, AV.sh1, AV.sh0, AO.sh, List.map_cons, List.map_nil, Nat.zero_add, Nat.add_zero, setAll]) | ((apply AOps.splitP; exact rfl; exact rfl) <;> intro h) | ((apply AOps.splitN; exact rfl; exact rfl) <;> intro h) | (apply w_move; exact rfl; exact rfl) | (apply w_assign; exact rfl; exact rfl) | apply AWp.seq | apply AWp.region | ((apply AWp.condP; exact rfl) <;> intro h) | ((apply AWp.condN; exact rfl) <;> intro h) | (apply AWp.condT; exact rfl) | apply AWp.block | apply AWp.ret | apply AWp.exit | apply AWp.skip | (apply w_skip; exact rfl) | (apply w_pickT; exact rfl; exact rfl; exact rfl) | (apply w_pickF; exact rfl; exact rfl; exact rfl) | (apply w_len; exact rfl; exact rfl; first | exact .ints _ | exact .intss _ | exact .sli rfl | exact .sls rfl | exact .slr rfl | exact .orow rfl | exact .nil) | (apply w_call (l01In_c _ _ _); exact rfl; exact rfl; focus ((repeat (first | exact im_nil | refine im_cons rfl (.val _) ?_)); done)) | omega | ((first | apply w_lss | apply w_neq | apply w_add | apply w_idx | apply w_ld); iterate 3 exact rfl) | ((first | apply w_idxs | apply w_lds); iterate 3 exact rfl) | ((apply w_not); iterate 2 exact rfl) | (apply inI_of <;> omega))
      all_goals first
        | exact ⟨i + 1, by omega, by omega, ⟨lee rfl (by (repeat (first | exact le_nil | refine le_eq rfl rfl ?_))), by (repeat (first | exact lo_nil | refine lo_eq rfl ?_)), rfl, rfl⟩⟩
        | (simp at *; omega)
    · unfold E60 at hi
      repeat' (first | (apply AOps.nil; try simp only [List.nil_append, List.cons_append, List.set_cons_zero, List.set_cons_succ, List.length_cons, List.length_nil, Nat.reduceAdd, AV.sh, AV.sh1, AV.sh0, AO.sh, List.map_cons, List.map_nil, Nat.zero_add, Nat.add_zero, setAll]) | ((apply AOps.splitP; exact rfl; exact rfl) <;> intro h) | ((apply AOps.splitN; exact rfl; exact rfl) <;> intro h) | (apply w_move; exact rfl; exact rfl) | (apply w_assign; exact rfl; exact rfl) | apply AWp.seq | apply AWp.region | ((apply AWp.condP; exact rfl) <;> intro h) | ((apply AWp.condN; exact rfl) <;> intro h) | (apply AWp.condT; exact rfl) | apply AWp.block | apply AWp.ret | apply AWp.exit | apply AWp.skip | (apply w_skip; exact rfl) | (apply w_pickT; exact rfl; exact rfl; exact rfl) | (apply w_pickF; exact rfl; exact rfl; exact rfl) | (apply w_len; exact rfl; exact rfl; first | exact .ints _ | exact .intss _ | exact .sli rfl | exact .sls rfl | exact .slr rfl | exact .orow rfl | exact .nil) | (apply w_call (l01In_c _ _ _); exact rfl; exact rfl; focus ((repeat (first | exact im_nil | refine im_cons rfl (.val _) ?_)); done)) | omega | ((first | apply w_lss | apply w_neq | apply w_idx | apply w_ld); iterate 3 exact rfl) | ((first | apply w_idxs | apply w_lds); iterate 3 exact rfl) | ((apply w_not); iterate 2 exact rfl))
      all_goals first
        | exact ⟨_, _, _, .a2 Try.results7 rfl rfl, .tup2 (.nils 33 2), by rw [e1], by rw [e2]⟩
        | (simp at *; omega)
  refine AWp.loop (ι := Nat) (fun i => ⟨165, [(0, .intss xss), (4, .own 0), (5, .i 0), (6, .i 0), (7, .i i)]⟩) (fun i => [.slr 33 (rdL [])]) (fun i => i ≤ xss.length) (fun i => xss.length - i) 0 (by omega) ⟨lee rfl (by (repeat (first | exact le_nil | refine le_eq rfl rfl ?_))), by (repeat (first | exact lo_nil | refine lo_eq rfl ?_)), rfl, rfl⟩ ?_
  rintro i h0
  by_cases hi : i < xss.length
  · obtain ⟨a1, a2, a3⟩ := seRow hr i hi
    repeat' (first | (apply AOps.nil; try simp only [List.nil_append, List.cons_append, List.set_cons_zero, List.set_cons_succ, List.length_cons, List.length_nil, Nat.reduceAdd, AV.sh, AV.sh1, AV.sh0, AO.sh, List.map_cons, List.map_nil, Nat.zero_add, Nat.add_zero, setAll]) | ((apply AOps.splitP; exact rfl; exact rfl) <;> intro h) | ((apply AOps.splitN; exact rfl; exact rfl) <;> intro h) | (apply w_move; exact rfl; exact rfl) | (apply w_assign; exact rfl; exact rfl) | apply AWp.seq | apply AWp.region | ((apply AWp.condP; exact rfl) <;> intro h) | ((apply AWp.condN; exact rfl) <;> intro h) | (apply AWp.condT; exact rfl) | apply AWp.block | apply AWp.ret | apply AWp.exit | apply AWp.skip | (apply w_skip; exact rfl) | (apply w_pickT; exact rfl; exact rfl; exact rfl) | (apply w_pickF; exact rfl; exact rfl; exact rfl) | (apply w_len; exact rfl; exact rfl; first | exact .ints _ | exact .intss _ | exact .sli rfl | exact .sls rfl | exact .slr rfl | exact .orow rfl | exact .nil) | (apply w_call (l01In_c _ _ _); exact rfl; exact rfl; focus ((repeat (first | exact im_nil | refine im_cons rfl (.val _) ?_)); done)) | omega | ((first | apply w_lss | apply w_neq | apply w_add | apply w_idx | apply w_ld); iterate 3 exact rfl) | ((first | apply w_idxs | apply w_lds); iterate 3 exact rfl) | ((apply w_not); iterate 2 exact rfl) | (apply inI_of <;> omega))
    all_goals first
      | exact ⟨i + 1, by omega, by omega, ⟨lee rfl (by (repeat (first | exact le_nil | refine le_eq rfl rfl ?_))), by (repeat (first | exact lo_nil | refine lo_eq rfl ?_)), rfl, rfl⟩⟩
      | (simp at *; omega)
  · repeat' (first | (apply AOps.nil; try simp only [List.nil_append, List.cons_append, List.set_cons_zero, List.set_cons_succ, List.length_cons, List.length_nil, Nat.reduceAdd, AV.sh, AV.sh1, AV.sh0, AO.sh, List.map_cons, List.map_nil, Nat.zero_add, Nat.add_zero, setAll]) | (apply w_move; exact rfl; exact rfl) | (apply w_assign; exact rfl; exact rfl) | apply AWp.seq | apply AWp.region | ((apply AWp.condP; exact rfl) <;> intro h) | apply AWp.block | apply AWp.exit | apply AWp.skip | (apply w_len; exact rfl; exact rfl; first | exact .ints _ | exact .intss _ | exact .sli rfl | exact .sls rfl | exact .slr rfl | exact .orow rfl | exact .nil) | omega | ((apply w_lss); iterate 3 exact rfl))
    have hn0 : ∀ x ∈ xss, 1 ≤ geti x 1 := fun x hx => (hr x hx).2.2.1
    have b0 : ∀ n, 0 ≤ sS E0 (xss.take n) ∧ sS E0 (xss.take n) ≤ 60 * xss.length := sS_take_le (by decide) fun x hx => by have := (hr x hx).2.1; simp only [E0]; omega
    have b1 : ∀ n, 0 ≤ sS E1 (xss.take n) ∧ sS E1 (xss.take n) ≤ 60 * xss.length := sS_take_le (by decide) fun x hx => by have := (hr x hx).2.2; simp only [E1]; omega
    refine AWp.loopS (ι := Nat) (fun n => ⟨165, [(0, .intss xss), (4, .own 0), (5, .i (sS E0 (xss.take n))), (6, .i (sS E1 (xss.take n))), (8, .i n)]⟩) (fun n => [.slr 33 (rdL (srtE xss n))]) (fun n => n ≤ xss.length) (fun n => xss.length - n) 0 (by omega) ⟨lee rfl (by (repeat (first | exact le_nil | refine le_eq rfl rfl ?_))), by (repeat (first | exact lo_nil | refine lo_eq rfl ?_)), rfl, (by first | exact rfl | (simp only [List.map_cons, List.map_nil, AO.lim, map_ints_lim]; done))⟩ ?_
    rintro n n0
    have hsl := srtE_len xss n n0
    have c0 := b0 n
    have c1 := b1 n
    by_cases hlt : n < xss.length
    · obtain ⟨a1, a2, a3⟩ := seRow hr n hlt
      have s0 := sS_take_succ E0 xss n hlt
      have s1 := sS_take_succ E1 xss n hlt
      have eg : xss.getD n [] = gets xss (n : Nat) := by simp [gets, List.getD_eq_getElem?_getD]
      rw [eg] at s0 s1
      simp only [E0, E1] at s0 s1
      have d0 := b0 (n + 1)
      have d1 := b1 (n + 1)
      have e1 : srtE xss (n + 1) = insE (gets xss (n : Nat)) (srtE xss n) := by rw [srtE, eg]
      have hsr : ∀ j : Nat, j < (srtE xss n).length → E60 ((srtE xss n).getD j []) := fun j hj => hr _ (srtE_mem n0 (by rw [List.getD_eq_getElem?_getD, List.getElem?_eq_getElem hj]; exact List.getElem_mem _))
      repeat' (first | (apply AOps.nil; try simp only [List.nil_append, List.cons_append, List.set_cons_zero, List.set_cons_succ, List.length_cons, List.length_nil, Nat.reduceAdd, AV.sh, AV.sh1, AV.sh0, AO.sh, List.map_cons, List.map_nil, Nat.zero_add, Nat.add_zero, setAll]) | (apply w_move; exact rfl; exact rfl) | (apply w_assign; exact rfl; exact rfl) | apply AWp.seq | apply AWp.region | ((apply AWp.condP; exact rfl) <;> intro h) | apply AWp.block | apply AWp.exit | apply AWp.skip | (apply w_len; exact rfl; exact rfl; first | exact .ints _ | exact .intss _ | exact .sli rfl | exact .sls rfl | exact .slr rfl | exact .orow rfl | exact .nil) | omega | ((first | apply w_lss | apply w_add | apply w_idx | apply w_ld); iterate 3 exact rfl) | ((first | apply w_idxs | apply w_lds); iterate 3 exact rfl) | (apply inI_of <;> omega))
      generalize gets xss (n : Nat) = e at *
      generalize srtE xss n = S at *
      refine AWp.loop (ι := Nat) (fun k => ⟨165, [(0, .intss xss), (4, .own 0), (5, .i (sS E0 (xss.take n) + geti e 0)), (6, .i (sS E1 (xss.take n) + geti e 1)), (8, .i n), (9, .ints e), (10, .i k)]⟩) (fun k => [.slr 33 (rdL S)]) (fun k => k ≤ S.length ∧ ∀ j, j < k → 0 ≤ wS (S.getD j []) e) (fun k => S.length - k) 0 ⟨by omega, fun j hj => by omega⟩ ⟨lee rfl (by (repeat (first | exact le_nil | refine le_eq rfl rfl ?_))), by (repeat (first | exact lo_nil | refine lo_eq rfl ?_)), rfl, (by first | exact rfl | (simp only [List.map_cons, List.map_nil, AO.lim, map_ints_lim]; done))⟩ ?_
      rintro k ⟨k0, k1⟩
      by_cases hk : k < S.length
      · obtain ⟨q1, q2, q3⟩ := hsr k hk
        have m1 := mulPB (x := geti (S.getD (k : Int).toNat []) 1) (y := geti e 0) (by rw [Int.toNat_natCast]; omega) (by omega)
        have m2 := mulPB (x := geti e 1) (y := geti (S.getD (k : Int).toNat []) 0) (by omega) (by rw [Int.toNat_natCast]; omega)
        have q1' : (S.getD (k : Int).toNat []).length = 2 := q1
        have hdw : wS (S.getD k []) e = geti (S.getD (k : Int).toNat []) 1 * geti e 0 - geti e 1 * geti (S.getD (k : Int).toNat []) 0 := by
          rw [Int.toNat_natCast]; unfold wS; rw [Int.mul_comm (geti e 1)]
        by_cases hw : 0 ≤ wS (S.getD k []) e
        · repeat' (first | (apply AOps.nil; try simp only [List.nil_append, List.cons_append, List.set_cons_zero, List.set_cons_succ, List.length_cons, List.length_nil, Nat.reduceAdd, AV.sh, AV.sh1, AV.sh0, AO.sh, List.map_cons, List.map_nil, Nat.zero_add, Nat.add_zero, setAll]) | ((apply AOps.splitP; exact rfl; exact rfl) <;> intro h) | (apply w_move; exact rfl; exact rfl) | (apply w_assign; exact rfl; exact rfl) | apply AWp.seq | apply AWp.region | ((apply AWp.condP; exact rfl) <;> intro h) | (apply AWp.condF; exact rfl) | apply AWp.block | apply AWp.exit | apply AWp.skip | (apply AWp.regionQ; kernel_rfl; kernel_rfl) | (apply w_skip; exact rfl) | (apply w_pickT; exact rfl; exact rfl; exact rfl) | (apply w_pickF; exact rfl; exact rfl; exact rfl) | ((first | apply w_leni | apply w_lss | apply w_geq | apply w_add | apply w_mul | apply w_idx | apply w_ld | apply w_sllo); iterate 3 exact rfl) | (apply w_bsi1; exact rfl; exact rfl; try simp only [List.nil_append, List.cons_append, List.set_cons_zero, List.set_cons_succ, List.length_cons, List.length_nil, Nat.reduceAdd, AV.sh, AV.sh1, AV.sh0, AO.sh, List.map_cons, List.map_nil, Nat.zero_add, Nat.add_zero, setAll]) | (apply w_idxi; iterate 4 exact rfl) | (apply w_ldri; iterate 4 exact rfl) | ((apply w_slrlo); iterate 4 exact rfl) | (apply w_appisub; exact rfl; exact rfl; exact rfl; exact rfl; exact rfl; rotate_left 2; simp only [Env.mp, List.map_cons, List.map_nil, List.set_cons_zero, List.set_cons_succ, AV.kill, AV.kill1, AO.kill, AV.lose, AV.lose1, map_ints_kill, AV.noRow, AV.noRow1, AO.via, reduceIte, Nat.reduceEqDiff, Nat.reduceLT, Env.up, Nat.zero_ne_one, Nat.one_ne_zero, Nat.reduceAdd, List.cons_append, List.nil_append]; rotate_left 1) | omega | (apply inI_of <;> omega))
          refine ⟨k + 1, ⟨hk, fun j hj => ?_⟩, by omega, ⟨lee rfl (by (repeat (first | exact le_nil | refine le_eq rfl rfl ?_))), by (repeat (first | exact lo_nil | refine lo_eq rfl ?_)), rfl, (by first | exact rfl | (simp only [List.map_cons, List.map_nil, AO.lim, map_ints_lim]; done))⟩⟩
          by_cases ej : j = k
          · subst ej; exact hw
          · exact k1 j (by omega)
        · have hat := insE_at e S k k0 k1 (.inr (by omega))
          rw [hat] at e1
          repeat' (first | (apply AOps.nil; try simp only [List.nil_append, List.cons_append, List.set_cons_zero, List.set_cons_succ, List.length_cons, List.length_nil, Nat.reduceAdd, AV.sh, AV.sh1, AV.sh0, AO.sh, List.map_cons, List.map_nil, Nat.zero_add, Nat.add_zero, setAll]) | ((apply AOps.splitP; exact rfl; exact rfl) <;> intro h) | (apply w_move; exact rfl; exact rfl) | (apply w_assign; exact rfl; exact rfl) | apply AWp.seq | apply AWp.region | ((apply AWp.condP; exact rfl) <;> intro h) | (apply AWp.condF; exact rfl) | apply AWp.block | apply AWp.exit | apply AWp.skip | (apply AWp.regionQ; kernel_rfl; kernel_rfl) | (apply w_skip; exact rfl) | (apply w_pickT; exact rfl; exact rfl; exact rfl) | (apply w_pickF; exact rfl; exact rfl; exact rfl) | ((first | apply w_leni | apply w_lss | apply w_geq | apply w_add | apply w_mul | apply w_idx | apply w_ld | apply w_sllo); iterate 3 exact rfl) | (apply w_bsi1; exact rfl; exact rfl; try simp only [List.nil_append, List.cons_append, List.set_cons_zero, List.set_cons_succ, List.length_cons, List.length_nil, Nat.reduceAdd, AV.sh, AV.sh1, AV.sh0, AO.sh, List.map_cons, List.map_nil, Nat.zero_add, Nat.add_zero, setAll]) | (apply w_idxi; iterate 4 exact rfl) | (apply w_ldri; iterate 4 exact rfl) | ((apply w_slrlo); iterate 4 exact rfl) | (apply w_appisub; exact rfl; exact rfl; exact rfl; exact rfl; exact rfl; rotate_left 2; simp only [Env.mp, List.map_cons, List.map_nil, List.set_cons_zero, List.set_cons_succ, AV.kill, AV.kill1, AO.kill, AV.lose, AV.lose1, map_ints_kill, AV.noRow, AV.noRow1, AO.via, reduceIte, Nat.reduceEqDiff, Nat.reduceLT, Env.up, Nat.zero_ne_one, Nat.one_ne_zero, Nat.reduceAdd, List.cons_append, List.nil_append]; rotate_left 1) | omega | (apply inI_of <;> omega) | (simp <;> omega))
          refine w_bsi0 rfl ?_
          try simp only [List.nil_append, List.cons_append, List.set_cons_zero, List.set_cons_succ, List.length_cons, List.length_nil, Nat.reduceAdd, AV.sh, AV.sh1, AV.sh0, AO.sh, List.map_cons, List.map_nil, Nat.zero_add, Nat.add_zero, setAll]
          repeat' (first | (apply AOps.nil; try simp only [List.nil_append, List.cons_append, List.set_cons_zero, List.set_cons_succ, List.length_cons, List.length_nil, Nat.reduceAdd, AV.sh, AV.sh1, AV.sh0, AO.sh, List.map_cons, List.map_nil, Nat.zero_add, Nat.add_zero, setAll]) | (apply w_move; exact rfl; exact rfl) | (apply w_assign; exact rfl; exact rfl) | apply AWp.region | ((first | apply w_add | apply w_slhi); iterate 3 exact rfl) | ((apply w_slrhi); iterate 4 exact rfl) | (apply w_appisub; exact rfl; exact rfl; exact rfl; exact rfl; exact rfl; rotate_left 2; simp only [Env.mp, List.map_cons, List.map_nil, List.set_cons_zero, List.set_cons_succ, AV.kill, AV.kill1, AO.kill, AV.lose, AV.lose1, map_ints_kill, AV.noRow, AV.noRow1, AO.via, reduceIte, Nat.reduceEqDiff, Nat.reduceLT, Env.up, Nat.zero_ne_one, Nat.one_ne_zero, Nat.reduceAdd, List.cons_append, List.nil_append]; rotate_left 1) | (apply w_appislr; exact rfl; exact rfl; exact rfl; exact rfl; exact rfl; rotate_left 1; simp only [Env.mp, List.map_cons, List.map_nil, List.set_cons_zero, List.set_cons_succ, AV.kill, AV.kill1, AO.kill, AV.lose, AV.lose1, map_ints_kill, AV.noRow, AV.noRow1, AO.via, reduceIte, Nat.reduceEqDiff, Nat.reduceLT, Env.up, Nat.zero_ne_one, Nat.one_ne_zero, Nat.reduceAdd, List.cons_append, List.nil_append]; rotate_left 1) | omega | (apply inI_of <;> omega) | (simp <;> omega))
          have key : (S.drop 0).take (k : Int).toNat ++ e :: (S.drop (k : Int).toNat).take (S.length - (k : Int).toNat) = srtE xss (n + 1) := by
            rw [e1, Int.toNat_natCast, List.drop_zero, List.take_of_length_le (l := S.drop k) (by simp)]
          rw [key]
          refine ⟨n + 1, by omega, by omega, ?_⟩
          (apply Or.inr; refine ⟨[2], ⟨by decide, fun x hx => Nat.lt_of_lt_of_le ((by decide : ∀ x ∈ ([2] : List Nat), x < 3) x hx) (Nat.le_of_ble_eq_true rfl)⟩, lee rfl ?_, ?_, rfl, (by first | exact rfl | (simp only [List.map_cons, List.map_nil, AO.lim, map_ints_lim]; done))⟩; (focus ((repeat (first | exact le_nil | refine le_eq rfl rfl ?_ | (refine le_eq rfl (congrArg AV.i ?_) ?_; (focus (omega; done))))); done)); (focus ((repeat (first | exact lo_nil | refine lo_eq (congrArg (AO.slr _) (map_ints_ren _ _)) ?_)); done)))
      · have ek : k = S.length := by omega
        have hat := insE_at e S k k0 k1 (.inl ek)
        rw [hat] at e1
        repeat' (first | (apply AOps.nil; try simp only [List.nil_append, List.cons_append, List.set_cons_zero, List.set_cons_succ, List.length_cons, List.length_nil, Nat.reduceAdd, AV.sh, AV.sh1, AV.sh0, AO.sh, List.map_cons, List.map_nil, Nat.zero_add, Nat.add_zero, setAll]) | ((apply AOps.splitP; exact rfl; exact rfl) <;> intro h) | (apply w_move; exact rfl; exact rfl) | (apply w_assign; exact rfl; exact rfl) | apply AWp.seq | apply AWp.region | ((apply AWp.condP; exact rfl) <;> intro h) | (apply AWp.condF; exact rfl) | apply AWp.block | apply AWp.exit | apply AWp.skip | (apply AWp.regionQ; kernel_rfl; kernel_rfl) | (apply w_skip; exact rfl) | (apply w_pickT; exact rfl; exact rfl; exact rfl) | (apply w_pickF; exact rfl; exact rfl; exact rfl) | ((first | apply w_leni | apply w_lss | apply w_geq | apply w_add | apply w_mul | apply w_idx | apply w_ld | apply w_sllo); iterate 3 exact rfl) | (apply w_bsi1; exact rfl; exact rfl; try simp only [List.nil_append, List.cons_append, List.set_cons_zero, List.set_cons_succ, List.length_cons, List.length_nil, Nat.reduceAdd, AV.sh, AV.sh1, AV.sh0, AO.sh, List.map_cons, List.map_nil, Nat.zero_add, Nat.add_zero, setAll]) | (apply w_idxi; iterate 4 exact rfl) | (apply w_ldri; iterate 4 exact rfl) | ((apply w_slrlo); iterate 4 exact rfl) | (apply w_appisub; exact rfl; exact rfl; exact rfl; exact rfl; exact rfl; rotate_left 2; simp only [Env.mp, List.map_cons, List.map_nil, List.set_cons_zero, List.set_cons_succ, AV.kill, AV.kill1, AO.kill, AV.lose, AV.lose1, map_ints_kill, AV.noRow, AV.noRow1, AO.via, reduceIte, Nat.reduceEqDiff, Nat.reduceLT, Env.up, Nat.zero_ne_one, Nat.one_ne_zero, Nat.reduceAdd, List.cons_append, List.nil_append]; rotate_left 1) | omega | (simp <;> omega))
        refine w_bsi0 rfl ?_
        try simp only [List.nil_append, List.cons_append, List.set_cons_zero, List.set_cons_succ, List.length_cons, List.length_nil, Nat.reduceAdd, AV.sh, AV.sh1, AV.sh0, AO.sh, List.map_cons, List.map_nil, Nat.zero_add, Nat.add_zero, setAll]
        repeat' (first | (apply AOps.nil; try simp only [List.nil_append, List.cons_append, List.set_cons_zero, List.set_cons_succ, List.length_cons, List.length_nil, Nat.reduceAdd, AV.sh, AV.sh1, AV.sh0, AO.sh, List.map_cons, List.map_nil, Nat.zero_add, Nat.add_zero, setAll]) | (apply w_move; exact rfl; exact rfl) | (apply w_assign; exact rfl; exact rfl) | apply AWp.region | ((first | apply w_add | apply w_slhi); iterate 3 exact rfl) | ((apply w_slrhi); iterate 4 exact rfl) | (apply w_appisub; exact rfl; exact rfl; exact rfl; exact rfl; exact rfl; rotate_left 2; simp only [Env.mp, List.map_cons, List.map_nil, List.set_cons_zero, List.set_cons_succ, AV.kill, AV.kill1, AO.kill, AV.lose, AV.lose1, map_ints_kill, AV.noRow, AV.noRow1, AO.via, reduceIte, Nat.reduceEqDiff, Nat.reduceLT, Env.up, Nat.zero_ne_one, Nat.one_ne_zero, Nat.reduceAdd, List.cons_append, List.nil_append]; rotate_left 1) | (apply w_appislr; exact rfl; exact rfl; exact rfl; exact rfl; exact rfl; rotate_left 1; simp only [Env.mp, List.map_cons, List.map_nil, List.set_cons_zero, List.set_cons_succ, AV.kill, AV.kill1, AO.kill, AV.lose, AV.lose1, map_ints_kill, AV.noRow, AV.noRow1, AO.via, reduceIte, Nat.reduceEqDiff, Nat.reduceLT, Env.up, Nat.zero_ne_one, Nat.one_ne_zero, Nat.reduceAdd, List.cons_append, List.nil_append]; rotate_left 1) | omega | (apply inI_of <;> omega) | (simp <;> omega))
        have key : (S.drop 0).take (k : Int).toNat ++ e :: (S.drop (k : Int).toNat).take (S.length - (k : Int).toNat) = srtE xss (n + 1) := by
          rw [e1, Int.toNat_natCast, List.drop_zero, List.take_of_length_le (l := S.drop k) (by simp)]
        rw [key]
        refine ⟨n + 1, by omega, by omega, ?_⟩
        (apply Or.inr; refine ⟨[2], ⟨by decide, fun x hx => Nat.lt_of_lt_of_le ((by decide : ∀ x ∈ ([2] : List Nat), x < 3) x hx) (Nat.le_of_ble_eq_true rfl)⟩, lee rfl ?_, ?_, rfl, (by first | exact rfl | (simp only [List.map_cons, List.map_nil, AO.lim, map_ints_lim]; done))⟩; (focus ((repeat (first | exact le_nil | refine le_eq rfl rfl ?_ | (refine le_eq rfl (congrArg AV.i ?_) ?_; (focus (omega; done))))); done)); (focus ((repeat (first | exact lo_nil | refine lo_eq (congrArg (AO.slr _) (map_ints_ren _ _)) ?_)); done)))
    · have en : n = xss.length := by omega
      subst en
      rw [List.take_length] at c0 c1
      rw [List.take_length]
      by_cases h2 : 60 < sS E0 xss ∨ 60 < sS E1 xss
      · obtain ⟨e1, e2⟩ := seE_lim ⟨hl, hr⟩ h2
        repeat' (first | (apply AOps.nil; try simp only [List.nil_append, List.cons_append, List.set_cons_zero, List.set_cons_succ, List.length_cons, List.length_nil, Nat.reduceAdd, AV.sh, AV.sh1, AV.sh0, AO.sh, List.map_cons, List.map_nil, Nat.zero_add, Nat.add_zero, setAll]) | ((apply AOps.splitP; exact rfl; exact rfl) <;> intro h) | (apply w_move; exact rfl; exact rfl) | (apply w_assign; exact rfl; exact rfl) | apply AWp.seq | apply AWp.region | ((apply AWp.condP; exact rfl) <;> intro h) | (apply AWp.condT; exact rfl) | apply AWp.block | apply AWp.ret | apply AWp.exit | apply AWp.skip | (apply w_skip; exact rfl) | (apply w_pickT; exact rfl; exact rfl; exact rfl) | (apply w_pickF; exact rfl; exact rfl; exact rfl) | ((first | apply w_leni | apply w_lss | apply w_gtr | apply w_idx | apply w_bs2); iterate 3 exact rfl) | (apply w_len; exact rfl; exact rfl; first | exact .ints _ | exact .intss _ | exact .sli rfl | exact .sls rfl | exact .slr rfl | exact .orow rfl | exact .nil) | omega)
        all_goals exact ⟨_, _, _, .a2 Try.results7 rfl rfl, .tup2 (.nils 33 2), by rw [e1], by rw [e2]⟩
      · obtain ⟨e1, e2⟩ := seE_ok ⟨hl, hr⟩ h2
        have hS : ∀ s ∈ srtE xss xss.length, E60 s := fun s hs => hr s (srtE_mem (Nat.le_refl _) hs)
        have hsum0 : sS E0 (srtE xss xss.length) = sS E0 xss := sS_perm _ (srtE_all xss)
        have hsum1 : sS E1 (srtE xss xss.length) = sS E1 xss := sS_perm _ (srtE_all xss)
        rw [e1, e2]
        generalize srtE xss xss.length = S at *
        obtain ⟨p, ep⟩ : ∃ p, p = [0, sS E1 xss] := ⟨_, rfl⟩
        have p0 : geti p 0 = 0 := by rw [ep]; rfl
        have p1 : geti p 1 = sS E1 xss := by rw [ep]; rfl
        have hp : p.length = 2 := by rw [ep]; rfl
        have hbox := fun q => @vfP_box S (fun s hs => by have := hS s hs; unfold E60 at this; omega) p q
        have hv0 : (vfP p S).take 1 = [p] := by
          obtain ⟨r, hr⟩ := vfP_ne p S
          rw [hr]; rfl
        have hlen := vfP_len S p
        rw [← ep]
        repeat' (first | (apply AOps.nil; try simp only [List.nil_append, List.cons_append, List.set_cons_zero, List.set_cons_succ, List.length_cons, List.length_nil, Nat.reduceAdd, AV.sh, AV.sh1, AV.sh0, AO.sh, List.map_cons, List.map_nil, Nat.zero_add, Nat.add_zero, setAll]) | ((apply AOps.splitP; exact rfl; exact rfl) <;> intro h) | (apply w_move; exact rfl; exact rfl) | (apply w_assign; exact rfl; exact rfl) | apply AWp.seq | apply AWp.region | ((apply AWp.condP; exact rfl) <;> intro h) | (apply AWp.condT; exact rfl) | apply AWp.block | apply AWp.ret | apply AWp.exit | apply AWp.skip | (apply w_skip; exact rfl) | (apply w_pickT; exact rfl; exact rfl; exact rfl) | (apply w_pickF; exact rfl; exact rfl; exact rfl) | ((first | apply w_leni | apply w_lss | apply w_gtr | apply w_idx | apply w_bs2); iterate 3 exact rfl) | (apply w_len; exact rfl; exact rfl; first | exact .ints _ | exact .intss _ | exact .sli rfl | exact .sls rfl | exact .slr rfl | exact .orow rfl | exact .nil) | (apply w_bsr1s; exact rfl; exact rfl; exact rfl; exact rfl; simp only [Env.mp, List.map_cons, List.map_nil, List.set_cons_zero, List.set_cons_succ, AV.kill, AV.kill1, AO.kill, map_ints_rin, map_ints_kill, AV.rin, AV.rin1, AV.noRow, AV.noRow1, AO.via, reduceIte, Nat.reduceEqDiff, Nat.reduceLT, Env.up, Nat.zero_ne_one, Nat.one_ne_zero, Nat.reduceAdd, List.cons_append, List.nil_append]) | omega | (apply inI_of <;> omega))
        rw [← ep]
        refine AWp.loop (ι := Nat) (fun n => ⟨165, [(4, .own 0), (12, .own 2), (13, .i n)]⟩) (fun n => [.slr 33 (rdL S), .dead, .sls 33 2 ((vfP p S).take (n + 1))]) (fun n => n ≤ S.length) (fun n => S.length - n) 0 (by omega) (by rw [hv0]; exact ⟨lee rfl (by (repeat (first | exact le_nil | refine le_eq rfl rfl ?_))), by (repeat (first | exact lo_nil | refine lo_dead ?_ | refine lo_eq rfl ?_)), rfl, (by first | exact rfl | (simp only [List.map_cons, List.map_nil, AO.lim, map_ints_lim]; done))⟩) ?_
        rintro n n1
        have hk : ((vfP p S).take (n + 1)).length = n + 1 := by rw [List.length_take]; omega
        by_cases hlt : n < S.length
        · have hrow : (S.getD (n : Int).toNat []).length = 2 := (hS _ (by rw [Int.toNat_natCast, List.getD_eq_getElem?_getD, List.getElem?_eq_getElem hlt]; exact List.getElem_mem _)).1
          have hq := hbox ((vfP p S).getD n []) (by rw [List.getD_eq_getElem?_getD, List.getElem?_eq_getElem (by omega)]; exact List.getElem_mem _)
          have hq2 := hbox ((vfP p S).getD (n + 1) []) (by rw [List.getD_eq_getElem?_getD, List.getElem?_eq_getElem (by omega)]; exact List.getElem_mem _)
          have hs := vfP_succ S p n hlt
          have hql : ((vfP p S).getD n []).length = 2 := vfP_row hp _ (by rw [List.getD_eq_getElem?_getD, List.getElem?_eq_getElem (by omega)]; exact List.getElem_mem _)
          have et : ((vfP p S).take (n + 1)).getD n [] = (vfP p S).getD n [] := take_gets _ _ _ (by omega)
          rw [hs] at hq2
          simp only [geti_p0, geti_p1] at hq2
          have e3 := vfP_take S p n hlt
          rw [← et] at hq hq2 e3 hql
          generalize eV : (vfP p S).take (n + 1) = V at *
          have el' : ((V.length : Int) - 1).toNat = n := by omega
          have hq' := hq
          have hql' := hql
          rw [← el'] at hq' hql'
          have hq3 : (geti p 0 ≤ geti (V.getD n []) ((Int.toNat 0 : Nat) : Int) + geti (S.getD (n : Int).toNat []) 0 ∧ geti (V.getD n []) ((Int.toNat 0 : Nat) : Int) + geti (S.getD (n : Int).toNat []) 0 ≤ geti p 0 + sS E0 S) ∧ (geti p 1 - sS E1 S ≤ geti (V.getD n []) ((Int.toNat 1 : Nat) : Int) - geti (S.getD (n : Int).toNat []) 1 ∧ geti (V.getD n []) ((Int.toNat 1 : Nat) : Int) - geti (S.getD (n : Int).toNat []) 1 ≤ geti p 1) := hq2
          repeat' (first | (apply AOps.nil; try simp only [List.nil_append, List.cons_append, List.set_cons_zero, List.set_cons_succ, List.length_cons, List.length_nil, Nat.reduceAdd, AV.sh, AV.sh1, AV.sh0, AO.sh, List.map_cons, List.map_nil, Nat.zero_add, Nat.add_zero, setAll]) | (apply w_move; exact rfl; exact rfl) | (apply w_assign; exact rfl; exact rfl) | apply AWp.seq | apply AWp.region | ((apply AWp.condP; exact rfl) <;> intro h) | apply AWp.block | apply AWp.exit | apply AWp.skip | ((first | apply w_leni | apply w_lss | apply w_sub | apply w_idx | apply w_ld); iterate 3 exact rfl) | (apply w_len; exact rfl; exact rfl; first | exact .ints _ | exact .intss _ | exact .sli rfl | exact .sls rfl | exact .slr rfl | exact .orow rfl | exact .nil) | omega | (apply w_idxo; exact rfl; exact rfl; (exact .sls rfl); exact rfl) | (apply w_ldls; iterate 4 exact rfl) | (apply inI_of <;> omega))
          refine AWp.regionG [] (by kernel_rfl) (envC := ⟨165, [(4, .own 0), (12, .own 2), (13, .i n)]⟩) (osC := [.slr 33 (rdL S), .dead, .sls 33 2 (V ++ [[geti (V.getD n []) 0 + geti (S.getD n []) 0, geti (V.getD n []) 1 - geti (S.getD n []) 1]])]) rfl (by first | exact rfl | (simp only [List.map_cons, List.map_nil, AO.lim, map_ints_lim]; done)) ?_ ?_
          · rw [el']
            repeat' (first | (apply AOps.nil; try simp only [List.nil_append, List.cons_append, List.set_cons_zero, List.set_cons_succ, List.length_cons, List.length_nil, Nat.reduceAdd, AV.sh, AV.sh1, AV.sh0, AO.sh, List.map_cons, List.map_nil, Nat.zero_add, Nat.add_zero, setAll]) | (apply w_move; exact rfl; exact rfl) | (apply w_assign; exact rfl; exact rfl) | ((first | apply w_bsr1 | apply w_add | apply w_sub | apply w_idx | apply w_ld | apply w_bs2); iterate 3 exact rfl) | (apply w_appr; exact rfl; exact rfl; exact rfl; exact rfl; exact rfl; exact rfl; exact rfl; rotate_left 1; simp only [Env.mp, List.map_cons, List.map_nil, List.set_cons_zero, List.set_cons_succ, AV.kill, AV.kill1, AO.kill, map_ints_rin, map_ints_kill, AV.rin, AV.rin1, AV.noRow, AV.noRow1, AO.via, reduceIte, Nat.reduceEqDiff, Nat.reduceLT, Env.up, Nat.zero_ne_one, Nat.one_ne_zero, Nat.reduceAdd, List.cons_append, List.nil_append]; rotate_left 1) | (apply w_idxi; iterate 4 exact rfl) | (apply w_ldri; iterate 4 exact rfl) | apply AllOfG.nil | (apply AllOfG.consS; exact rfl; exact rfl) | (apply AAnyG.takeW; exact rfl; exact rfl; kernel_rfl; kernel_rfl) | (apply AAnyG.takeL; exact rfl; exact rfl; kernel_rfl) | (apply AAnyG.all; exact rfl) | (apply AAnyG.done; exact rfl) | omega | ((first | apply w_idxr | apply w_ldr); iterate 4 exact rfl) | (apply w_ldrp; iterate 4 exact rfl) | (apply inI_of <;> omega))
            all_goals (apply Or.inl; refine ⟨lee rfl ?_, ?_, rfl, (by first | exact rfl | (simp only [List.map_cons, List.map_nil, AO.lim, map_ints_lim]; done))⟩; (focus ((repeat (first | exact le_nil | refine le_eq rfl rfl ?_)); done)); (focus ((repeat (first | exact lo_nil | refine lo_dead ?_ | refine lo_eq rfl ?_)); done)))
          repeat' (first | (apply AOps.nil; try simp only [List.nil_append, List.cons_append, List.set_cons_zero, List.set_cons_succ, List.length_cons, List.length_nil, Nat.reduceAdd, AV.sh, AV.sh1, AV.sh0, AO.sh, List.map_cons, List.map_nil, Nat.zero_add, Nat.add_zero, setAll]) | (apply w_move; exact rfl; exact rfl) | (apply w_assign; exact rfl; exact rfl) | apply AWp.region | ((apply w_add); iterate 3 exact rfl) | (apply inI_of <;> omega))
          rw [e3]
          exact ⟨n + 1, by omega, by omega, ⟨lee rfl (by (repeat (first | exact le_nil | refine le_eq rfl rfl ?_))), by (repeat (first | exact lo_nil | refine lo_dead ?_ | refine lo_eq rfl ?_)), rfl, (by first | exact rfl | (simp only [List.map_cons, List.map_nil, AO.lim, map_ints_lim]; done))⟩⟩
        · have en : n = S.length := by omega
          subst en
          have ea : (vfP p S).take (S.length + 1) = vfP p S := List.take_of_length_le (by omega)
          rw [ea]
          have hSl : S.length ≤ 60 := by omega
          have hver := l15Vertices_c (vfP p S) (by omega) (by omega) (fun r hr => ⟨vfP_row hp r hr, by have := hbox r hr; omega⟩)
          repeat' (first | (apply AOps.nil; try simp only [List.nil_append, List.cons_append, List.set_cons_zero, List.set_cons_succ, List.length_cons, List.length_nil, Nat.reduceAdd, AV.sh, AV.sh1, AV.sh0, AO.sh, List.map_cons, List.map_nil, Nat.zero_add, Nat.add_zero, setAll]) | (apply w_move; exact rfl; exact rfl) | (apply w_assign; exact rfl; exact rfl) | apply AWp.seq | apply AWp.region | ((apply AWp.condP; exact rfl) <;> intro h) | apply AWp.block | apply AWp.ret | apply AWp.exit | apply AWp.skip | ((first | apply w_leni | apply w_lss | apply w_sub | apply w_idx); iterate 3 exact rfl) | (apply w_len; exact rfl; exact rfl; first | exact .ints _ | exact .intss _ | exact .sli rfl | exact .sls rfl | exact .slr rfl | exact .orow rfl | exact .nil) | (apply w_callm (hver); (focus ((repeat (first | exact im_nil | refine im_cons rfl (.sls rfl) ?_)); done)); rintro r os0 ⟨rfl, rfl⟩; try simp only [List.nil_append, List.cons_append, List.set_cons_zero, List.set_cons_succ, List.length_cons, List.length_nil, Nat.reduceAdd, AV.sh, AV.sh1, AV.sh0, AO.sh, List.map_cons, List.map_nil, Nat.zero_add, Nat.add_zero, setAll]) | omega)
          exact ⟨_, _, _, .a2 Try.results7 rfl rfl, .tup2 (.sls rfl), rfl, rfl⟩
end Go.Proofs.Ytfaeiphgenddkaa
/-
  The program's polygon of edges. No condition.
-/
namespace Go.Proofs.Ytfaeiphgenddkaa
open Go Go.RowKit
attribute [local irreducible] AWp AOps ResIs Ret1 QOp LOp COp AFnV AFn Imms LeE LeO
set_option maxHeartbeats 1000000
set_option linter.unusedSimpArgs false
set_option linter.unusedVariables false

theorem sum60 {xss : List (List Int)} (hr : ∀ e ∈ xss, E60 e) : (0 ≤ sS E0 xss ∧ sS E0 xss ≤ 60 * xss.length) ∧ (0 ≤ sS E1 xss ∧ sS E1 xss ≤ 60 * xss.length) := by
  have b0 := sS_take_le (F := E0) (B := 60) (by decide) (xss := xss) (fun x hx => by have := (hr x hx).2.1; simp only [E0]; omega) xss.length
  have b1 := sS_take_le (F := E1) (B := 60) (by decide) (xss := xss) (fun x hx => by have := (hr x hx).2.2; simp only [E1]; omega) xss.length
  rw [List.take_length] at b0 b1
  exact ⟨b0, b1⟩

set_option maxHeartbeats 8000000 in
theorem implSupportOfEdges_c (xss : List (List Int)) : AFn Try.prog 9 [.intss xss] (IsSSC 33 2 (seL xss) (seE xss)) := by
  (refine AFn.start Try.func9 Try.ntmps9 rfl (by kernel_rfl) fun hk => ?_; simp only [Env.start, enumF, List.length_cons, List.length_nil, Nat.reduceAdd, Nat.reduceSub, List.cons_append, List.nil_append])
  by_cases hl : 1 ≤ xss.length ∧ xss.length ≤ 60
  case neg =>
    obtain ⟨e1, e2⟩ := seE_bad (xss := xss) fun h => hl h.1
    repeat' (first | (apply AOps.nil; try simp only [List.nil_append, List.cons_append, List.set_cons_zero, List.set_cons_succ, List.length_cons, List.length_nil, Nat.reduceAdd, AV.sh, AV.sh1, AV.sh0, AO.sh, List.map_cons, List.map_nil, Nat.zero_add, Nat.add_zero, setAll]) | ((apply AOps.splitP; exact rfl; exact rfl) <;> intro h) | (apply w_move; exact rfl; exact rfl) | (apply w_assign; exact rfl; exact rfl) | apply AWp.seq | apply AWp.region | ((apply AWp.condP; exact rfl) <;> intro h) | (apply AWp.condT; exact rfl) | apply AWp.block | apply AWp.ret | apply AWp.skip | (apply w_skip; exact rfl) | (apply w_pickT; exact rfl; exact rfl; exact rfl) | (apply w_pickF; exact rfl; exact rfl; exact rfl) | (apply w_len; exact rfl; exact rfl; first | exact .ints _ | exact .intss _ | exact .sli rfl | exact .sls rfl | exact .slr rfl | exact .orow rfl | exact .nil) | omega | ((first | apply w_lss | apply w_gtr); iterate 3 exact rfl))
    all_goals exact ⟨_, _, _, .a2 Try.results9 rfl rfl, .tup2 (.nils 33 2), by rw [e1], by rw [e2]⟩
  repeat' (first | (apply AOps.nil; try simp only [List.nil_append, List.cons_append, List.set_cons_zero, List.set_cons_succ, List.length_cons, List.length_nil, Nat.reduceAdd, AV.sh, AV.sh1, AV.sh0, AO.sh, List.map_cons, List.map_nil, Nat.zero_add, Nat.add_zero, setAll]) | ((apply AOps.splitP; exact rfl; exact rfl) <;> intro h) | (apply w_move; exact rfl; exact rfl) | (apply w_assign; exact rfl; exact rfl) | apply AWp.seq | apply AWp.region | ((apply AWp.condP; exact rfl) <;> intro h) | (apply AWp.condT; exact rfl) | apply AWp.block | apply AWp.ret | apply AWp.skip | (apply w_skip; exact rfl) | (apply w_pickT; exact rfl; exact rfl; exact rfl) | (apply w_pickF; exact rfl; exact rfl; exact rfl) | (apply w_len; exact rfl; exact rfl; first | exact .ints _ | exact .intss _ | exact .sli rfl | exact .sls rfl | exact .slr rfl | exact .orow rfl | exact .nil) | omega | ((first | apply w_lss | apply w_gtr); iterate 3 exact rfl))
  by_cases hr : ∀ e ∈ xss, E60 e
  case neg =>
    obtain ⟨b, hb, hbad⟩ := bad_row hr
    obtain ⟨e1, e2⟩ := seE_bad (xss := xss) fun h => hr h.2
    refine AWp.loop (ι := Nat) (fun i => ⟨43, [(4, .i (sS E1 (xss.take i))), (15, .intss xss), (16, .i xss.length), (17, .i i)]⟩) (fun i => []) (fun i => i ≤ b ∧ 0 ≤ sS E1 (xss.take i) ∧ sS E1 (xss.take i) ≤ 60 * i) (fun i => xss.length - i) 0 ⟨by omega, by simp [sS]⟩ ⟨lee rfl (by (repeat (first | exact le_nil | refine le_eq rfl rfl ?_))), by (repeat (exact lo_nil)), rfl, rfl⟩ ?_
    rintro i ⟨h0, h1, h2⟩
    have eg : xss.getD i [] = gets xss (i : Nat) := by simp [gets, List.getD_eq_getElem?_getD]
    have s1 := sS_take_succ E1 xss i (by omega)
    rw [eg] at s1
    simp only [E1] at s1
    by_cases hi : E60 (gets xss (i : Nat))
    · have hne : i ≠ b := fun e => by subst e; exact hbad hi
      obtain ⟨a1, a2, a3⟩ := hi
      have hw := within_c (gets xss (i : Nat)) 1 60
      rw [within2 a1, decide_eq_true (by omega)] at hw
      repeat' (first | (apply AOps.nil; try simp only [List.nil_append, List.cons_append, List.set_cons_zero, List.set_cons_succ, List.length_cons, List.length_nil, Nat.reduceAdd, AV.sh, AV.sh1, AV.sh0, AO.sh, List.map_cons, List.map_nil, Nat.zero_add, Nat.add_zero, setAll]) | ((apply AOps.splitP; exact rfl; exact rfl) <;> intro h) | (apply w_move; exact rfl; exact rfl) | (apply w_assign; exact rfl; exact rfl) | apply AWp.seq | apply AWp.region | ((apply AWp.condP; exact rfl) <;> intro h) | (apply AWp.condT; exact rfl) | (apply AWp.condF; exact rfl) | apply AWp.block | apply AWp.ret | apply AWp.exit | apply AWp.skip | (apply w_skip; exact rfl) | (apply w_pickT; exact rfl; exact rfl; exact rfl) | (apply w_pickF; exact rfl; exact rfl; exact rfl) | (apply w_len; exact rfl; exact rfl; first | exact .ints _ | exact .intss _ | exact .sli rfl | exact .sls rfl | exact .slr rfl | exact .orow rfl | exact .nil) | (apply w_call (hw); exact rfl; exact rfl; focus ((repeat (first | exact im_nil | refine im_cons rfl (.val _) ?_ | refine im_cons rfl (.ints _) ?_)); done)) | omega | ((first | apply w_lss | apply w_neq | apply w_add | apply w_idx | apply w_ld); iterate 3 exact rfl) | ((first | apply w_idxs | apply w_lds); iterate 3 exact rfl) | ((apply w_not); iterate 2 exact rfl) | (apply inI_of <;> omega))
      exact ⟨i + 1, ⟨by omega, by omega⟩, by omega, ⟨lee rfl (by (repeat (first | exact le_nil | refine le_eq rfl rfl ?_ | refine le_eq rfl (congrArg AV.i (by omega)) ?_))), by (repeat (exact lo_nil)), rfl, rfl⟩⟩
    · have hw := within_c (gets xss (i : Nat)) 1 60
      by_cases a1 : (gets xss (i : Nat)).length = 2
      · rw [within2 a1, decide_eq_false (by unfold E60 at hi; omega)] at hw
        repeat' (first | (apply AOps.nil; try simp only [List.nil_append, List.cons_append, List.set_cons_zero, List.set_cons_succ, List.length_cons, List.length_nil, Nat.reduceAdd, AV.sh, AV.sh1, AV.sh0, AO.sh, List.map_cons, List.map_nil, Nat.zero_add, Nat.add_zero, setAll]) | ((apply AOps.splitP; exact rfl; exact rfl) <;> intro h) | (apply w_move; exact rfl; exact rfl) | (apply w_assign; exact rfl; exact rfl) | apply AWp.seq | apply AWp.region | ((apply AWp.condP; exact rfl) <;> intro h) | (apply AWp.condT; exact rfl) | apply AWp.block | apply AWp.ret | apply AWp.exit | apply AWp.skip | (apply w_skip; exact rfl) | (apply w_pickT; exact rfl; exact rfl; exact rfl) | (apply w_pickF; exact rfl; exact rfl; exact rfl) | (apply w_len; exact rfl; exact rfl; first | exact .ints _ | exact .intss _ | exact .sli rfl | exact .sls rfl | exact .slr rfl | exact .orow rfl | exact .nil) | (apply w_call (hw); exact rfl; exact rfl; focus ((repeat (first | exact im_nil | refine im_cons rfl (.val _) ?_ | refine im_cons rfl (.ints _) ?_)); done)) | omega | ((first | apply w_lss | apply w_neq | apply w_idx | apply w_ld); iterate 3 exact rfl) | ((first | apply w_idxs | apply w_lds); iterate 3 exact rfl) | ((apply w_not); iterate 2 exact rfl))
        all_goals exact ⟨_, _, _, .a2 Try.results9 rfl rfl, .tup2 (.nils 33 2), by rw [e1], by rw [e2]⟩
      · repeat' (first | (apply AOps.nil; try simp only [List.nil_append, List.cons_append, List.set_cons_zero, List.set_cons_succ, List.length_cons, List.length_nil, Nat.reduceAdd, AV.sh, AV.sh1, AV.sh0, AO.sh, List.map_cons, List.map_nil, Nat.zero_add, Nat.add_zero, setAll]) | ((apply AOps.splitP; exact rfl; exact rfl) <;> intro h) | (apply w_move; exact rfl; exact rfl) | (apply w_assign; exact rfl; exact rfl) | apply AWp.seq | apply AWp.region | ((apply AWp.condP; exact rfl) <;> intro h) | (apply AWp.condT; exact rfl) | apply AWp.block | apply AWp.ret | apply AWp.exit | apply AWp.skip | (apply w_skip; exact rfl) | (apply w_pickT; exact rfl; exact rfl; exact rfl) | (apply w_len; exact rfl; exact rfl; first | exact .ints _ | exact .intss _ | exact .sli rfl | exact .sls rfl | exact .slr rfl | exact .orow rfl | exact .nil) | (apply w_call (hw); exact rfl; exact rfl; focus ((repeat (first | exact im_nil | refine im_cons rfl (.val _) ?_ | refine im_cons rfl (.ints _) ?_)); done)) | omega | ((first | apply w_lss | apply w_neq | apply w_idx | apply w_ld); iterate 3 exact rfl) | ((first | apply w_idxs | apply w_lds); iterate 3 exact rfl))
        all_goals exact ⟨_, _, _, .a2 Try.results9 rfl rfl, .tup2 (.nils 33 2), by rw [e1], by rw [e2]⟩
  refine AWp.loop (ι := Nat) (fun i => ⟨43, [(0, .intss xss), (4, .i (sS E1 (xss.take i))), (15, .intss xss), (16, .i xss.length), (17, .i i)]⟩) (fun i => []) (fun i => i ≤ xss.length ∧ 0 ≤ sS E1 (xss.take i) ∧ sS E1 (xss.take i) ≤ 60 * i) (fun i => xss.length - i) 0 ⟨by omega, by simp [sS]⟩ ⟨lee rfl (by (repeat (first | exact le_nil | refine le_eq rfl rfl ?_))), by (repeat (exact lo_nil)), rfl, rfl⟩ ?_
  rintro i ⟨h0, h1, h2⟩
  by_cases hi : i < xss.length
  · have eg : xss.getD i [] = gets xss (i : Nat) := by simp [gets, List.getD_eq_getElem?_getD]
    have s1 := sS_take_succ E1 xss i (by omega)
    rw [eg] at s1
    simp only [E1] at s1
    obtain ⟨a1, a2, a3⟩ := seRow hr i hi
    have hw := within_c (gets xss (i : Nat)) 1 60
    rw [within2 a1, decide_eq_true (by omega)] at hw
    repeat' (first | (apply AOps.nil; try simp only [List.nil_append, List.cons_append, List.set_cons_zero, List.set_cons_succ, List.length_cons, List.length_nil, Nat.reduceAdd, AV.sh, AV.sh1, AV.sh0, AO.sh, List.map_cons, List.map_nil, Nat.zero_add, Nat.add_zero, setAll]) | ((apply AOps.splitP; exact rfl; exact rfl) <;> intro h) | (apply w_move; exact rfl; exact rfl) | (apply w_assign; exact rfl; exact rfl) | apply AWp.seq | apply AWp.region | ((apply AWp.condP; exact rfl) <;> intro h) | (apply AWp.condT; exact rfl) | (apply AWp.condF; exact rfl) | apply AWp.block | apply AWp.ret | apply AWp.exit | apply AWp.skip | (apply w_skip; exact rfl) | (apply w_pickT; exact rfl; exact rfl; exact rfl) | (apply w_pickF; exact rfl; exact rfl; exact rfl) | (apply w_len; exact rfl; exact rfl; first | exact .ints _ | exact .intss _ | exact .sli rfl | exact .sls rfl | exact .slr rfl | exact .orow rfl | exact .nil) | (apply w_call (hw); exact rfl; exact rfl; focus ((repeat (first | exact im_nil | refine im_cons rfl (.val _) ?_ | refine im_cons rfl (.ints _) ?_)); done)) | omega | ((first | apply w_lss | apply w_neq | apply w_add | apply w_idx | apply w_ld); iterate 3 exact rfl) | ((first | apply w_idxs | apply w_lds); iterate 3 exact rfl) | ((apply w_not); iterate 2 exact rfl) | (apply inI_of <;> omega))
    exact ⟨i + 1, ⟨by omega, by omega⟩, by omega, ⟨lee rfl (by (repeat (first | exact le_nil | refine le_eq rfl rfl ?_ | refine le_eq rfl (congrArg AV.i (by omega)) ?_))), by (repeat (exact lo_nil)), rfl, rfl⟩⟩
  · have ei : i = xss.length := by omega
    subst ei
    rw [List.take_length] at h1 h2
    rw [List.take_length]
    have hje := joinedEdges_all xss (by omega) hr
    have hsum := sum60 hr
    obtain ⟨p, ep⟩ : ∃ p, p = [0, sS E1 xss] := ⟨_, rfl⟩
    have p0 : geti p 0 = 0 := by rw [ep]; rfl
    have p1 : geti p 1 = sS E1 xss := by rw [ep]; rfl
    have hp : p.length = 2 := by rw [ep]; rfl
    repeat' (first | (apply AOps.nil; try simp only [List.nil_append, List.cons_append, List.set_cons_zero, List.set_cons_succ, List.length_cons, List.length_nil, Nat.reduceAdd, AV.sh, AV.sh1, AV.sh0, AO.sh, List.map_cons, List.map_nil, Nat.zero_add, Nat.add_zero, setAll]) | (apply w_move; exact rfl; exact rfl) | apply AWp.seq | apply AWp.region | ((apply AWp.condP; exact rfl) <;> intro h) | apply AWp.block | apply AWp.exit | apply AWp.skip | (apply w_callm (hje); (focus ((repeat (first | exact im_nil | refine im_cons rfl (.intss _) ?_)); done)); rintro r os0 ⟨L, hL, rfl, rfl⟩; try simp only [List.nil_append, List.cons_append, List.set_cons_zero, List.set_cons_succ, List.length_cons, List.length_nil, Nat.reduceAdd, AV.sh, AV.sh1, AV.sh0, AO.sh, List.map_cons, List.map_nil, Nat.zero_add, Nat.add_zero, setAll]) | omega | ((first | apply w_lss | apply w_bs2); iterate 3 exact rfl) | (apply inI_of <;> omega))
    have hLl := hL.len
    have hLp : ∀ l ∈ L, 0 ≤ geti l 0 ∧ 0 ≤ geti l 1 := fun l hl => by have := (hL.pos l hl).2; omega
    have hbox := fun q => @vfP_box L hLp p q
    have hs0 := hL.tot.1
    have hs1 := hL.tot.2
    have hlen := vfP_len L p
    have hver := verticesFrom_c p L hp (by omega) (fun l hl => (hL.pos l hl).1) (fun q hq => by have := hbox q hq; omega)
    rw [ep] at hver
    repeat' (apply w_callm (hver); (focus ((repeat (first | exact im_nil | refine im_cons rfl (.sli rfl) ?_ | refine im_cons rfl (.sls rfl) ?_)); done)); rintro r os0 ⟨rfl, rfl⟩; try simp only [List.nil_append, List.cons_append, List.set_cons_zero, List.set_cons_succ, List.length_cons, List.length_nil, Nat.reduceAdd, AV.sh, AV.sh1, AV.sh0, AO.sh, List.map_cons, List.map_nil, Nat.zero_add, Nat.add_zero, setAll])
    rw [← ep]
    have hrow := vfP_row (L := L) hp
    by_cases h3 : 60 < sS E0 xss ∨ 60 < sS E1 xss
    · obtain ⟨e1, e2⟩ := seE_lim ⟨hl, hr⟩ h3
      have hbad : ∃ r ∈ vfP p L, ¬ R60 r := by
        rcases h3 with h3 | h3
        · refine ⟨[sS E0 L, geti p 1 - sS E1 L], vfP_all hp rfl (by rw [geti_p0]; omega) (by rw [geti_p1]), ?_⟩
          unfold R60; rw [geti_p0]; omega
        · obtain ⟨r, hr⟩ := vfP_ne p L
          refine ⟨p, by rw [hr]; simp, ?_⟩
          unfold R60; omega
      have hlim := limBad_c (vfP p L) (by omega) hrow hbad
      repeat' (first | (apply AOps.nil; try simp only [List.nil_append, List.cons_append, List.set_cons_zero, List.set_cons_succ, List.length_cons, List.length_nil, Nat.reduceAdd, AV.sh, AV.sh1, AV.sh0, AO.sh, List.map_cons, List.map_nil, Nat.zero_add, Nat.add_zero, setAll]) | (apply w_assign; exact rfl; exact rfl) | apply AWp.ret | (apply w_callc [2] (hlim); exact rfl; (exact handed1 rfl True.intro); (focus ((repeat (first | exact imu_nil | refine imu_cons rfl (.own rfl) ?_)); done)); rintro r os0 ⟨rfl, rfl⟩; try simp only [List.nil_append, List.cons_append, List.set_cons_zero, List.set_cons_succ, List.length_cons, List.length_nil, Nat.reduceAdd, AV.sh, AV.sh1, AV.sh0, AO.sh, List.map_cons, List.map_nil, Nat.zero_add, Nat.add_zero, setAll]) | ((apply w_ext); iterate 3 exact rfl))
      all_goals exact ⟨_, _, _, .a2 Try.results9 rfl rfl, .tup2 (.nils 33 2), by rw [e1], by rw [e2]⟩
    · obtain ⟨e1, e2⟩ := seE_ok ⟨hl, hr⟩ h3
      have hlim := limOk_c (vfP p L) (by omega) (fun r hr => ⟨hrow r hr, by have := hbox r hr; unfold R60; omega⟩)
      have hh := vf_hull (srtE_all xss) (srtE_stS (fun x hx => (hr x hx).2.2.1) xss.length (Nat.le_refl _)) (fun e he => (hr e he).ep) hL hp
      rw [ep] at hh
      rw [e1, e2, hh, ← ep]
      repeat' (first | (apply AOps.nil; try simp only [List.nil_append, List.cons_append, List.set_cons_zero, List.set_cons_succ, List.length_cons, List.length_nil, Nat.reduceAdd, AV.sh, AV.sh1, AV.sh0, AO.sh, List.map_cons, List.map_nil, Nat.zero_add, Nat.add_zero, setAll]) | (apply w_assign; exact rfl; exact rfl) | apply AWp.ret | (apply w_callc [2] (hlim); exact rfl; (exact handed1 rfl True.intro); (focus ((repeat (first | exact imu_nil | refine imu_cons rfl (.own rfl) ?_)); done)); rintro r os0 ⟨rfl, rfl⟩; try simp only [List.nil_append, List.cons_append, List.set_cons_zero, List.set_cons_succ, List.length_cons, List.length_nil, Nat.reduceAdd, AV.sh, AV.sh1, AV.sh0, AO.sh, List.map_cons, List.map_nil, Nat.zero_add, Nat.add_zero, setAll]) | ((apply w_ext); iterate 3 exact rfl))
      exact ⟨_, _, _, .a2 Try.results9 rfl rfl, .tup2 (.sls rfl), rfl, rfl⟩
end Go.Proofs.Ytfaeiphgenddkaa
/-
  Vertices of supports: their order, whether the polygon is convenient, edges, areas. No condition but a bound on the sizes.
-/
namespace Go.Proofs.Ytfaeiphgenddkaa
open Go Go.RowKit
attribute [local irreducible] AWp AOps ResIs Ret1 QOp LOp COp AFnV AFn Imms LeE LeO
set_option maxHeartbeats 1000000
set_option linter.unusedSimpArgs false
set_option linter.unusedVariables false

/-! ### Chains -/
/-- To the right and down. -/
def Ch : List (List Int) → Prop
  | a :: b :: r => geti a 0 < geti b 0 ∧ geti b 1 < geti a 1 ∧ Ch (b :: r)
  | _ => True

theorem gwf_chain {S : List Int → Prop} : ∀ {r : List (List Int)} {a : List Int}, Hl.GWf gX gY S (a :: r) → (∀ q, S q → gY q < gY a → gX a < gX q) → Ch (a :: r) ∧ ∀ v ∈ r, S v
  | [], a, _, _ => ⟨trivial, fun v hv => by cases hv⟩
  | b :: r, a, h, hx => by
    obtain ⟨⟨h1, h2, h3⟩, h4⟩ := h
    have xb := hx b h1 h2
    have ih := gwf_chain h4 (fun q hq hy => by
      have h5 := (h3 q hq (by omega)).1
      unfold Hl.cr at h5
      simp only [gX, gY] at *
      apply Classical.byContradiction
      intro hn
      have p1 := Int.mul_pos (show 0 < geti b 0 - geti a 0 by omega) (show 0 < geti b 1 - geti q 1 by omega)
      have p2 := Int.mul_nonneg (show 0 ≤ geti a 1 - geti b 1 by omega) (show 0 ≤ geti b 0 - geti q 0 by omega)
      grind)
    refine ⟨⟨xb, h2, ih.1⟩, fun v hv => ?_⟩
    rcases List.mem_cons.1 hv with rfl | hv
    · exact h1
    · exact ih.2 v hv

theorem ch_len : ∀ {r : List (List Int)} {a : List Int}, Ch (a :: r) → (∀ v ∈ a :: r, 0 ≤ geti v 1) → (r.length : Int) ≤ geti a 1
  | [], a, _, h => by have := h a (by simp); simp; exact this
  | b :: r, a, hc, h => by
    have ih := ch_len hc.2.2 (fun v hv => h v (List.mem_cons_of_mem _ hv))
    have := hc.2.1
    rw [List.length_cons]
    omega
theorem ch_get : ∀ {V : List (List Int)}, Ch V → ∀ i : Nat, i + 1 < V.length → geti (gets V (i : Nat)) 0 < geti (gets V ((i : Nat) + 1 : Int)) 0 ∧ geti (gets V ((i : Nat) + 1 : Int)) 1 < geti (gets V (i : Nat)) 1
  | [], _, i, h => by simp at h
  | [a], _, i, h => by simp at h
  | a :: b :: r, hc, i, h => by
    cases i with
    | zero => exact ⟨hc.1, hc.2.1⟩
    | succ i => exact ch_get hc.2.2 i (by simpa using h)

/-- What is known of vertices. -/
structure VOk (B : Int) (V : List (List Int)) : Prop where
  pos : 0 < V.length
  len : (V.length : Int) ≤ B + 1
  row : ∀ v ∈ V, v.length = 2 ∧ (0 ≤ geti v 0 ∧ geti v 0 ≤ B) ∧ (0 ≤ geti v 1 ∧ geti v 1 ≤ B)
  inc : ∀ i : Nat, i + 1 < V.length → geti (gets V (i : Nat)) 0 < geti (gets V ((i : Nat) + 1 : Int)) 0 ∧ geti (gets V ((i : Nat) + 1 : Int)) 1 < geti (gets V (i : Nat)) 1
theorem VOk.at {B : Int} {V : List (List Int)} (h : VOk B V) (i : Nat) (hi : i < V.length) : (gets V (i : Nat)).length = 2 ∧ (0 ≤ geti (gets V (i : Nat)) 0 ∧ geti (gets V (i : Nat)) 0 ≤ B) ∧ (0 ≤ geti (gets V (i : Nat)) 1 ∧ geti (gets V (i : Nat)) 1 ≤ B) :=
  h.row _ (gets_mem (by omega) (by omega))

theorem hasV_ok {xss V : List (List Int)} {B : Int} (hp : ∀ v ∈ xss, v.length = 2 ∧ (0 ≤ geti v 0 ∧ geti v 0 ≤ B) ∧ (0 ≤ geti v 1 ∧ geti v 1 ≤ B)) (h : HasV xss V) : VOk B V := by
  obtain ⟨m, r, rfl, h1, h2, h3⟩ := h
  have hc := gwf_chain h3 (fun q hq hy => by
    have := h2 q hq
    unfold Hl.lexle at this
    simp only [gX, gY] at *
    omega)
  have hrow : ∀ v ∈ m :: r, v.length = 2 ∧ (0 ≤ geti v 0 ∧ geti v 0 ≤ B) ∧ (0 ≤ geti v 1 ∧ geti v 1 ≤ B) := fun v hv => by
    rcases List.mem_cons.1 hv with rfl | hv
    · exact hp _ h1
    · exact hp _ (hc.2 v hv)
  refine ⟨by simp, ?_, hrow, ch_get hc.1⟩
  have := ch_len hc.1 (fun v hv => (hrow v hv).2.2.1)
  have := (hp m h1).2.2.2
  rw [List.length_cons]
  omega

/-! ### The vertices exist -/
theorem best_ex (xss : List (List Int)) (a : List Int) : ∀ i, i ≤ xss.length → ∃ o, BestOk xss a i o
  | 0, _ => ⟨none, fun q hq => by obtain ⟨j, hj, _⟩ := hq; omega⟩
  | i + 1, hi => by
    obtain ⟨o, ho⟩ := best_ex xss a i (by omega)
    have esp := sp_succ xss i
    cases o with
    | none =>
      by_cases hy : gY (gets xss (i : Nat)) < gY a
      · refine ⟨some i, hi, ?_⟩
        rw [← esp]
        exact Hl.next_first ho hy
      · refine ⟨none, ?_⟩
        simp only [BestOk, ← esp]
        rintro q (hq | rfl)
        · exact ho q hq
        · omega
    | some k =>
      obtain ⟨h1, h2⟩ := ho
      by_cases hy : gY (gets xss (i : Nat)) < gY a ∧ (Hl.cr gX gY a (gets xss (k : Nat)) (gets xss (i : Nat)) < 0 ∨ (Hl.cr gX gY a (gets xss (k : Nat)) (gets xss (i : Nat)) = 0 ∧ gY (gets xss (i : Nat)) < gY (gets xss (k : Nat))))
      · refine ⟨some i, hi, ?_⟩
        rw [← esp]
        exact Hl.next_new h2 hy.1 hy.2
      · refine ⟨some k, h1, ?_⟩
        rw [← esp]
        exact Hl.next_keep h2 fun hz => by omega
theorem sp_mem (xss : List (List Int)) : Sp xss xss.length = (· ∈ xss) := funext fun q => propext (sp_all xss q)
theorem chain_ex {xss : List (List Int)} (hp : ∀ r ∈ xss, 0 ≤ geti r 1) : ∀ (n : Nat) (a : List Int), a ∈ xss → geti a 1 ≤ n → ∃ l, Hl.GWf gX gY (· ∈ xss) (a :: l)
  | n, a, ha, hn => by
    obtain ⟨o, ho⟩ := best_ex xss a xss.length (Nat.le_refl _)
    cases o with
    | none => exact ⟨[], fun q hq => ho q ((sp_all xss q).2 hq)⟩
    | some k =>
      obtain ⟨h1, h2⟩ := ho
      rw [sp_mem] at h2
      have hlt := h2.2.1
      have hpos := hp _ h2.1
      simp only [gY] at hlt
      match n with
      | 0 => omega
      | n + 1 =>
        obtain ⟨l, hl⟩ := chain_ex hp n _ h2.1 (by omega)
        exact ⟨_ :: l, h2, hl⟩
theorem first_ex (xss : List (List Int)) : ∀ i, i < xss.length → ∃ m, m < xss.length ∧ ∀ q, Sp xss (i + 1) q → Hl.lexle gX gY (gets xss (m : Nat)) q
  | 0, h => ⟨0, h, fun q hq => by obtain ⟨j, hj, rfl⟩ := hq; obtain rfl : j = 0 := by omega
                                  unfold Hl.lexle; omega⟩
  | i + 1, h => by
    obtain ⟨m, h1, h2⟩ := first_ex xss i (by omega)
    rw [← sp_succ]
    by_cases hc : Hl.lexle gX gY (gets xss (m : Nat)) (gets xss ((i + 1 : Nat) : Int))
    · refine ⟨m, h1, ?_⟩
      rintro q (hq | rfl)
      · exact h2 q hq
      · exact hc
    · refine ⟨i + 1, h, ?_⟩
      rintro q (hq | rfl)
      · have := h2 q hq
        unfold Hl.lexle at *
        simp only [gX, gY] at *
        omega
      · unfold Hl.lexle; omega
theorem verts_ex {xss : List (List Int)} (h0 : 0 < xss.length) (hp : ∀ r ∈ xss, 0 ≤ geti r 1) : ∃ V, HasV xss V := by
  obtain ⟨m, h1, h2⟩ := first_ex xss (xss.length - 1) (by omega)
  rw [show xss.length - 1 + 1 = xss.length by omega, sp_mem] at h2
  have hm : gets xss (m : Nat) ∈ xss := gets_mem (by omega) (by omega)
  obtain ⟨l, hl⟩ := chain_ex hp (geti (gets xss (m : Nat)) 1).toNat _ hm (by have := hp _ hm; omega)
  exact ⟨_ :: l, _, _, rfl, hm, h2, hl⟩
theorem verts_ok {xss : List (List Int)} {B : Int} (h0 : 0 < xss.length) (hp : ∀ v ∈ xss, v.length = 2 ∧ (0 ≤ geti v 0 ∧ geti v 0 ≤ B) ∧ (0 ≤ geti v 1 ∧ geti v 1 ≤ B)) : VOk B (verts xss) := by
  obtain ⟨V, hV⟩ := verts_ex h0 (fun r hr => (hp r hr).2.2.1)
  rw [verts_eq (fun r hr => (hp r hr).1) hV]
  exact hasV_ok hp hV
/-! ### Edges -/
/-! ### Convenient polygons -/
/-! ### Areas -/
section
variable {B : Int} {V : List (List Int)}
end

end Go.Proofs.Ytfaeiphgenddkaa
/-
  The law of the polygon of edges. No condition.
-/
namespace Go.Proofs.Ytfaeiphgenddkaa
open Go Go.RowKit
attribute [local irreducible] AWp AOps ResIs Ret1 QOp LOp COp AFnV AFn Imms LeE LeO
set_option maxHeartbeats 1000000
set_option linter.unusedSimpArgs false
set_option linter.unusedVariables false

theorem seL_ok (xss : List (List Int)) : (seL xss).length ≤ 1000 ∧ ∀ xs ∈ seL xss, xs.length ≤ 1048576 := by
  by_cases h : EdOk xss
  · by_cases h2 : 60 < sS E0 xss ∨ 60 < sS E1 xss
    · rw [(seE_lim h h2).2]; simp
    · rw [(seE_ok h h2).2]
      have hp : ([0, sS E1 xss] : List Int).length = 2 := rfl
      have hs0 := sS_perm E0 (srtE_all xss)
      have hs1 := sS_perm E1 (srtE_all xss)
      have hsum := sum60 h.2
      have hS : ∀ s ∈ srtE xss xss.length, E60 s := fun s hs => h.2 s (srtE_mem (Nat.le_refl _) hs)
      have hbox := fun q => @vfP_box _ (fun s hs => by have := hS s hs; unfold E60 at this; omega) [0, sS E1 xss] q
      have hv := verts_ok (B := 60) (xss := vfP [0, sS E1 xss] (srtE xss xss.length)) (by rw [vfP_len]; omega) fun v hv => by
        have := hbox v hv
        rw [geti_p0, geti_p1] at this
        exact ⟨vfP_row hp v hv, by omega, by omega⟩
      refine ⟨by have := hv.len; omega, fun xs hx => by have := hv.row xs hx; omega⟩
  · rw [(seE_bad h).2]; simp
set_option maxHeartbeats 4000000 in
theorem lawSupportOfEdges_c (xss : List (List Int)) : AFnV Try.prog 3 [.intss xss] (.bool true) := by
  (refine AFnV.start Try.func3 Try.ntmps3 rfl (by kernel_rfl) fun hk => ?_; simp only [Env.start, enumF, List.length_cons, List.length_nil, Nat.reduceAdd, Nat.reduceSub, List.cons_append, List.nil_append])
  repeat' (first | (apply AOps.nil; try simp only [List.nil_append, List.cons_append, List.set_cons_zero, List.set_cons_succ, List.length_cons, List.length_nil, Nat.reduceAdd, AV.sh, AV.sh1, AV.sh0, AO.sh, List.map_cons, List.map_nil, Nat.zero_add, Nat.add_zero, setAll]) | (apply w_move; exact rfl; exact rfl) | (apply w_assign; exact rfl; exact rfl) | apply AWp.seq | apply AWp.region | ((apply AWp.condP; exact rfl) <;> intro h) | apply AWp.ret | apply AWp.skip | (apply w_call (szInt64SS_c _ 1048576 (by omega) (by omega)); exact rfl; exact rfl; focus ((repeat (first | exact im_nil | refine im_cons rfl (.val _) ?_ | refine im_cons rfl (.intss _) ?_)); done)) | ((apply w_lss); iterate 3 exact rfl))
  · exact .bool Try.results3 rfl rfl
  have hs := szSS_ok (xss := xss) (left := 1048576) (by omega) (by omega)
  have hb : xss.length ≤ 1048576 := by omega
  have hr : ∀ xs ∈ xss, xs.length ≤ 1048576 := fun xs hx => by have := hs.2 xs hx; omega
  have c1 := cnt_le hr xss.length
  have c2 := cnt_le (seL_ok xss).2 (seL xss).length
  have c3 := (seL_ok xss).1
  have d1 : cnt xss xss.length ≤ 4503599627370496 := by have : xss.length * 1048576 ≤ 1048576 * 1048576 := Nat.mul_le_mul_right _ hb; omega
  have d2 : cnt (seL xss) (seL xss).length ≤ 4503599627370496 := by have : (seL xss).length * 1048576 ≤ 1000 * 1048576 := Nat.mul_le_mul_right _ c3; omega
  have m1 := markInt64SS_c 33 2 xss 1 (by omega) d1 (by omega)
  have m2 := markInt64SS_c 33 2 (seL xss) 1 (by omega) d2 (by omega)
  have m3 := heldInt64SS_c (seL xss) 1 (by omega) d2 (by omega)
  repeat' (first | (apply AOps.nil; try simp only [List.nil_append, List.cons_append, List.set_cons_zero, List.set_cons_succ, List.length_cons, List.length_nil, Nat.reduceAdd, AV.sh, AV.sh1, AV.sh0, AO.sh, List.map_cons, List.map_nil, Nat.zero_add, Nat.add_zero, setAll]) | ((apply AOps.splitP; exact rfl; exact rfl) <;> intro h) | (apply w_move; exact rfl; exact rfl) | (apply w_assign; exact rfl; exact rfl) | apply AWp.seq | apply AWp.region | ((apply AWp.condP; exact rfl) <;> intro h) | (apply AWp.condT; exact rfl) | (apply AWp.condF; exact rfl) | apply AWp.ret | apply AWp.skip | (apply w_skip; exact rfl) | (apply w_pickT; exact rfl; exact rfl; exact rfl) | (apply w_pickF; exact rfl; exact rfl; exact rfl) | (apply w_callm (specSupportOfEdges_c _); (focus ((repeat (first | exact im_nil | refine im_cons rfl (.sls rfl) ?_)); done)); rintro r os0 ⟨rfl, rfl⟩; try simp only [List.nil_append, List.cons_append, List.set_cons_zero, List.set_cons_succ, List.length_cons, List.length_nil, Nat.reduceAdd, AV.sh, AV.sh1, AV.sh0, AO.sh, List.map_cons, List.map_nil, Nat.zero_add, Nat.add_zero, setAll]) | (apply w_callm (implSupportOfEdges_c _); (focus ((repeat (first | exact im_nil | refine im_cons rfl (.sls rfl) ?_)); done)); rintro r os0 ⟨rfl, rfl⟩; try simp only [List.nil_append, List.cons_append, List.set_cons_zero, List.set_cons_succ, List.length_cons, List.length_nil, Nat.reduceAdd, AV.sh, AV.sh1, AV.sh0, AO.sh, List.map_cons, List.map_nil, Nat.zero_add, Nat.add_zero, setAll]) | (apply w_call (eqInt64SS_t _); exact rfl; exact rfl; focus ((repeat (first | exact im_nil | refine im_cons rfl (.sls rfl) ?_)); done)) | (apply w_callu [2] (m1); (exact handed1 rfl True.intro); (focus ((repeat (first | exact imu_nil | refine imu_cons rfl (.val _) ?_ | refine imu_cons rfl (.own rfl) ?_)); done)); rintro v os0 ⟨rfl, rfl⟩; try simp only [List.nil_append, List.cons_append, List.set_cons_zero, List.set_cons_succ, List.length_cons, List.length_nil, Nat.reduceAdd, AV.sh, AV.sh1, AV.sh0, AO.sh, List.map_cons, List.map_nil, Nat.zero_add, Nat.add_zero, setAll]) | (apply w_callu [3] (m2); (exact handed1 rfl True.intro); (focus ((repeat (first | exact imu_nil | refine imu_cons rfl (.val _) ?_ | refine imu_cons rfl (.own rfl) ?_)); done)); rintro v os0 ⟨rfl, rfl⟩; try simp only [List.nil_append, List.cons_append, List.set_cons_zero, List.set_cons_succ, List.length_cons, List.length_nil, Nat.reduceAdd, AV.sh, AV.sh1, AV.sh0, AO.sh, List.map_cons, List.map_nil, Nat.zero_add, Nat.add_zero, setAll]) | (apply w_call (m3); exact rfl; exact rfl; focus ((repeat (first | exact im_nil | refine im_cons rfl (.val _) ?_ | refine im_cons rfl (.sls rfl) ?_)); done)) | (apply w_callm (toInt64SS_c _ hb hr); (focus ((repeat (first | exact im_nil | refine im_cons rfl (.intss _) ?_)); done)); rintro r os0 ⟨rfl, rfl⟩; try simp only [List.nil_append, List.cons_append, List.set_cons_zero, List.set_cons_succ, List.length_cons, List.length_nil, Nat.reduceAdd, AV.sh, AV.sh1, AV.sh0, AO.sh, List.map_cons, List.map_nil, Nat.zero_add, Nat.add_zero, setAll]) | ((first | apply w_lss | apply w_neq | apply w_extv); iterate 3 exact rfl) | ((apply w_ext); iterate 3 exact rfl) | ((apply w_not); iterate 2 exact rfl) | omega)
  all_goals exact .bool Try.results3 rfl rfl
end Go.Proofs.Ytfaeiphgenddkaa
