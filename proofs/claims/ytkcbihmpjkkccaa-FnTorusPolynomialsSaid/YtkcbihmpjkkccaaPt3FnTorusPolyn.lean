/-
  Parts of the proof, one behind the other: contracts of functions and plain laws. No condition.
-/
import Derived.WalkKit
import Derived.Test.YtkcbihmpjkkccaaProg
import Derived.KernelRfl
import Derived.Test.YtkcbihmpjkkccaaPt2FnTorusPolyn
/-
  A struct of one own slice of rows behind a pointer, as one object; functions that write to it in its place. No condition.
-/
namespace Go.Proofs.Ytkcbihmpjkkccaa
open Go Go.RowKit
set_option linter.unusedVariables false

def CntP (T e e2 : TypeId) (L : List (List Int)) (base : Nat) (w : World) (g : Gh) : Prop :=
  ∃ p : Gh, w.heap[g.b]? = some (.cells #[p.v] T (0, 0)) ∧ base ≤ g.b ∧ g.v = .pointer (some ⟨g.b, 0, none⟩) ∧ PartP e e2 L base w p ∧ g.bl = g.b :: p.bl ∧ g.b ∉ p.bl
def cntOb (T e e2 : TypeId) (L : List (List Int)) : Ob where
  p := CntP T e e2 L
  up {base w w' g} hb h := by
    obtain ⟨p, a1, a2, a3, a4, a5, a6⟩ := h
    exact ⟨p, by rw [hb g.b (by rw [a5]; simp)]; exact a1, a2, a3, a4.up fun b hbb => hb b (by rw [a5]; simp [hbb]), a5, a6⟩
  lower hl h := by
    obtain ⟨p, a1, a2, a3, a4, a5, a6⟩ := h
    exact ⟨p, a1, Nat.le_trans hl a2, a3, a4.lower hl, a5, a6⟩
  one h := by
    obtain ⟨p, a1, a2, a3, _⟩ := h
    rw [a3]; exact ⟨rfl, rfl⟩

theorem RO.via {base : Nat} {w : World} {ok ok' : Nat → Prop} {gs gs' : List Gh} {x : Gh} {z : AO} {h : Nat} (hz : RO base w ok gs x z) (kp : Keeps ok ok' w w) (sv : SameV h gs gs') : RO base w ok' gs' x (z.via (AV.noRow h) h) := by
  cases z with
  | ob q => exact hz
  | dead => trivial
  | sli e xs => exact hz
  | sls e e2 xss => exact hz
  | bx T avs =>
    obtain ⟨cs, h1, h2, h3, h4, h5, h6, h7⟩ := hz
    exact ⟨cs, h1, h2, h3, h4, by simpa using h5, h6, fun j => by rw [getD_map_f _ rfl]; exact (h7 j).noRow kp sv⟩
  | slr e avs =>
    obtain ⟨vs, h1, h2, h3, h4⟩ := hz
    exact ⟨vs, h1, by simpa using h2, fun j => by rw [getD_map_f _ rfl]; exact (h3 j).noRow kp sv, h4⟩
  | keep n K =>
    obtain ⟨h1, h2, h3⟩ := hz
    simp only [AO.via]
    split
    · exact ⟨h1, rfl, fun i x hx => by simp at hx⟩
    · refine ⟨h1, h2, fun i y hy => ?_⟩
      have := (List.getElem?_eq_some_iff.1 hy).1
      exact sv.other i y (by omega) (h3 i y hy)

set_option maxHeartbeats 1000000 in
theorem Turns.split {env : Env} {os : List AO} {h m : Nat} {T e e2 : TypeId} {L : List (List Int)} (hs : os[h]? = some (.ob (cntOb T e e2 L))) (hm : os.length = m) :
    Turns env os (env.mp (AV.noRow h)) (((os.map (AO.via (AV.noRow h) h)).set h (.bx T [.own m])) ++ [.sls e e2 L]) := by
  subst hm
  intro base w gs tm hr
  have hlt : h < os.length := (List.getElem?_eq_some_iff.1 hs).1
  have hgl : h < gs.length := by rw [hr.hl]; exact hlt
  obtain ⟨gh, hg⟩ : ∃ x, gs[h]? = some x := ⟨_, List.getElem?_eq_getElem hgl⟩
  obtain ⟨p, a1, a2, a3, a4, a5, a6⟩ := hr.ho _ _ _ hg hs
  let g' : Gh := ⟨gh.v, gh.b, [gh.b], []⟩
  have hgn := hr.hn _ _ _ hg hs (by simp)
  have sub1 : ∀ b, b ∈ g'.bl → b ∈ gh.bl := fun b hb => by rw [a5]; simp [g'] at hb; simp [hb]
  have sub2 : ∀ b, b ∈ p.bl → b ∈ gh.bl := fun b hb => by rw [a5]; simp [hb]
  have sv : SameV h gs (gs.set h g' ++ [p]) := by
    refine ⟨fun j z hj hz => ?_, fun z hz => ⟨g', ?_, ?_⟩⟩
    · have := (List.getElem?_eq_some_iff.1 hz).1
      rw [List.getElem?_append_left (by rw [List.length_set]; exact this), List.getElem?_set, if_neg (fun e => hj e.symm)]; exact hz
    · rw [List.getElem?_append_left (by rw [List.length_set]; exact hgl), List.getElem?_set_self hgl]
    · rw [hg] at hz; cases hz; exact ⟨rfl, rfl⟩
  have gget : ∀ {i : Nat} {x : Gh}, (gs.set h g' ++ [p])[i]? = some x → (i = h ∧ x = g') ∨ (i ≠ h ∧ i < gs.length ∧ gs[i]? = some x) ∨ (i = gs.length ∧ x = p) := by
    intro i x hx
    rcases Nat.lt_or_ge i gs.length with hi | hi
    · rw [List.getElem?_append_left (by rw [List.length_set]; exact hi), List.getElem?_set] at hx
      split at hx
      · subst_vars; simp at hx; exact .inl ⟨rfl, hx.symm⟩
      · exact .inr (.inl ⟨fun e => by simp_all, hi, hx⟩)
    · have h2 := (List.getElem?_eq_some_iff.1 hx).1
      simp at h2
      have : i = gs.length := by omega
      subst this
      rw [List.getElem?_append_right (by simp)] at hx
      simp at hx
      exact .inr (.inr ⟨rfl, hx.symm⟩)
  have oget : ∀ {i : Nat} {y : AO}, (((os.map (AO.via (AV.noRow h) h)).set h (.bx T [.own os.length])) ++ [AO.sls e e2 L])[i]? = some y → (i = h ∧ y = .bx T [.own os.length]) ∨ (i ≠ h ∧ i < os.length ∧ ∃ z, os[i]? = some z ∧ y = z.via (AV.noRow h) h) ∨ (i = os.length ∧ y = .sls e e2 L) := by
    intro i y hy
    rcases Nat.lt_or_ge i os.length with hi | hi
    · rw [List.getElem?_append_left (by simpa using hi), List.getElem?_set] at hy
      split at hy
      · subst_vars; simp [hi] at hy; exact .inl ⟨rfl, hy.symm⟩
      · refine .inr (.inl ⟨fun e => by simp_all, hi, ?_⟩)
        rw [List.getElem?_map] at hy
        cases hz : os[i]? with
        | none => simp [hz] at hy
        | some z => simp [hz] at hy; exact ⟨z, rfl, hy.symm⟩
    · have h2 := (List.getElem?_eq_some_iff.1 hy).1
      simp at h2
      have : i = os.length := by omega
      subst this
      rw [List.getElem?_append_right (by simp)] at hy
      simp at hy
      exact .inr (.inr ⟨rfl, hy.symm⟩)
  have kp : Keeps (okOf gs os) (okOf (gs.set h g' ++ [p]) (((os.map (AO.via (AV.noRow h) h)).set h (.bx T [.own os.length])) ++ [AO.sls e e2 L])) w w := by
    intro b hb _
    refine ⟨fun i x y hx hy hny hm => ?_, rfl⟩
    rcases gget hx with ⟨_, rfl⟩ | ⟨h1, h2, h3⟩ | ⟨_, rfl⟩
    · exact hb h gh _ hg hs trivial (sub1 b hm)
    · rcases oget hy with ⟨h4, _⟩ | ⟨_, _, z, hz, rfl⟩ | ⟨h4, _⟩
      · exact h1 h4
      · exact hb i x z h3 hz (AO.via_live.1 hny) hm
      · rw [← hr.hl] at h4; omega
    · exact hb h gh _ hg hs trivial (sub2 b hm)
  have hl := hr.hl
  refine ⟨gs.set h g' ++ [p], hr.hb, by simp [hl], hr.hs, fun i => by rw [Env.lk_mp _ rfl]; exact (hr.he i).noRow kp sv, ?_, ?_, ?_⟩
  · intro i x y hx hy
    rcases oget hy with ⟨rfl, rfl⟩ | ⟨h1, h2, z, hz, rfl⟩ | ⟨rfl, rfl⟩
    · rcases gget hx with ⟨_, rfl⟩ | ⟨h1, _⟩ | ⟨h1, _⟩
      · refine ⟨[p.v], a1, a2, rfl, a3, rfl, fun c hc => by simp at hc; subst hc; exact a4.one.1, fun j => ?_⟩
        match j with
        | 0 => exact .own (by rw [← hl]; simp)
        | j + 1 => exact .any _
      · exact absurd rfl h1
      · omega
    · rcases gget hx with ⟨h4, _⟩ | ⟨_, _, h3⟩ | ⟨h4, _⟩
      · exact absurd h4 h1
      · exact RO.via (hr.ho i x z h3 hz) kp sv
      · omega
    · rcases gget hx with ⟨h4, _⟩ | ⟨_, h4, _⟩ | ⟨_, rfl⟩
      · omega
      · omega
      · exact a4.ro
  · intro i j x y o1 o2 hij hx hy ho1 ho2 hn1 hn2 b hb1 hb2
    have olive : ∀ {i : Nat} {y : AO}, i ≠ h → i < gs.length → (((os.map (AO.via (AV.noRow h) h)).set h (.bx T [.own os.length])) ++ [AO.sls e e2 L])[i]? = some y → y ≠ .dead → ∃ z, os[i]? = some z ∧ z ≠ .dead := by
      intro i y h1 h2 hy hny
      rcases oget hy with ⟨h4, _⟩ | ⟨_, _, z, hz, rfl⟩ | ⟨h4, _⟩
      · exact absurd h4 h1
      · exact ⟨z, hz, fun e => hny (AO.via_dead.2 e)⟩
      · omega
    rcases gget hx with ⟨rfl, rfl⟩ | ⟨h1, h2, h3⟩ | ⟨rfl, rfl⟩
    · rcases gget hy with ⟨rfl, rfl⟩ | ⟨k1, k2, k3⟩ | ⟨rfl, rfl⟩
      · exact hij rfl
      · obtain ⟨z, hz, hzn⟩ := olive k1 k2 ho2 hn2
        exact hr.hd _ _ gh y _ z (fun e => k1 e.symm) hg k3 hs hz (by simp) hzn b (sub1 b hb1) hb2
      · simp [g'] at hb1; subst hb1; exact a6 hb2
    · obtain ⟨z, hz, hzn⟩ := olive h1 h2 ho1 hn1
      rcases gget hy with ⟨rfl, rfl⟩ | ⟨k1, k2, k3⟩ | ⟨rfl, rfl⟩
      · exact hr.hd _ _ x gh z _ h1 h3 hg hz hs hzn (by simp) b hb1 (sub1 b hb2)
      · obtain ⟨z2, hz2, hzn2⟩ := olive k1 k2 ho2 hn2
        exact hr.hd i j x y z z2 hij h3 k3 hz hz2 hzn hzn2 b hb1 hb2
      · exact hr.hd _ _ x gh z _ h1 h3 hg hz hs hzn (by simp) b hb1 (sub2 b hb2)
    · rcases gget hy with ⟨rfl, rfl⟩ | ⟨k1, k2, k3⟩ | ⟨rfl, rfl⟩
      · simp [g'] at hb2; subst hb2; exact a6 hb1
      · obtain ⟨z, hz, hzn⟩ := olive k1 k2 ho2 hn2
        exact hr.hd _ _ gh y _ z (fun e => k1 e.symm) hg k3 hs hz (by simp) hzn b (sub2 b hb1) hb2
      · exact hij rfl
  · intro i x y hx hy hny b hb
    rcases gget hx with ⟨rfl, rfl⟩ | ⟨h1, h2, h3⟩ | ⟨rfl, rfl⟩
    · exact hgn b (sub1 b hb)
    · rcases oget hy with ⟨h4, _⟩ | ⟨_, _, z, hz, rfl⟩ | ⟨h4, _⟩
      · exact absurd h4 h1
      · exact hr.hn i x z h3 hz (fun e => hny (AO.via_dead.2 e)) b hb
      · omega
    · exact hgn b (sub2 b hb)

theorem Turns.join {env : Env} {os : List AO} {h k : Nat} {T e e2 : TypeId} {L : List (List Int)} (hs : os[h]? = some (.bx T [.own k])) (hk : os[k]? = some (.sls e e2 L)) (hhk : (h == k) = false) :
    Turns env os (env.mp (AV.noRow h)) (((os.map (AO.via (AV.noRow h) h)).set h (.ob (cntOb T e e2 L))).set k .dead) := by
  have hne : h ≠ k := by simpa using hhk
  intro base w gs tm hr
  have hgl : h < gs.length := by rw [hr.hl]; exact (List.getElem?_eq_some_iff.1 hs).1
  have hkl : k < gs.length := by rw [hr.hl]; exact (List.getElem?_eq_some_iff.1 hk).1
  obtain ⟨gh, hg⟩ : ∃ x, gs[h]? = some x := ⟨_, List.getElem?_eq_getElem hgl⟩
  obtain ⟨gk, hgk⟩ : ∃ x, gs[k]? = some x := ⟨_, List.getElem?_eq_getElem hkl⟩
  obtain ⟨cs, c1, c2, c3, c4, c5, c6, c7⟩ := hr.ho _ _ _ hg hs
  have hpk : PartP e e2 L base w gk := PartP.of (hr.ho _ _ _ hgk hk)
  match cs, c5 with
  | [c0], _ =>
  have h0 := c7 0
  simp only [List.getD_cons_zero] at h0
  have e0 : c0 = gk.v := by
    cases h0 with
    | own hh => rw [hgk] at hh; cases hh; rfl
  subst e0
  let g' : Gh := ⟨gh.v, gh.b, gh.b :: gk.bl, []⟩
  have hbn := hr.hn _ _ _ hg hs (by simp)
  have hkn := hr.hn _ _ _ hgk hk (by simp)
  have sv : SameV h gs (gs.set h g') := by
    refine ⟨fun j z hj hz => ?_, fun z hz => ⟨g', by simp [hgl], ?_⟩⟩
    · rw [List.getElem?_set, if_neg (fun e => hj e.symm)]; exact hz
    · rw [hg] at hz; cases hz; exact ⟨rfl, rfl⟩
  refine ⟨gs.set h g', hr.absorb hg hs trivial hgk hk trivial hne g' _ (AV.noRow h) rfl (fun _ _ _ => rfl) (Nat.le_refl _) ?_ (fun kp hv => hv.noRow kp sv) (fun _ => ?_)⟩
  · intro b hb
    simp only [g', List.mem_cons] at hb
    rcases hb with rfl | hb
    · have : gh.b ∈ gh.bl := by rw [c3]; simp
      exact ⟨.inl this, (hbn _ this).2⟩
    · exact ⟨.inr (.inl hb), (hkn b hb).2⟩
  · refine ⟨gk, c1, c2, c4, hpk, rfl, fun hm => ?_⟩
    exact hr.hd k h gk gh _ _ (fun e => hne e.symm) hgk hg hk hs (by simp) (by simp) gh.b hm (by rw [c3]; simp)
theorem Turns.joinNil {env : Env} {os : List AO} {h : Nat} {T : TypeId} (e e2 : TypeId) (hs : os[h]? = some (.bx T [.val (.slice none 0 0)])) : Turns env os env (os.set h (.ob (cntOb T e e2 []))) := by
  intro base w gs tm hr
  have hgl : h < gs.length := by rw [hr.hl]; exact (List.getElem?_eq_some_iff.1 hs).1
  obtain ⟨gh, hg⟩ : ∃ x, gs[h]? = some x := ⟨_, List.getElem?_eq_getElem hgl⟩
  obtain ⟨cs, c1, c2, c3, c4, c5, c6, c7⟩ := hr.ho _ _ _ hg hs
  match cs, c5 with
  | [c0], _ =>
  have h0 := c7 0
  simp only [List.getD_cons_zero] at h0
  have e0 : c0 = .slice none 0 0 := by cases h0; rfl
  subst e0
  refine ⟨gs, hr.upd hg hs trivial _ trivial (fun _ _ _ => rfl) (Nat.le_refl _) fun _ => ?_⟩
  exact ⟨⟨.slice none 0 0, 0, [], []⟩, c1, c2, c4, ⟨[], [], [], World.ownsRow_nil _ _ _ _, rfl, rfl, rfl, fun i u hu => by simp at hu, .inl ⟨rfl, rfl⟩, rfl, by simp⟩, c3, by simp⟩
theorem AWp.turns {P : Program} {c : Code} {N : APost} {X : Nat → APost} {R : APost} {env env' : Env} {os os' : List AO} (ht : Turns env os env' os') (h : AWp P c N X R env' os') : AWp P c N X R env os := by
  intro base w0 w gs tm hr hb
  obtain ⟨gs', hr'⟩ := ht _ _ _ _ hr
  exact h base w0 w gs' tm hr' hb
theorem AOps.turns {P : Program} {l rest : List Oper} {K : APost} {env env' : Env} {os os' : List AO} (ht : Turns env os env' os') (h : AOps P .seq l rest K env' os') : AOps P .seq l rest K env os := by
  intro base w0 w gs tm hr hb X Rt
  obtain ⟨gs', hr'⟩ := ht _ _ _ _ hr
  exact h base w0 w gs' tm hr' hb X Rt

/-! ### Functions that are handed the pointer -/
def AFnP (P : Program) (f : FuncId) (as0 : List Value) (T e e2 : TypeId) (L L' : List (List Int)) (v : Value) : Prop :=
  HasBody P f ∧ ∀ base w g, base ≤ w.heap.size → CntP T e e2 L base w g → (∀ b, b ∈ g.bl → base ≤ b ∧ b < w.heap.size) →
    Calls P f (g.v :: as0).toArray w fun ev w' => ∃ g' : Gh, ev = .returned v ∧ g'.v = g.v ∧ g'.b = g.b ∧ CntP T e e2 L' base w' g' ∧ (∀ b, b ∈ g'.bl → (b ∈ g.bl ∨ w.heap.size ≤ b) ∧ b < w'.heap.size) ∧ Below base w w' ∧ ∀ b, b < w.heap.size → b ∉ g.bl → w'.heap[b]? = w.heap[b]?
/-- What stands at the end. -/
def CntEnd (P : Program) (fn : Func) (T e e2 : TypeId) (L' : List (List Int)) (v : Value) (K : Kp) (env : Env) (os : List AO) : Prop :=
  ∃ k : Nat, ResIs P fn env os (.val v) ∧ os[1]? = some (.bx T [.own k]) ∧ os[k]? = some (.sls e e2 L') ∧ (1 == k) = false ∧ os[0]? = some (.keep 2 K)

set_option maxHeartbeats 1000000 in
theorem AFnP.of {P : Program} {f : FuncId} {fn : Func} {c : Code} {as0 : List Value} {args' : List AV} {T e e2 : TypeId} {L L' : List (List Int)} {v : Value} {n : Nat} (hf : P.funcs[f]? = some fn) (hb : fn.body = some c) (hnm : (fn.name == "runtime.NumGoroutine") = false) (hn : fn.ntmps - (as0.length + 1) = n) (ha : args' = .optr 1 0 :: as0.map AV.val)
    (h : ∀ K, AWp P c (CntEnd P fn T e e2 L' v K) (fun _ _ _ => False) (CntEnd P fn T e e2 L' v K) (Env.start args' n) [.keep 2 K, .bx T [.own 2], .sls e e2 L]) :
    AFnP P f as0 T e e2 L L' v := by
  refine ⟨⟨fn, c, hf, hnm, hb⟩, fun base w g hbase hC hgn => calls_of_wp hf hb ?_⟩
  have hvs : ((g.v :: as0).toArray).size = as0.length + 1 := by simp
  rw [show fn.ntmps - ((g.v :: as0).toArray).size = n by rw [hvs]; exact hn]
  obtain ⟨p, a1, a2, a3, a4, a5, a6⟩ := hC
  let bl : List Nat := (List.range w.heap.size).filter fun b => decide (base ≤ b) && !g.bl.contains b
  let gk : Gh := ⟨undef, 0, bl, []⟩
  let gb : Gh := ⟨g.v, g.b, [g.b], []⟩
  let K : Kp := ⟨fun b => w.heap[b]?, [gk, gb]⟩
  have hbl : ∀ b, b ∈ bl ↔ b < w.heap.size ∧ base ≤ b ∧ b ∉ g.bl := by
    intro b
    simp only [bl, List.mem_filter, List.mem_range, Bool.and_eq_true, decide_eq_true_eq, Bool.not_eq_true', List.contains_eq_mem, decide_eq_false_iff_not]
  have subB : ∀ b, b ∈ gb.bl → b ∈ g.bl := fun b hb => by rw [a5]; simp [gb] at hb; simp [hb]
  have subP : ∀ b, b ∈ p.bl → b ∈ g.bl := fun b hb => by rw [a5]; simp [hb]
  have gg : ∀ {i : Nat} {x : Gh}, [gk, gb, p][i]? = some x → (i = 0 ∧ x = gk) ∨ (i = 1 ∧ x = gb) ∨ (i = 2 ∧ x = p) := by
    intro i x hx
    match i with
    | 0 => simp at hx; exact .inl ⟨rfl, hx.symm⟩
    | 1 => simp at hx; exact .inr (.inl ⟨rfl, hx.symm⟩)
    | 2 => simp at hx; exact .inr (.inr ⟨rfl, hx.symm⟩)
    | i + 3 => simp at hx
  have go : ∀ {i : Nat} {x : AO}, [AO.keep 2 K, .bx T [.own 2], .sls e e2 L][i]? = some x → (i = 0 ∧ x = .keep 2 K) ∨ (i = 1 ∧ x = .bx T [.own 2]) ∨ (i = 2 ∧ x = .sls e e2 L) := by
    intro i x hx
    match i with
    | 0 => simp at hx; exact .inl ⟨rfl, hx.symm⟩
    | 1 => simp at hx; exact .inr (.inl ⟨rfl, hx.symm⟩)
    | 2 => simp at hx; exact .inr (.inr ⟨rfl, hx.symm⟩)
    | i + 3 => simp at hx
  have hrel : Rel base w [gk, gb, p] (Env.start args' n) [.keep 2 K, .bx T [.own 2], .sls e e2 L] ((g.v :: as0).toArray ++ Array.replicate n undef) := by
    refine ⟨hbase, rfl, by simp [Env.start, ha], fun i => start_rv args' n _ (fun i => ?_) i, ?_, ?_, ?_⟩
    · rw [ha]
      match i with
      | 0 =>
        have : RV w (okOf [gk, gb, p] [.keep 2 K, .bx T [.own 2], .sls e e2 L]) [gk, gb, p] (.pointer (some ⟨gb.b, 0, none⟩)) (.optr 1 0) := .optr (by simp)
        simpa [a3, gb] using this
      | i + 1 =>
        simp only [Array.getD_eq_getD_getElem?, List.getElem?_toArray, List.getElem?_cons_succ, List.getD_eq_getElem?_getD, List.getElem?_map]
        cases as0[i]? with
        | none => exact .any _
        | some u => exact .val _
    · intro i x y hx hy
      rcases gg hx with ⟨rfl, rfl⟩ | ⟨rfl, rfl⟩ | ⟨rfl, rfl⟩
      · rcases go hy with ⟨_, rfl⟩ | ⟨h0, _⟩ | ⟨h0, _⟩
        · exact ⟨fun b _ => rfl, rfl, fun i x h => by
            match i with
            | 0 => exact h
            | 1 => exact h
            | i + 2 => simp [K] at h⟩
        · omega
        · omega
      · rcases go hy with ⟨h0, _⟩ | ⟨_, rfl⟩ | ⟨h0, _⟩
        · omega
        · refine ⟨[p.v], a1, a2, rfl, a3, rfl, fun c hc => by simp at hc; subst hc; exact a4.one.1, fun j => ?_⟩
          match j with
          | 0 => exact .own (by simp)
          | j + 1 => exact .any _
        · omega
      · rcases go hy with ⟨h0, _⟩ | ⟨h0, _⟩ | ⟨_, rfl⟩
        · omega
        · omega
        · exact a4.ro
    · intro i j g1 g2 o1 o2 hij hg1 hg2 ho1 ho2 _ _ b hb1 hb2
      rcases gg hg1 with ⟨rfl, rfl⟩ | ⟨rfl, rfl⟩ | ⟨rfl, rfl⟩
      · rcases gg hg2 with ⟨rfl, rfl⟩ | ⟨rfl, rfl⟩ | ⟨rfl, rfl⟩
        · exact hij rfl
        · exact ((hbl b).1 hb1).2.2 (subB b hb2)
        · exact ((hbl b).1 hb1).2.2 (subP b hb2)
      · rcases gg hg2 with ⟨rfl, rfl⟩ | ⟨rfl, rfl⟩ | ⟨rfl, rfl⟩
        · exact ((hbl b).1 hb2).2.2 (subB b hb1)
        · exact hij rfl
        · simp [gb] at hb1; subst hb1; exact a6 hb2
      · rcases gg hg2 with ⟨rfl, rfl⟩ | ⟨rfl, rfl⟩ | ⟨rfl, rfl⟩
        · exact ((hbl b).1 hb2).2.2 (subP b hb1)
        · simp [gb] at hb2; subst hb2; exact a6 hb1
        · exact hij rfl
    · intro i x y hx hy _ b hb
      rcases gg hx with ⟨rfl, rfl⟩ | ⟨rfl, rfl⟩ | ⟨rfl, rfl⟩
      · exact ⟨((hbl b).1 hb).2.1, ((hbl b).1 hb).1⟩
      · exact hgn b (subB b hb)
      · exact hgn b (subP b hb)
  have fin : ∀ {env : Env} {os1 : List AO} {gs2 : List Gh} {a : Act} {w' : World}, Rel base w' gs2 env os1 a.tmps → Below base w w' → CntEnd P fn T e e2 L' v K env os1 →
      ∃ u, (results fn a.tmps).run P w' = .ok u w' ∧ ∃ g' : Gh, Exit.ret = Exit.ret ∧ u = v ∧ g'.v = g.v ∧ g'.b = g.b ∧ CntP T e e2 L' base w' g' ∧ (∀ b, b ∈ g'.bl → (b ∈ g.bl ∨ w.heap.size ≤ b) ∧ b < w'.heap.size) ∧ Below base w w' ∧ ∀ b, b < w.heap.size → b ∉ g.bl → w'.heap[b]? = w.heap[b]? := by
    intro env os1 gs2 a w' hr hbel ⟨k, hres, hbx, hok, hk1, hkp⟩
    obtain ⟨u, hu, hv⟩ := hres _ _ _ _ hr
    cases hv
    have hgt : ∀ {i : Nat} {o : AO}, os1[i]? = some o → ∃ x, gs2[i]? = some x := fun {i o} hi => by
      have : i < gs2.length := by rw [hr.hl]; exact (List.getElem?_eq_some_iff.1 hi).1
      exact ⟨_, List.getElem?_eq_getElem this⟩
    obtain ⟨g0, hg0⟩ := hgt hkp
    obtain ⟨g1, hg1⟩ := hgt hbx
    obtain ⟨gx, hgx⟩ := hgt hok
    obtain ⟨r1, r2, r3⟩ := hr.ho _ _ _ hg0 hkp
    have e0 : g0 = gk := by have := r3 0 gk rfl; rw [hg0] at this; exact Option.some.inj this
    have e1 : g1 = gb := by have := r3 1 gb rfl; rw [hg1] at this; exact Option.some.inj this
    subst e0 e1
    have hk0 : k ≠ 0 := fun e => by subst e; rw [hkp] at hok; cases hok
    have hk1' : k ≠ 1 := fun e => by subst e; simp at hk1
    obtain ⟨cs, c1, c2, c3, c4, c5, c6, c7⟩ := hr.ho _ _ _ hg1 hbx
    match cs, c5 with
    | [c0], _ =>
    have h0 := c7 0
    simp only [List.getD_cons_zero] at h0
    have ec : c0 = gx.v := by
      cases h0 with
      | own hh => rw [hgx] at hh; cases hh; rfl
    subst ec
    have hpx : PartP e e2 L' base w' gx := PartP.of (hr.ho _ _ _ hgx hok)
    have hxn := hr.hn _ _ _ hgx hok (by simp)
    have hbn := hr.hn _ _ _ hg1 hbx (by simp)
    refine ⟨v, hu, ⟨g.v, g.b, g.b :: gx.bl, []⟩, rfl, rfl, rfl, rfl, ⟨gx, c1, c2, a3, hpx, rfl, fun hm => ?_⟩, fun b hb => ?_, hbel, fun b hb hnot => ?_⟩
    · exact hr.hd k 1 gx gb _ _ hk1' hgx hg1 hok hbx (by simp) (by simp) g.b hm (by simp [gb])
    · simp only [List.mem_cons] at hb
      rcases hb with rfl | hb
      · exact ⟨.inl (subB _ (by simp [gb])), (hbn _ (by simp [gb])).2⟩
      · have hbn2 := hxn b hb
        refine ⟨?_, hbn2.2⟩
        by_cases hbw : b < w.heap.size
        · left
          apply Classical.byContradiction
          intro hnb
          exact hr.hd k 0 gx gk _ _ hk0 hgx hg0 hok hkp (by simp) (by simp) b hb ((hbl b).2 ⟨hbw, hbn2.1, hnb⟩)
        · right; omega
    · rcases Nat.lt_or_ge b base with h6 | h6
      · exact hbel.block b h6
      · exact r1 b ((hbl b).2 ⟨hb, h6, hnot⟩)
  refine wp_mono (h K base w w _ _ hrel (Below.refl _ _)) ?_
  intro ev a w' hq
  cases ev with
  | normal =>
    obtain ⟨env, os1, gs1, hr, hd, hbel, hx⟩ := hq
    obtain ⟨u, hu, g', _, rfl, r⟩ := fin hr hbel hx
    exact ⟨hd, _, hu, g', rfl, r⟩
  | exit j => obtain ⟨_, _, _, _, _, _, hx⟩ := hq; exact hx.elim
  | ret =>
    obtain ⟨env, os1, gs1, hr, hd, hbel, hx⟩ := hq
    obtain ⟨u, hu, g', _, rfl, r⟩ := fin hr hbel hx
    exact ⟨hd, _, hu, g', rfl, r⟩
  | goto l => exact (hq : False).elim
  | panic ch => exact (hq : False).elim
  | outgrown => exact (hq : False).elim
theorem AFnP.start {P : Program} {f : FuncId} {fn : Func} {nt : Nat} {as0 : List Value} {T e e2 : TypeId} {L L' : List (List Int)} {v : Value} (hf : P.funcs[f]? = some fn) (hnt : fn.ntmps = nt) {c : Code} (hb : fn.body = some c) (hnm : (fn.name == "runtime.NumGoroutine") = false)
    (h : ∀ K, AWp P c (CntEnd P fn T e e2 L' v K) (fun _ _ _ => False) (CntEnd P fn T e e2 L' v K) (Env.start (.optr 1 0 :: as0.map AV.val) (nt - (as0.length + 1))) [.keep 2 K, .bx T [.own 2], .sls e e2 L]) :
    AFnP P f as0 T e e2 L L' v := AFnP.of hf hb hnm (by rw [hnt]) rfl h

section
variable {P : Program} {env : Env} {os : List AO} {d : Option Tmp} {ty : TypeId} {pos : String} {af : Array Edge} {g : Option (Nat × Bool)}
end
section
variable {P : Program} {env : Env} {os : List AO} {d : Tmp} {ty : TypeId} {pos : String} {af : Array Edge} {g : Option (Nat × Bool)} {l rest : List Oper} {K : APost} {q : Md}
end
end Go.Proofs.Ytkcbihmpjkkccaa
/-
  A nil check, a shift by one, a conversion back from uint. No condition.
-/
namespace Go.Proofs.Ytkcbihmpjkkccaa
open Go Go.RowKit
set_option linter.unusedSimpArgs false
section
variable {P : Program} {wl : Bool} {env : Env} {os : List AO} {d : Option Tmp} {ty : TypeId} {pos : String} {af : Array Edge} {g : Option (Nat × Bool)}
theorem q_nilck {x : Operand} {h i : Nat} (hx : AV.ev env x = .optr h i) : QOp P wl ⟨d, .nilCheck x, ty, pos, af, g⟩ env os (.optr h i) :=
  .of_run fun _ w gs tm hr => by
    have hh := hr.ev x
    rw [hx] at hh
    generalize hv : Act.eval ⟨tm, []⟩ x = v at hh
    cases hh with
    | optr hg => exact ⟨_, .optr hg, fun w' _ => by simp [execOp, hv]⟩
theorem q_convu {src dst : TypeId} [hs : TKind P src .i64] [hd : TKind P dst .u64] {x : Operand} {a : Int} (ha : AV.ev env x = .i a) (h0 : 0 ≤ a) (h1 : a ≤ 9223372036854775807) :
    QOp P wl ⟨d, .convert src dst x, ty, pos, af, g⟩ env os (.val (.int .u64 a)) :=
  .of_run fun _ _ _ tm hr => ⟨_, .val _, fun w' _ => by
    have e : IntKind.u64.wrap a = a := by simp [IntKind.wrap, IntKind.bits, IntKind.signed]; omega
    simp [execOp, hr.evv ha, convert, run_underlying hs.und, run_underlying hd.und, Conv.intToInt, e]⟩
theorem q_convi {src dst : TypeId} [hs : TKind P src .u64] [hd : TKind P dst .i64] {x : Operand} {a : Int} (ha : AV.ev env x = .val (.int .u64 a)) (h0 : 0 ≤ a) (h1 : a ≤ 9223372036854775807) :
    QOp P wl ⟨d, .convert src dst x, ty, pos, af, g⟩ env os (.i a) :=
  .of_run fun _ _ _ tm hr => ⟨_, .val _, fun w' _ => by
    have e : IntKind.i64.wrap a = a := by rw [IntKind.wrap_i64]; omega
    simp [execOp, hr.evv ha, convert, run_underlying hs.und, run_underlying hd.und, Conv.intToInt, e]⟩
theorem q_shr1 {xt yt : TypeId} {x y : Operand} {a : Int} (ha : AV.ev env x = .val (.int .u64 a)) (hb : AV.ev env y = .val (.int .u64 1)) (h0 : 0 ≤ a) (h1 : a ≤ 9223372036854775807) :
    QOp P wl ⟨d, .binOp .shr xt x y yt, ty, pos, af, g⟩ env os (.val (.int .u64 (a / 2))) :=
  q_bin ha hb (by simp [go_sem]) fun w => by
    have e : IntKind.u64.wrap (a / 2) = a / 2 := by simp [IntKind.wrap, IntKind.bits, IntKind.signed]; omega
    simp [go_sem, e]
end
section
variable {P : Program} {env : Env} {os : List AO} {d : Tmp} {ty : TypeId} {pos : String} {af : Array Edge} {g : Option (Nat × Bool)} {l rest : List Oper} {K : APost} {q : Md}
theorem w_nilck {x : Operand} {h i : Nat} (hw : wantedA l env ⟨some d, .nilCheck x, ty, pos, af, g⟩ = some true) (hx : evo env x = some (.optr h i)) (h' : AOps P q l rest K (env.up d (.optr h i)) os) : AOps P q l (⟨some d, .nilCheck x, ty, pos, af, g⟩ :: rest) K env os := AOps.qo hw (q_nilck (ev_of hx)) h'
theorem w_convu {src dst : TypeId} [TKind P src .i64] [TKind P dst .u64] {x : Operand} {a : Int} (hw : wantedA l env ⟨some d, .convert src dst x, ty, pos, af, g⟩ = some true) (ha : evo env x = some (.i a)) (h0 : 0 ≤ a) (h1 : a ≤ 9223372036854775807) (h' : AOps P q l rest K (env.up d (.val (.int .u64 a))) os) :
    AOps P q l (⟨some d, .convert src dst x, ty, pos, af, g⟩ :: rest) K env os := AOps.qo hw (q_convu (ev_of ha) h0 h1) h'
theorem w_convi {src dst : TypeId} [TKind P src .u64] [TKind P dst .i64] {x : Operand} {a : Int} (hw : wantedA l env ⟨some d, .convert src dst x, ty, pos, af, g⟩ = some true) (ha : evo env x = some (.val (.int .u64 a))) (h0 : 0 ≤ a) (h1 : a ≤ 9223372036854775807) (h' : AOps P q l rest K (env.up d (.i a)) os) :
    AOps P q l (⟨some d, .convert src dst x, ty, pos, af, g⟩ :: rest) K env os := AOps.qo hw (q_convi (ev_of ha) h0 h1) h'
theorem w_shr1 {xt yt : TypeId} {x y : Operand} {a : Int} (hw : wantedA l env ⟨some d, .binOp .shr xt x y yt, ty, pos, af, g⟩ = some true) (ha : evo env x = some (.val (.int .u64 a))) (hb : evo env y = some (.val (.int .u64 1))) (h0 : 0 ≤ a) (h1 : a ≤ 9223372036854775807) (h' : AOps P q l rest K (env.up d (.val (.int .u64 (a / 2)))) os) :
    AOps P q l (⟨some d, .binOp .shr xt x y yt, ty, pos, af, g⟩ :: rest) K env os := AOps.qo hw (q_shr1 (ev_of ha) (ev_of hb) h0 h1) h'
end
end Go.Proofs.Ytkcbihmpjkkccaa
/-
  Bytes that are read, unsigned numbers, and a struct of bytes, a place and a hash behind a pointer; functions that write to it in its place. No condition.
-/
namespace Go.Proofs.Ytkcbihmpjkkccaa
open Go Go.RowKit
set_option linter.unusedSimpArgs false

def BysAt (w : World) (ok : Nat → Prop) (v : Value) (bs : List Int) : Prop :=
  RowAt w ok v (bs.map (Value.int .u8)) ∧ ∀ x ∈ bs, 0 ≤ x ∧ x ≤ 255
theorem BysAt.mono {w w' : World} {ok ok' : Nat → Prop} {v : Value} {xs : List Int} (h : BysAt w ok v xs) (k : Keeps ok ok' w w') : BysAt w' ok' v xs := ⟨h.1.mono k, h.2⟩
def byR (bs : List Int) : Ro where
  p w ok v := BysAt w ok v bs
  up k h := h.mono k
def roB (u : Value) (bs : List Int) : Ro where
  p w ok v := v = u ∧ BysAt w ok v bs
  up k h := ⟨h.1, h.2.mono k⟩
def byP (bs : List Int) (i : Int) : Ro where
  p w ok v := ∃ b off, v = .pointer (some ⟨b, off, none⟩) ∧ ok b ∧ w.cell? ⟨b, off, none⟩ = some (.int .u8 (geti bs i))
  up k h := by
    obtain ⟨b, off, e, h1, h2⟩ := h
    have hk := k b h1 (World.block_lt_of_cell? _ _ h2)
    exact ⟨b, off, e, hk.1, (World.cell?_of_block hk.2).trans h2⟩
def RdB (a : AV) (bs : List Int) : Prop := ∀ w ok gs v, RV w ok gs v a → BysAt w ok v bs
theorem rdB_by (bs : List Int) : RdB (.ro (byR bs)) bs := fun _ _ _ _ h => by cases h with | ro h => exact h
theorem rdB_ro (u : Value) (bs : List Int) : RdB (.ro (roB u bs)) bs := fun _ _ _ _ h => by cases h with | ro h => exact h.2

section
variable {P : Program} {wl : Bool} {env : Env} {os : List AO} {d : Option Tmp} {ty : TypeId} {pos : String} {af : Array Edge} {g : Option (Nat × Bool)}
theorem q_lenb {t e : TypeId} [ht : TSlice P t e] {x : Operand} {a : AV} {bs : List Int} (hx : AV.ev env x = a) (ha : RdB a bs) :
    QOp P wl ⟨d, .call { callee := .builtin .len, args := #[x], argTypes := #[t] }, ty, pos, af, g⟩ env os (.i bs.length) :=
  .of_run fun _ w gs tm hr => by
    have h := hr.ev x
    rw [hx] at h
    obtain ⟨⟨p, cap, hv, _⟩, _⟩ := ha _ _ _ _ h
    rw [List.length_map] at hv
    refine ⟨_, .val _, fun w' _ => ?_⟩
    simp [execOp, resolve, invoke, builtin, hv, Builtin.len_, run_underlying ht.und, goInt]
theorem q_idxby {t e : TypeId} [ht : TSlice P t e] [he : TCell P e] {x y : Operand} {a : AV} {bs : List Int} {i : Int} (hx : AV.ev env x = a) (ha : RdB a bs) (hy : AV.ev env y = .i i) (h0 : 0 ≤ i) (h1 : i < bs.length) :
    QOp P wl ⟨d, .indexAddr t x y, ty, pos, af, g⟩ env os (.ro (byP bs i)) :=
  .of_run fun _ w gs tm hr => by
    have h := hr.ev x
    rw [hx] at h
    obtain ⟨⟨p, cap, e1, _, _, h3⟩, _⟩ := ha _ _ _ _ h
    obtain ⟨b, off, rfl, hok, hc⟩ := h3 (by simp; omega)
    have hlt : i.toNat < bs.length := by omega
    have hcell := hc i.toNat (.int .u8 (geti bs i)) (by simp [geti, hlt])
    refine ⟨_, .ro ⟨b, off + i.toNat, rfl, hok, hcell⟩, fun w' _ => ?_⟩
    obtain ⟨ie, hi, hs⟩ := he.info
    have hrun := run_idx ht.und hi hs ⟨b, off, none⟩ (bs.map (Value.int .u8)).length cap i h0 (by simpa using h1) w'
    simp only [execOp, e1, hr.evv hy, Sem.run_bind, hrun, add_none, Result.andThen_ok, Sem.run_pure]
theorem q_ldby {t : TypeId} [ht : TCell P t] {x : Operand} {bs : List Int} {i : Int} (hx : AV.ev env x = .ro (byP bs i)) : QOp P false ⟨d, .load t x, ty, pos, af, g⟩ env os (.val (.int .u8 (geti bs i))) :=
  .of_runb fun _ w gs tm hr => by
    have h := hr.ev x
    rw [hx] at h
    generalize hv : Act.eval ⟨tm, []⟩ x = v at h
    cases h with
    | ro h =>
      obtain ⟨b, off, rfl, _, hc⟩ := h
      refine ⟨_, .val _, fun w' hw' => ?_⟩
      have hcell := below_cell hw' hc
      simp only [execOp, hv, Sem.run_bind, run_load_cell hcell, Result.andThen_ok, Sem.run_pure]
theorem q_umul {xt yt : TypeId} {x y : Operand} {a b : Int} (ha : AV.ev env x = .val (.int .u64 a)) (hb : AV.ev env y = .val (.int .u64 b)) :
    QOp P wl ⟨d, .binOp .mul xt x y yt, ty, pos, af, g⟩ env os (.val (.int .u64 (IntKind.u64.wrap (a * b)))) :=
  q_bin ha hb (by simp [go_sem]) fun w => by simp [go_sem]
theorem q_uadd {xt yt : TypeId} {x y : Operand} {a b : Int} (ha : AV.ev env x = .val (.int .u64 a)) (hb : AV.ev env y = .val (.int .u64 b)) :
    QOp P wl ⟨d, .binOp .add xt x y yt, ty, pos, af, g⟩ env os (.val (.int .u64 (IntKind.u64.wrap (a + b)))) :=
  q_bin ha hb (by simp [go_sem]) fun w => by simp [go_sem]
theorem q_convb {k : IntKind} {src dst : TypeId} [hs : TKind P src .u8] [hd : TKind P dst k] {x : Operand} {a : Int} (ha : AV.ev env x = .val (.int .u8 a)) (e : k.wrap a = a) :
    QOp P wl ⟨d, .convert src dst x, ty, pos, af, g⟩ env os (.val (.int k a)) :=
  .of_run fun _ _ _ tm hr => ⟨_, .val _, fun w' _ => by
    simp [execOp, hr.evv ha, convert, run_underlying hs.und, run_underlying hd.und, Conv.intToInt, e]⟩
end
end Go.Proofs.Ytkcbihmpjkkccaa
/-
  An argument that is a slice of bytes. No condition.
-/
namespace Go.Proofs.Ytkcbihmpjkkccaa
open Go Go.RowKit Go.ChangeShapes Go.WideShapes Go.Deep

theorem wf_u8 {n : Int} (h : (Lit.int .u8 n).wf = true) : 0 ≤ n ∧ n ≤ 255 := by
  simp only [Lit.wf, Bool.and_eq_true, decide_eq_true_eq] at h
  exact ⟨by have := h.1; simpa [IntKind.min, IntKind.signed, IntKind.bits] using this, by have := h.2; simpa [IntKind.max, IntKind.signed, IntKind.bits] using this⟩
theorem bysAt_of {w : World} {A : Option Addr} {L C : Nat} {zs : List Int} (h1 : L ≤ C) (h2 : C ≤ maxLen) (hl : L ≤ zs.length)
    (hA : A = none → L = 0) (hc : ∀ a, A = some a → ∀ i, i < L → w.cell? (a.add i) = some (.int .u8 (zs.getD i 0))) (hw : ∀ n ∈ zs, (Lit.int .u8 n).wf = true) :
    BysAt w (fun _ => True) (.slice A L C) (zs.take L) := by
  have e : ((zs.take L).map (Value.int .u8)).length = L := by simp; omega
  refine ⟨⟨A, C, by rw [e], by omega, h2, fun hp => ?_⟩, fun x hx => wf_u8 (hw x (List.mem_of_mem_take hx))⟩
  rw [e] at hp
  cases A with
  | none => have := hA rfl; omega
  | some a =>
    obtain ⟨b, o, sp⟩ := a
    have h0 := hc _ rfl 0 hp
    have hs : sp = none := Go.Proofs.cell_spot h0
    subst hs
    refine ⟨b, o, rfl, trivial, fun i u hu => ?_⟩
    have hi := (List.getElem?_eq_some_iff.1 hu).1
    rw [e] at hi
    have hci := hc _ rfl i hi
    rw [← Addr.add_lit, hci]
    rw [List.getElem?_map, List.getElem?_take_of_lt hi] at hu
    rw [List.getD_eq_getElem?_getD]
    cases hz : zs[i]? with
    | none => rw [hz] at hu; cases hu
    | some z => rw [hz] at hu; simpa using hu
section
variable {H : Type} {enc : TypeId × Value → H} {P : Program} {w : World} {base : Nat} {held : Bool}
theorem arg_bytes {t e : TypeId} {v : Value} {d : DataW H} {ps : List MemPlace} (ht : P.underlying t = some (.slice e)) (he : P.underlying e = some (.int .u8)) (hc : P.cellsOf e = 1)
    (hval : Value.okWide P w .any 0 t v) (hd : DataW.Trod enc P w base (fun _ => true) held t v d ps) : ∃ bs, (∀ x ∈ bs, 0 ≤ x ∧ x ≤ 255) ∧ RV w (fun _ => True) [] v (.ro (byR bs)) := by
  obtain ⟨a, l, c, rfl⟩ := okWide_slice ht hval
  obtain ⟨fuel, hf⟩ := hd
  have h : DataW.trod enc P w base (fun _ => true) held fuel t [.slice a l c] = some (d, ps) := by simpa [Value.cells] using hf
  rcases open_ints ht he hc h with ⟨hv, _⟩ | ⟨a', len, cap, zs, hv, _, hl, hm, hz, _, hcell, hw⟩
  · have hv := (List.cons.inj hv).1
    cases hv
    have hb := bysAt_of (w := w) (A := none) (L := 0) (C := 0) (zs := []) (Nat.le_refl _) (by simp [maxLen]) (Nat.le_refl _) (fun _ => rfl) (fun a ha => by cases ha) (fun n hn => by cases hn)
    exact ⟨_, hb.2, .ro hb⟩
  · have hv := (List.cons.inj hv).1
    cases hv
    simp only [if_true] at hz
    have hb := bysAt_of (w := w) (A := some a') (zs := zs) hl hm (by omega) (fun ha => by cases ha) (fun a' ha i hi => by cases ha; exact hcell i (by omega)) hw
    exact ⟨_, hb.2, .ro hb⟩
end
end Go.Proofs.Ytkcbihmpjkkccaa
/-
  Power series with whole coefficients: a small ring. No condition.
-/
namespace Go.Proofs.Ytkcbihmpjkkccaa
namespace Cy

/-- A power series: its coefficients. -/
abbrev Ser := Nat → Int
def tl (f : Ser) : Ser := fun n => f (n + 1)
def mul : Ser → Ser → Ser
  | f, g, 0 => f 0 * g 0
  | f, g, n + 1 => f 0 * g (n + 1) + mul (tl f) g n
def add (f g : Ser) : Ser := fun n => f n + g n
def neg (f : Ser) : Ser := fun n => -f n
def zero : Ser := fun _ => 0
def one : Ser := fun n => if n = 0 then 1 else 0

theorem mul_0 (f g : Ser) : mul f g 0 = f 0 * g 0 := by rw [mul]
theorem mul_s (f g : Ser) (n : Nat) : mul f g (n + 1) = f 0 * g (n + 1) + mul (tl f) g n := by rw [mul]
theorem mul_s' (f g : Ser) (n : Nat) : mul f g (n + 1) = f (n + 1) * g 0 + mul f (tl g) n := by
  induction n generalizing f with
  | zero => simp only [mul_s, mul_0, tl]; omega
  | succ n ih =>
    rw [mul_s, ih, mul_s f (tl g)]
    simp only [tl]
    omega
theorem mul_comm (f g : Ser) : mul f g = mul g f := by
  funext n
  induction n generalizing f g with
  | zero => rw [mul_0, mul_0, Int.mul_comm]
  | succ n ih => rw [mul_s, mul_s', ih (tl f) g, Int.mul_comm]
theorem add_mul (f g h : Ser) : mul (add f g) h = add (mul f h) (mul g h) := by
  funext n
  induction n generalizing f g with
  | zero => simp only [mul_0, add, Int.add_mul]
  | succ n ih =>
    have e : tl (add f g) = add (tl f) (tl g) := rfl
    have := ih (tl f) (tl g)
    rw [mul_s, e, this]
    simp only [add, mul_s, Int.add_mul]
    omega
theorem mul_add (f g h : Ser) : mul h (add f g) = add (mul h f) (mul h g) := by
  rw [mul_comm, add_mul, mul_comm f, mul_comm g]
theorem neg_mul (f g : Ser) : mul (neg f) g = neg (mul f g) := by
  funext n
  induction n generalizing f with
  | zero => simp only [mul_0, neg, Int.neg_mul]
  | succ n ih =>
    have e : tl (neg f) = neg (tl f) := rfl
    have := ih (tl f)
    rw [mul_s, e, this]
    simp only [neg, mul_s, Int.neg_mul]
    omega
theorem mul_neg (f g : Ser) : mul g (neg f) = neg (mul g f) := by rw [mul_comm, neg_mul, mul_comm f]
theorem zero_mul (g : Ser) : mul zero g = zero := by
  funext n
  induction n with
  | zero => simp [mul_0, zero]
  | succ n ih =>
    have e : tl zero = zero := rfl
    rw [mul_s, e, ih]
    simp [zero]
theorem one_mul (g : Ser) : mul one g = g := by
  funext n
  cases n with
  | zero => simp [mul_0, one]
  | succ n =>
    have e : tl one = zero := by funext k; simp [tl, one, zero]
    rw [mul_s, e, zero_mul]
    simp [one, zero]
theorem mul_one (g : Ser) : mul g one = g := by rw [mul_comm, one_mul]
/-- The number times the series. -/
def sc (c : Int) (f : Ser) : Ser := fun n => c * f n
theorem sc_mul (c : Int) (f g : Ser) : mul (sc c f) g = sc c (mul f g) := by
  funext n
  induction n generalizing f with
  | zero => simp only [mul_0, sc, Int.mul_assoc]
  | succ n ih =>
    have e : tl (sc c f) = sc c (tl f) := rfl
    have := ih (tl f)
    rw [mul_s, e, this]
    simp only [sc, mul_s, Int.mul_add, Int.mul_assoc]
theorem tl_mul (f g : Ser) : tl (mul f g) = add (sc (f 0) (tl g)) (mul (tl f) g) := by
  funext n
  simp only [tl, mul_s, add, sc]
theorem mul_assoc (f g h : Ser) : mul (mul f g) h = mul f (mul g h) := by
  funext n
  induction n generalizing f g with
  | zero => simp only [mul_0, Int.mul_assoc]
  | succ n ih =>
    rw [mul_s, tl_mul, add_mul, mul_0]
    simp only [add]
    rw [ih (tl f) g, sc_mul, mul_s f]
    simp only [sc]
    rw [mul_s g, Int.mul_add, Int.mul_assoc]
    omega
theorem mul_left (f g h : Ser) : mul f (mul g h) = mul g (mul f h) := by rw [← mul_assoc, mul_comm f g, mul_assoc]
instance : Std.Associative mul := ⟨mul_assoc⟩
instance : Std.Commutative mul := ⟨mul_comm⟩

/-! ### Units at the place 0 -/
def Un (f : Ser) : Prop := f 0 = 1 ∨ f 0 = -1
theorem Un.mul {f g : Ser} (hf : Un f) (hg : Un g) : Un (mul f g) := by
  unfold Un at *
  rw [mul_0]
  rcases hf with h | h <;> rcases hg with k | k <;> rw [h, k] <;> simp
theorem un_one : Un one := .inl rfl
theorem mul_low {f g h : Ser} {n : Nat} (hh : ∀ j, j ≤ n → g j = h j) : mul f g n = mul f h n := by
  induction n generalizing f with
  | zero => rw [mul_0, mul_0, hh 0 (Nat.le_refl _)]
  | succ n ih => rw [mul_s, mul_s, hh _ (Nat.le_refl _), ih (fun j hj => hh j (by omega))]
theorem cancel {f g h : Ser} (hf : Un f) (e : mul f g = mul f h) : g = h := by
  have key : ∀ n j, j ≤ n → g j = h j := by
    intro n
    induction n with
    | zero =>
      intro j hj
      obtain rfl : j = 0 := by omega
      have := congrFun e 0
      rw [mul_0, mul_0] at this
      rcases hf with k | k <;> rw [k] at this <;> omega
    | succ n ih =>
      intro j hj
      by_cases hjn : j ≤ n
      · exact ih j hjn
      · obtain rfl : j = n + 1 := by omega
        have := congrFun e (n + 1)
        rw [mul_s, mul_s, mul_low (h := h) ih] at this
        rcases hf with k | k <;> rw [k] at this <;> omega
  funext n
  exact key n n (Nat.le_refl _)

/-! ### t ↦ t ^ k -/
def sub (k : Nat) (f : Ser) : Ser := fun n => if n % k = 0 then f (n / k) else 0
def sh (k : Nat) (f : Ser) : Ser := fun n => if n < k then 0 else f (n - k)
theorem sh_mul (k : Nat) (f g : Ser) : mul (sh k f) g = sh k (mul f g) := by
  induction k with
  | zero =>
    have e : ∀ h : Ser, sh 0 h = h := fun h => by funext n; simp [sh]
    rw [e, e]
  | succ k ih =>
    have e : ∀ h : Ser, tl (sh (k + 1) h) = sh k h := fun h => by
      funext n
      simp only [tl, sh, Nat.add_lt_add_iff_right, Nat.add_sub_add_right]
    funext n
    cases n with
    | zero => simp [mul_0, sh]
    | succ n =>
      rw [mul_s, e, ih]
      have : sh (k + 1) f 0 = 0 := by simp [sh]
      rw [this]
      simp only [sh, Nat.add_lt_add_iff_right, Nat.add_sub_add_right, Int.zero_mul, Int.zero_add]
theorem split (f : Ser) : f = add (sc (f 0) one) (sh 1 (tl f)) := by
  funext n
  cases n with
  | zero => simp [add, sc, one, sh]
  | succ n => simp [add, sc, one, sh, tl]
theorem sub_add (k : Nat) (f g : Ser) : sub k (add f g) = add (sub k f) (sub k g) := by
  funext n; simp only [sub, add]; split <;> simp
theorem sub_neg (k : Nat) (f : Ser) : sub k (neg f) = neg (sub k f) := by
  funext n; simp only [sub, neg]; split <;> simp
theorem sub_sc (k : Nat) (c : Int) (f : Ser) : sub k (sc c f) = sc c (sub k f) := by
  funext n; simp only [sub, sc]; split <;> simp
theorem sub_one {k : Nat} (_hk : 0 < k) : sub k one = one := by
  funext n
  simp only [sub, one]
  split
  · rename_i h
    have : n = k * (n / k) := by have := Nat.div_add_mod n k; omega
    by_cases h0 : n / k = 0
    · rw [h0] at this; simp [this]
    · have h1 : n ≠ 0 := fun e => h0 (by rw [e]; simp)
      simp [h0, h1]
  · rename_i h
    have : n ≠ 0 := fun e => h (by rw [e]; simp)
    simp [this]
theorem sub_sh {k : Nat} (hk : 0 < k) (j : Nat) (f : Ser) : sub k (sh j f) = sh (k * j) (sub k f) := by
  funext n
  simp only [sub, sh]
  by_cases h : n % k = 0
  · have hn : n = k * (n / k) := by have := Nat.div_add_mod n k; omega
    generalize n / k = q at *
    subst hn
    rw [if_pos h]
    by_cases hq : q < j
    · rw [if_pos hq, if_pos (Nat.mul_lt_mul_of_pos_left hq hk)]
    · have : k * j ≤ k * q := Nat.mul_le_mul_left _ (by omega)
      rw [if_neg hq, if_neg (by omega), ← Nat.mul_sub, Nat.mul_mod_right, if_pos rfl, Nat.mul_div_cancel_left _ hk]
  · rw [if_neg h]
    by_cases hq : n < k * j
    · rw [if_pos hq]
    · rw [if_neg hq, if_neg]
      intro e
      apply h
      have : n = (n - k * j) + k * j := by omega
      rw [this, Nat.add_mul_mod_self_left, e]
theorem sub_mul {k : Nat} (hk : 0 < k) (f g : Ser) : sub k (mul f g) = mul (sub k f) (sub k g) := by
  funext n
  induction n using Nat.strongRecOn generalizing f with
  | _ n ih =>
    have e1 : mul f g = add (sc (f 0) g) (sh 1 (mul (tl f) g)) := by
      conv => lhs; rw [split f]
      rw [add_mul, sc_mul, one_mul, sh_mul]
    have e2 : mul (sub k f) (sub k g) = add (sc (f 0) (sub k g)) (sh k (mul (sub k (tl f)) (sub k g))) := by
      conv => lhs; rw [split f]
      rw [sub_add, sub_sc, sub_one hk, sub_sh hk, Nat.mul_one, add_mul, sc_mul, one_mul, sh_mul]
    rw [e1, e2, sub_add, sub_sc, sub_sh hk, Nat.mul_one]
    simp only [add, sh]
    by_cases hn : n < k
    · rw [if_pos hn, if_pos hn]
    · rw [if_neg hn, if_neg hn, ih (n - k) (by omega)]
theorem sub_sub {a b : Nat} (ha : 0 < a) (_hb : 0 < b) (f : Ser) : sub a (sub b f) = sub (a * b) f := by
  funext n
  simp only [sub]
  by_cases h : n % a = 0
  · have hn : n = a * (n / a) := by have := Nat.div_add_mod n a; omega
    generalize n / a = q at *
    subst hn
    rw [if_pos h, Nat.mul_mod_mul_left, Nat.mul_div_mul_left _ _ ha]
    by_cases hq : q % b = 0
    · rw [if_pos hq, if_pos (by rw [hq, Nat.mul_zero])]
    · rw [if_neg hq, if_neg]
      intro e
      rcases Nat.mul_eq_zero.1 e with e | e
      · omega
      · exact hq e
  · rw [if_neg h, if_neg]
    intro e
    apply h
    have : a ∣ n := Nat.dvd_trans ⟨b, rfl⟩ (Nat.dvd_of_mod_eq_zero e)
    exact Nat.mod_eq_zero_of_dvd this
theorem un_sub {k : Nat} {f : Ser} (h : Un f) : Un (sub k f) := by
  unfold Un sub at *
  simpa using h

/-! ### Polynomials -/
def Pol (d : Nat) (f : Ser) : Prop := ∀ n, d < n → f n = 0
theorem Pol.tl {d : Nat} {f : Ser} (h : Pol (d + 1) f) : Pol d (tl f) := fun n hn => h (n + 1) (by omega)
theorem Pol.mul {a b : Nat} {f g : Ser} (hf : Pol a f) (hg : Pol b g) : Pol (a + b) (mul f g) := by
  intro n
  induction n generalizing f a with
  | zero => intro h; omega
  | succ n ih =>
    intro h
    rw [mul_s, hg (n + 1) (by omega)]
    cases a with
    | zero =>
      have : Cy.tl f = zero := by funext k; exact hf (k + 1) (by omega)
      rw [this, zero_mul]
      simp [zero]
    | succ a => rw [ih hf.tl (by omega)]; simp
theorem Pol.lead {a b : Nat} {f g : Ser} (hf : Pol a f) (hg : Pol b g) : Cy.mul f g (a + b) = f a * g b := by
  induction a generalizing f with
  | zero =>
    have e : Cy.tl f = zero := by funext k; exact hf (k + 1) (by omega)
    cases b with
    | zero => exact mul_0 f g
    | succ b => rw [Nat.zero_add, mul_s, e, zero_mul]; simp [zero]
  | succ a ih =>
    have e : a + 1 + b = (a + b) + 1 := by omega
    rw [e, mul_s, hg _ (by omega), ih hf.tl]
    simp [Cy.tl]
theorem Pol.add {a b : Nat} {f g : Ser} (hf : Pol a f) (hg : Pol b g) : Pol (max a b) (add f g) := fun n hn => by
  simp only [Cy.add]; rw [hf n (by omega), hg n (by omega)]; rfl
theorem Pol.neg {a : Nat} {f : Ser} (hf : Pol a f) : Pol a (neg f) := fun n hn => by
  simp only [Cy.neg]; rw [hf n hn]; rfl
theorem Pol.sub {a k : Nat} {f : Ser} (_hk : 0 < k) (hf : Pol a f) : Pol (k * a) (sub k f) := fun n hn => by
  simp only [Cy.sub]
  split
  · rename_i h
    have e : n = k * (n / k) := by have := Nat.div_add_mod n k; omega
    rw [e] at hn
    exact hf _ (Nat.lt_of_mul_lt_mul_left hn)
  · rfl
theorem Pol.mono {a b : Nat} {f : Ser} (hf : Pol a f) (h : a ≤ b) : Pol b f := fun n hn => hf n (by omega)
def IsPol (f : Ser) : Prop := ∃ d, Pol d f
theorem pol_one : IsPol one := ⟨0, fun n hn => by simp [one]; omega⟩
theorem IsPol.mul {f g : Ser} (hf : IsPol f) (hg : IsPol g) : IsPol (mul f g) := let ⟨_, h1⟩ := hf; let ⟨_, h2⟩ := hg; ⟨_, h1.mul h2⟩
theorem IsPol.add {f g : Ser} (hf : IsPol f) (hg : IsPol g) : IsPol (add f g) := let ⟨_, h1⟩ := hf; let ⟨_, h2⟩ := hg; ⟨_, h1.add h2⟩
theorem IsPol.neg {f : Ser} (hf : IsPol f) : IsPol (neg f) := let ⟨_, h1⟩ := hf; ⟨_, h1.neg⟩
theorem IsPol.sub {f : Ser} {k : Nat} (hk : 0 < k) (hf : IsPol f) : IsPol (sub k f) := let ⟨_, h1⟩ := hf; ⟨_, h1.sub hk⟩
end Cy
end Go.Proofs.Ytkcbihmpjkkccaa
/-
  Primes, greatest prime factors, lists of divisors. No condition.
-/
namespace Go.Proofs.Ytkcbihmpjkkccaa
namespace Cy

def prm (p : Nat) : Prop := 2 ≤ p ∧ ∀ d, d ∣ p → d = 1 ∨ d = p
theorem prm_cop {p a : Nat} (hp : prm p) (h : ¬ p ∣ a) : Nat.Coprime p a := by
  rcases hp.2 (Nat.gcd p a) (Nat.gcd_dvd_left p a) with e | e
  · exact e
  · exact absurd (e ▸ Nat.gcd_dvd_right p a) h
theorem prm_mul {p a b : Nat} (hp : prm p) (h : p ∣ a * b) : p ∣ a ∨ p ∣ b := by
  by_cases ha : p ∣ a
  · exact .inl ha
  · exact .inr ((prm_cop hp ha).dvd_of_dvd_mul_left h)
theorem prm_dvd {p q : Nat} (hp : prm p) (hq : prm q) (h : p ∣ q) : p = q := by
  rcases hq.2 p h with e | e
  · have := hp.1; omega
  · exact e
theorem prm_ex : ∀ n : Nat, 2 ≤ n → ∃ p, prm p ∧ p ∣ n := by
  intro n
  induction n using Nat.strongRecOn with
  | _ n ih =>
    intro h
    by_cases hp : prm n
    · exact ⟨n, hp, Nat.dvd_refl n⟩
    · have : ∃ d, d ∣ n ∧ d ≠ 1 ∧ d ≠ n := by
        apply Classical.byContradiction
        intro hn
        apply hp
        refine ⟨h, fun d hd => ?_⟩
        apply Classical.byContradiction
        intro h2
        exact hn ⟨d, hd, fun e => h2 (.inl e), fun e => h2 (.inr e)⟩
      obtain ⟨d, hd, h1, h2⟩ := this
      have hle := Nat.le_of_dvd (by omega) hd
      have h0 : d ≠ 0 := fun e => by subst e; have := Nat.eq_zero_of_zero_dvd hd; omega
      obtain ⟨p, hp, hpd⟩ := ih d (by omega) (by omega)
      exact ⟨p, hp, Nat.dvd_trans hpd hd⟩
open Classical in
noncomputable def gpfF (n : Nat) : Nat → Nat
  | 0 => 1
  | k + 1 => if prm (k + 1) ∧ (k + 1) ∣ n then k + 1 else gpfF n k
noncomputable def gpf (n : Nat) : Nat := gpfF n n
theorem gpfF_ok (n : Nat) : ∀ k : Nat, (∃ p, prm p ∧ p ∣ n ∧ p ≤ k) → prm (gpfF n k) ∧ gpfF n k ∣ n ∧ ∀ q, prm q → q ∣ n → q ≤ k → q ≤ gpfF n k
  | 0, ⟨p, hp, _, h⟩ => by have := hp.1; omega
  | k + 1, ⟨p, hp, hd, h⟩ => by
    rw [gpfF]
    split
    · rename_i hc
      exact ⟨hc.1, hc.2, fun q _ _ h => h⟩
    · rename_i hc
      have hk : p ≤ k := by
        rcases Nat.lt_or_ge k p with h1 | h1
        · have : p = k + 1 := by omega
          subst this
          exact absurd ⟨hp, hd⟩ hc
        · exact h1
      obtain ⟨a, b, c⟩ := gpfF_ok n k ⟨p, hp, hd, hk⟩
      refine ⟨a, b, fun q hq hqd hqk => ?_⟩
      rcases Nat.lt_or_ge k q with h1 | h1
      · have : q = k + 1 := by omega
        subst this
        exact absurd ⟨hq, hqd⟩ hc
      · exact c q hq hqd h1
theorem gpf_ok {n : Nat} (h : 2 ≤ n) : prm (gpf n) ∧ gpf n ∣ n ∧ ∀ q, prm q → q ∣ n → q ≤ gpf n := by
  obtain ⟨p, hp, hd⟩ := prm_ex n h
  obtain ⟨a, b, c⟩ := gpfF_ok n n ⟨p, hp, hd, Nat.le_of_dvd (by omega) hd⟩
  exact ⟨a, b, fun q hq hqd => c q hq hqd (Nat.le_of_dvd (by omega) hqd)⟩
/-- All prime factors of m are at most p. -/
def Upto (p m : Nat) : Prop := ∀ q, prm q → q ∣ m → q ≤ p
theorem gpf_mul {p m : Nat} (hp : prm p) (hm : 0 < m) (hu : Upto p m) : gpf (m * p) = p := by
  have h2 := hp.1
  have hge : 2 ≤ m * p := by have := Nat.mul_le_mul hm (Nat.le_refl p); omega
  obtain ⟨a, b, c⟩ := gpf_ok hge
  have h1 := c p hp ⟨m, Nat.mul_comm m p⟩
  rcases prm_mul a b with h | h
  · have := hu _ a h; omega
  · exact prm_dvd a hp h
theorem gpf_split {n : Nat} (h : 2 ≤ n) : ∃ m, n = m * gpf n ∧ 0 < m ∧ m < n ∧ Upto (gpf n) m := by
  obtain ⟨a, ⟨m, hm⟩, c⟩ := gpf_ok h
  have h2 := a.1
  rw [Nat.mul_comm] at hm
  have hm0 : 0 < m := Nat.pos_of_ne_zero fun e => by rw [e] at hm; omega
  refine ⟨m, hm, hm0, ?_, fun q hq hqd => c q hq (Nat.dvd_trans hqd ⟨gpf n, hm⟩)⟩
  have := Nat.mul_lt_mul_of_pos_left (show 1 < gpf n by omega) hm0
  omega
theorem Upto.dvd {p m d : Nat} (h : Upto p m) (hd : d ∣ m) : Upto p d := fun q hq hqd => h q hq (Nat.dvd_trans hqd hd)

/-! ### Products over lists -/
def pr (l : List Nat) (F : Nat → Ser) : Ser := l.foldr (fun d s => mul (F d) s) one
theorem pr_nil (F : Nat → Ser) : pr [] F = one := rfl
theorem pr_cons (a : Nat) (l : List Nat) (F : Nat → Ser) : pr (a :: l) F = mul (F a) (pr l F) := rfl
theorem pr_append (l m : List Nat) (F : Nat → Ser) : pr (l ++ m) F = mul (pr l F) (pr m F) := by
  induction l with
  | nil => rw [List.nil_append, pr_nil, one_mul]
  | cons a l ih => rw [List.cons_append, pr_cons, pr_cons, ih, mul_assoc]
theorem pr_perm {l m : List Nat} (h : l.Perm m) (F : Nat → Ser) : pr l F = pr m F := by
  induction h with
  | nil => rfl
  | cons a _ ih => rw [pr_cons, pr_cons, ih]
  | swap a b l => simp only [pr_cons]; rw [mul_left]
  | trans _ _ h1 h2 => rw [h1, h2]
theorem pr_map (l : List Nat) (g : Nat → Nat) (F : Nat → Ser) : pr (l.map g) F = pr l fun d => F (g d) := by
  induction l with
  | nil => rfl
  | cons a l ih => rw [List.map_cons, pr_cons, pr_cons, ih]
theorem pr_mul (l : List Nat) (F G : Nat → Ser) : pr l (fun d => mul (F d) (G d)) = mul (pr l F) (pr l G) := by
  induction l with
  | nil => rw [pr_nil, pr_nil, pr_nil, one_mul]
  | cons a l ih =>
    rw [pr_cons, pr_cons, pr_cons, ih]
    ac_rfl
theorem pr_congr {l : List Nat} {F G : Nat → Ser} (h : ∀ d ∈ l, F d = G d) : pr l F = pr l G := by
  induction l with
  | nil => rfl
  | cons a l ih => rw [pr_cons, pr_cons, h a (by simp), ih fun d hd => h d (by simp [hd])]
theorem pr_filter (l : List Nat) (c : Nat → Bool) (F : Nat → Ser) : pr (l.filter c) F = pr l fun d => if c d then F d else one := by
  induction l with
  | nil => rfl
  | cons a l ih =>
    rw [List.filter_cons, pr_cons]
    split
    · rw [pr_cons, ih]
    · rw [ih, one_mul]
theorem pr_sub {k : Nat} (hk : 0 < k) (l : List Nat) (F : Nat → Ser) : sub k (pr l F) = pr l fun d => sub k (F d) := by
  induction l with
  | nil => exact sub_one hk
  | cons a l ih => rw [pr_cons, pr_cons, sub_mul hk, ih]
theorem un_pr {l : List Nat} {F : Nat → Ser} (h : ∀ d ∈ l, Un (F d)) : Un (pr l F) := by
  induction l with
  | nil => exact un_one
  | cons a l ih => exact (h a (by simp)).mul (ih fun d hd => h d (by simp [hd]))
theorem pol_pr {l : List Nat} {F : Nat → Ser} (h : ∀ d ∈ l, IsPol (F d)) : IsPol (pr l F) := by
  induction l with
  | nil => exact pol_one
  | cons a l ih => exact (h a (by simp)).mul (ih fun d hd => h d (by simp [hd]))

/-! ### Divisors -/
def divs (n : Nat) : List Nat := (List.range (n + 1)).filter fun d => decide (0 < d ∧ d ∣ n)
theorem mem_divs {n d : Nat} (hn : 0 < n) : d ∈ divs n ↔ d ∣ n := by
  simp only [divs, List.mem_filter, List.mem_range, decide_eq_true_eq]
  constructor
  · exact fun h => h.2.2
  · intro h
    have := Nat.le_of_dvd hn h
    exact ⟨by omega, Nat.pos_of_ne_zero fun e => by subst e; have := Nat.eq_zero_of_zero_dvd h; omega, h⟩
theorem divs_nodup (n : Nat) : (divs n).Nodup := List.nodup_range.filter _
theorem perm_of_mem : ∀ {l m : List Nat}, l.Nodup → m.Nodup → (∀ x, x ∈ l ↔ x ∈ m) → l.Perm m
  | [], m, _, _, h => by
    cases m with
    | nil => exact .nil
    | cons a m => exact absurd ((h a).2 (by simp)) (by simp)
  | a :: l, m, hl, hm, h => by
    obtain ⟨s, t, rfl⟩ := List.append_of_mem ((h a).1 (by simp))
    refine List.Perm.trans (List.Perm.cons a (perm_of_mem (m := s ++ t) (List.nodup_cons.1 hl).2 ?_ fun x => ?_)) List.perm_middle.symm
    · have := List.perm_middle.nodup_iff.1 hm
      exact (List.nodup_cons.1 this).2
    · have h1 := h x
      have hal := (List.nodup_cons.1 hl).1
      have hat := (List.nodup_cons.1 (List.perm_middle.nodup_iff.1 hm)).1
      simp only [List.mem_cons, List.mem_append] at h1 hat ⊢
      constructor
      · intro hx
        have hxa : x ≠ a := fun e => hal (e ▸ hx)
        rcases h1.1 (.inr hx) with k | k | k
        · exact .inl k
        · exact absurd k hxa
        · exact .inr k
      · intro hx
        have hxa : x ≠ a := fun e => hat (e ▸ hx)
        rcases h1.2 (by rcases hx with k | k; exact .inl k; exact .inr (.inr k)) with k | k
        · exact absurd k hxa
        · exact k
theorem divs_mul {p m : Nat} (hp : prm p) (hm : 0 < m) : (divs (m * p)).Perm ((divs m).map (· * p) ++ (divs m).filter fun d => decide (¬ p ∣ d)) := by
  have hp0 : 0 < p := by have := hp.1; omega
  have hmp : 0 < m * p := Nat.mul_pos hm hp0
  refine perm_of_mem (divs_nodup _) ?_ fun x => ?_
  · rw [List.nodup_append]
    refine ⟨List.Pairwise.map _ (fun a b (h : a ≠ b) e => h (Nat.eq_of_mul_eq_mul_right hp0 e)) (divs_nodup m), (divs_nodup m).filter _, fun a ha b hb e => ?_⟩
    obtain ⟨c, _, rfl⟩ := List.mem_map.1 ha
    have := (List.mem_filter.1 hb).2
    rw [← e] at this
    simp only [decide_eq_true_eq] at this
    exact this ⟨c, Nat.mul_comm c p⟩
  · rw [mem_divs hmp, List.mem_append, List.mem_map, List.mem_filter, mem_divs hm]
    simp only [decide_eq_true_eq]
    constructor
    · intro hx
      by_cases hpx : p ∣ x
      · obtain ⟨c, rfl⟩ := hpx
        refine .inl ⟨c, (mem_divs hm).2 ?_, Nat.mul_comm c p⟩
        rw [Nat.mul_comm p c] at hx
        exact Nat.dvd_of_mul_dvd_mul_right hp0 hx
      · exact .inr ⟨(prm_cop hp hpx).symm.dvd_of_dvd_mul_right hx, hpx⟩
    · rintro (⟨c, hc, rfl⟩ | ⟨hx, _⟩)
      · exact Nat.mul_dvd_mul_right ((mem_divs hm).1 hc) p
      · exact Nat.dvd_trans hx ⟨p, rfl⟩
theorem divs_self {n : Nat} (hn : 0 < n) : (divs n).Perm (n :: (divs n).filter fun d => decide (d ≠ n)) := by
  refine perm_of_mem (divs_nodup n) ?_ fun x => ?_
  · rw [List.nodup_cons]
    refine ⟨fun h => ?_, (divs_nodup n).filter _⟩
    have := (List.mem_filter.1 h).2
    simp at this
  · rw [List.mem_cons, List.mem_filter, mem_divs hn]
    simp only [decide_eq_true_eq]
    constructor
    · intro h
      by_cases e : x = n
      · exact .inl e
      · exact .inr ⟨h, e⟩
    · rintro (rfl | h)
      · exact Nat.dvd_refl x
      · exact h.1
end Cy
end Go.Proofs.Ytkcbihmpjkkccaa
/-
  Cyclotomic polynomials as power series. No condition.
-/
namespace Go.Proofs.Ytkcbihmpjkkccaa
namespace Cy

/-! ### t ^ n - 1 -/
def xp (n : Nat) : Ser := add (sh n one) (neg one)
theorem xp_0 {n : Nat} (h : 0 < n) : xp n 0 = -1 := by simp [xp, add, neg, sh, one, h]
theorem un_xp {n : Nat} (h : 0 < n) : Un (xp n) := .inr (xp_0 h)
theorem pol_sh {n : Nat} {f : Ser} (h : IsPol f) : IsPol (sh n f) := by
  obtain ⟨d, hd⟩ := h
  refine ⟨d + n, fun k hk => ?_⟩
  simp only [sh]
  rw [if_neg (by omega), hd _ (by omega)]
theorem pol_xp (n : Nat) : IsPol (xp n) := (pol_sh pol_one).add pol_one.neg
theorem sub_xp {k : Nat} (hk : 0 < k) (m : Nat) : sub k (xp m) = xp (k * m) := by
  unfold xp
  rw [sub_add, sub_neg, sub_sh hk, sub_one hk]
theorem mul_sh (k : Nat) (f g : Ser) : mul f (sh k g) = sh k (mul f g) := by rw [mul_comm, sh_mul, mul_comm]
theorem sh_sh (a b : Nat) (f : Ser) : sh a (sh b f) = sh (a + b) f := by
  funext n
  simp only [sh]
  by_cases h1 : n < a
  · rw [if_pos h1, if_pos (by omega)]
  · rw [if_neg h1]
    by_cases h2 : n - a < b
    · rw [if_pos h2, if_pos (by omega)]
    · rw [if_neg h2, if_neg (by omega), Nat.sub_sub]
theorem sh_add (k : Nat) (f g : Ser) : sh k (add f g) = add (sh k f) (sh k g) := by
  funext n; simp only [sh, add]; split <;> simp
theorem sh_neg (k : Nat) (f : Ser) : sh k (neg f) = neg (sh k f) := by
  funext n; simp only [sh, neg]; split <;> simp
theorem add_neg_cancel (f g : Ser) : add (add f g) (neg g) = f := by funext n; simp only [add, neg]; omega
theorem geo (m : Nat) : ∀ j : Nat, ∃ t, IsPol t ∧ mul (xp m) t = xp (m * j)
  | 0 => ⟨zero, ⟨0, fun _ _ => rfl⟩, by
      rw [mul_comm, zero_mul]
      funext n
      simp [xp, add, neg, sh, zero]
      omega⟩
  | j + 1 => by
    obtain ⟨t, h1, h2⟩ := geo m j
    refine ⟨add (sh m t) one, (pol_sh h1).add pol_one, ?_⟩
    rw [mul_add, mul_sh, h2, mul_one]
    unfold xp
    rw [sh_add, sh_sh, sh_neg, Nat.mul_succ, Nat.add_comm m]
    funext n
    simp only [add, neg]
    omega
theorem sh_one (k : Nat) (f : Ser) : sh k f = mul (sh k one) f := by rw [sh_mul, one_mul]
theorem sh_xp (k : Nat) : sh k one = add one (xp k) := by
  funext n
  simp only [xp, add, neg]
  omega
/-- t ^ e in place of t, where e is 1 more than a multiple of n. -/
theorem sub_mod {n j : Nat} : ∀ (d : Nat) {N : Ser}, Pol d N → ∃ W, IsPol W ∧ sub (1 + n * j) N = add N (mul (xp n) W) := by
  have he : 0 < 1 + n * j := by omega
  have step : ∀ {N : Ser} {W : Ser}, IsPol (tl N) → IsPol W → sub (1 + n * j) (tl N) = add (tl N) (mul (xp n) W) → ∃ W, IsPol W ∧ sub (1 + n * j) N = add N (mul (xp n) W) := by
    intro N W hN hW h
    obtain ⟨G, g1, g2⟩ := geo n j
    refine ⟨sh 1 (add W (mul G (add (tl N) (mul (xp n) W)))), pol_sh (hW.add (g1.mul (hN.add ((pol_xp n).mul hW)))), ?_⟩
    have e1 : sub (1 + n * j) N = add (sc (N 0) one) (sh 1 (sh (n * j) (add (tl N) (mul (xp n) W)))) := by
      conv => lhs; rw [split N]
      rw [sub_add, sub_sc, sub_one he, sub_sh he, Nat.mul_one, h, sh_sh]
    rw [e1, sh_one (n * j), sh_xp, ← g2, add_mul, one_mul, mul_assoc, mul_sh, mul_add (f := W), sh_add, sh_add, sh_add]
    funext k
    have hs := congrFun (split N) k
    simp only [add] at hs ⊢
    omega
  intro d
  induction d with
  | zero =>
    intro N hN
    have e : tl N = zero := by funext k; exact hN (k + 1) (by omega)
    refine step (W := zero) (by rw [e]; exact ⟨0, fun _ _ => rfl⟩) ⟨0, fun _ _ => rfl⟩ ?_
    rw [e, mul_comm, zero_mul]
    funext k
    simp [sub, zero, add]
  | succ d ih =>
    intro N hN
    obtain ⟨W, h1, h2⟩ := ih hN.tl
    exact step ⟨d, hN.tl⟩ h1 h2

/-! ### The inverse of k -/
theorem bez (a b : Nat) : ∃ x y : Int, (a : Int) * x + (b : Int) * y = (Nat.gcd a b : Nat) := by
  induction a, b using Nat.gcd.induction with
  | H0 b => exact ⟨0, 1, by simp⟩
  | H1 a b ha ih =>
    obtain ⟨x, y, h⟩ := ih
    refine ⟨y - (b / a : Nat) * x, x, ?_⟩
    rw [← Nat.gcd_rec] at h
    rw [← h]
    have e : (b : Int) = (a : Int) * (b / a : Nat) + (b % a : Nat) := by
      have := Nat.div_add_mod b a
      omega
    conv => lhs; rw [e]
    generalize ((b / a : Nat) : Int) = q
    generalize ((b % a : Nat) : Int) = r
    grind
theorem inv_ex {k n : Nat} (hn : 2 ≤ n) (h : Nat.Coprime k n) : ∃ k' j, 0 < k' ∧ Nat.Coprime k' n ∧ k * k' = 1 + n * j := by
  obtain ⟨x, y, hxy⟩ := bez k n
  rw [h] at hxy
  have hn0 : (0 : Int) < n := by omega
  have hx0 := Int.emod_nonneg x (show (n : Int) ≠ 0 by omega)
  have e1 : ((k * (x % (n : Int)).toNat : Nat) : Int) % n = 1 := by
    have e2 : ((k * (x % (n : Int)).toNat : Nat) : Int) = (k : Int) * (x % (n : Int)) := by
      rw [Int.natCast_mul, Int.toNat_of_nonneg hx0]
    rw [e2, Int.mul_emod, Int.emod_emod_of_dvd _ (Int.dvd_refl _), ← Int.mul_emod]
    have e3 : (k : Int) * x = 1 + (n : Int) * (-y) := by rw [Int.mul_neg]; omega
    rw [e3, Int.add_mul_emod_self_left]
    exact Int.emod_eq_of_lt (by omega) (by omega)
  have e4 : (k * (x % (n : Int)).toNat) % n = 1 := by
    have := e1
    rw [← Int.natCast_emod] at this
    omega
  generalize (x % (n : Int)).toNat = k' at *
  have e5 : k * k' = 1 + n * (k * k' / n) := by have := Nat.div_add_mod (k * k') n; omega
  refine ⟨k', k * k' / n, Nat.pos_of_ne_zero fun e => by subst e; simp at e4, ?_, e5⟩
  have hd : Nat.gcd k' n ∣ 1 := by
    have h1 : Nat.gcd k' n ∣ k * k' := Nat.dvd_trans (Nat.gcd_dvd_left _ _) ⟨k, Nat.mul_comm _ _⟩
    have h2 : Nat.gcd k' n ∣ n * (k * k' / n) := Nat.dvd_trans (Nat.gcd_dvd_right _ _) ⟨_, rfl⟩
    rw [e5] at h1
    exact (Nat.dvd_add_iff_left h2).2 h1
  exact Nat.eq_one_of_dvd_one hd

/-! ### The polynomials -/
open Classical in
noncomputable def qq (f g : Ser) : Ser := if h : ∃ t, IsPol t ∧ mul g t = f then Classical.choose h else zero
theorem qq_ok {f g : Ser} (h : ∃ t, IsPol t ∧ mul g t = f) : IsPol (qq f g) ∧ mul g (qq f g) = f := by
  unfold qq
  rw [dif_pos h]
  exact Classical.choose_spec h
open Classical in
noncomputable def Phi (n : Nat) : Ser :=
  if _h : n < 2 then xp 1 else if gpf n ∣ n / gpf n then sub (gpf n) (Phi (n / gpf n)) else qq (sub (gpf n) (Phi (n / gpf n))) (Phi (n / gpf n))
termination_by n
decreasing_by all_goals exact Nat.div_lt_self (by omega) (gpf_ok (by omega)).1.1
theorem Phi_one : Phi 1 = xp 1 := by rw [Phi, dif_pos (by omega)]
open Classical in
theorem Phi_mul {p m : Nat} (hp : prm p) (hm : 0 < m) (hu : Upto p m) : Phi (m * p) = if p ∣ m then sub p (Phi m) else qq (sub p (Phi m)) (Phi m) := by
  have hp0 := hp.1
  have hge : ¬ m * p < 2 := by have := Nat.mul_le_mul hm (Nat.le_refl p); omega
  rw [Phi, dif_neg hge, gpf_mul hp hm hu, Nat.mul_div_cancel _ (by omega)]

structure OK (n : Nat) : Prop where
  un : Un (Phi n)
  pol : IsPol (Phi n)
  pd : pr (divs n) Phi = xp n
  cop : ∀ k, 0 < k → Nat.Coprime k n → ∃ t, IsPol t ∧ mul (Phi n) t = sub k (Phi n)
theorem un_left {f g : Ser} (h : Un (mul f g)) : Un f := by
  unfold Un at *
  rw [mul_0] at h
  have h1 : (f 0 * g 0).natAbs = 1 := by rcases h with h | h <;> rw [h] <;> rfl
  rw [Int.natAbs_mul] at h1
  have := Nat.eq_one_of_mul_eq_one_right h1
  omega
theorem pr_cop {k : Nat} (hk : 0 < k) {F : Nat → Ser} : ∀ {l : List Nat}, (∀ d ∈ l, ∃ t, IsPol t ∧ mul (F d) t = sub k (F d)) → ∃ t, IsPol t ∧ mul (pr l F) t = sub k (pr l F)
  | [], _ => ⟨one, pol_one, by rw [pr_nil, sub_one hk, one_mul]⟩
  | a :: l, h => by
    obtain ⟨t, h1, h2⟩ := h a (by simp)
    obtain ⟨u, h3, h4⟩ := pr_cop hk (l := l) fun d hd => h d (by simp [hd])
    refine ⟨mul t u, h1.mul h3, ?_⟩
    rw [pr_cons, sub_mul hk, ← h2, ← h4]
    ac_rfl
/-- What holds of the product with the prime. -/
theorem e_of {p d : Nat} (hp : prm p) (hd : 0 < d) (hu : Upto p d) (hok : OK d) : mul (Phi (d * p)) (if p ∣ d then one else Phi d) = sub p (Phi d) ∧ IsPol (Phi (d * p)) := by
  have hp0 : 0 < p := by have := hp.1; omega
  rw [Phi_mul hp hd hu]
  by_cases h : p ∣ d
  · rw [if_pos h, if_pos h, mul_one]
    exact ⟨rfl, hok.pol.sub hp0⟩
  · rw [if_neg h, if_neg h]
    obtain ⟨a, b⟩ := qq_ok (hok.cop p hp0 (prm_cop hp h))
    rw [mul_comm]
    exact ⟨b, a⟩
theorem ok_cop {n : Nat} (hn : 2 ≤ n) (hpol : IsPol (Phi n)) (hpd : pr (divs n) Phi = xp n) (ih : ∀ d, 0 < d → d < n → OK d) (k : Nat) (hk : 0 < k) (hc : Nat.Coprime k n) : ∃ t, IsPol t ∧ mul (Phi n) t = sub k (Phi n) := by
  have hlow : ∀ d ∈ (divs n).filter (fun d => decide (d ≠ n)), 0 < d ∧ d < n ∧ d ∣ n := by
    intro d hd
    obtain ⟨h1, h2⟩ := List.mem_filter.1 hd
    have h3 := (mem_divs (by omega)).1 h1
    have h4 := Nat.le_of_dvd (by omega) h3
    simp only [decide_eq_true_eq] at h2
    exact ⟨Nat.pos_of_dvd_of_pos h3 (by omega), by omega, h3⟩
  have hN : ∀ k, 0 < k → Nat.Coprime k n → ∃ t, IsPol t ∧ mul (pr ((divs n).filter fun d => decide (d ≠ n)) Phi) t = sub k (pr ((divs n).filter fun d => decide (d ≠ n)) Phi) := fun k hk hc =>
    pr_cop hk fun d hd => by
      obtain ⟨h1, h2, h3⟩ := hlow d hd
      exact (ih d h1 h2).cop k hk (hc.coprime_dvd_right h3)
  have hNu : Un (pr ((divs n).filter fun d => decide (d ≠ n)) Phi) := un_pr fun d hd => by
    obtain ⟨h1, h2, _⟩ := hlow d hd
    exact (ih d h1 h2).un
  have hNp : IsPol (pr ((divs n).filter fun d => decide (d ≠ n)) Phi) := pol_pr fun d hd => by
    obtain ⟨h1, h2, _⟩ := hlow d hd
    exact (ih d h1 h2).pol
  rw [pr_perm (divs_self (by omega)), pr_cons] at hpd
  generalize pr ((divs n).filter fun d => decide (d ≠ n)) Phi = N at *
  obtain ⟨k', j, k0, kc, kj⟩ := inv_ex hn hc
  obtain ⟨U, hU, hU2⟩ := hN k' k0 kc
  obtain ⟨dN, hdN⟩ := hNp
  obtain ⟨W, hW, hW2⟩ := sub_mod (n := n) (j := j) dN hdN
  obtain ⟨G, hG, hG2⟩ := geo n k
  have e1 : mul (sub k N) (sub k U) = add N (mul (xp n) W) := by
    rw [← sub_mul hk, hU2, sub_sub hk k0, kj, hW2]
  have e2 : mul (sub k (Phi n)) (sub k N) = mul (xp n) G := by
    rw [← sub_mul hk, hpd, sub_xp hk, hG2, Nat.mul_comm]
  have e3 : add (mul (sub k (Phi n)) N) (mul (sub k (Phi n)) (mul (xp n) W)) = mul (xp n) (mul G (sub k U)) := by
    rw [← mul_add, ← e1, ← mul_assoc, e2, mul_assoc]
  have e4 : mul (sub k (Phi n)) N = mul (xp n) (add (mul G (sub k U)) (neg (mul (sub k (Phi n)) W))) := by
    have e5 : mul (sub k (Phi n)) (mul (xp n) W) = mul (xp n) (mul (sub k (Phi n)) W) := by ac_rfl
    rw [mul_add, mul_neg, ← e3, e5, add_neg_cancel]
  refine ⟨add (mul G (sub k U)) (neg (mul (sub k (Phi n)) W)), (hG.mul (hU.sub hk)).add ((hpol.sub hk).mul hW).neg, ?_⟩
  refine (cancel hNu ?_).symm
  rw [mul_comm N, e4, ← hpd]
  ac_rfl
theorem ok : ∀ n : Nat, 0 < n → OK n := by
  intro n
  induction n using Nat.strongRecOn with
  | _ n ih =>
    intro hn
    by_cases h1 : n = 1
    · subst h1
      refine ⟨by rw [Phi_one]; exact un_xp (by omega), by rw [Phi_one]; exact pol_xp 1, ?_, fun k hk _ => ?_⟩
      · have e : divs 1 = [1] := by decide
        rw [e, pr_cons, pr_nil, mul_one, Phi_one]
      · rw [Phi_one, sub_xp hk, Nat.mul_one]
        have := geo 1 k
        rw [Nat.one_mul] at this
        exact this
    · obtain ⟨m, hm, m0, mn, hu⟩ := gpf_split (n := n) (by omega)
      have hp := (gpf_ok (n := n) (by omega)).1
      generalize gpf n = p at *
      have hp0 : 0 < p := by have := hp.1; omega
      subst hm
      have ihd : ∀ d, d ∣ m → mul (Phi (d * p)) (if p ∣ d then one else Phi d) = sub p (Phi d) ∧ IsPol (Phi (d * p)) := fun d hd => by
        have h1 := Nat.pos_of_dvd_of_pos hd m0
        have h2 := Nat.le_of_dvd m0 hd
        exact e_of hp h1 (hu.dvd hd) (ih d (by omega) h1)
      obtain ⟨em, pm⟩ := ihd m (Nat.dvd_refl m)
      have hun : Un (Phi (m * p)) := un_left (by rw [em]; exact un_sub (ih m mn m0).un)
      have hpd : pr (divs (m * p)) Phi = xp (m * p) := by
        rw [pr_perm (divs_mul hp m0), pr_append, pr_map, pr_filter, ← pr_mul]
        have : pr (divs m) (fun d => mul (Phi (d * p)) (if decide (¬ p ∣ d) then Phi d else one)) = pr (divs m) fun d => sub p (Phi d) := by
          refine pr_congr fun d hd => ?_
          rw [← (ihd d ((mem_divs m0).1 hd)).1]
          by_cases h : p ∣ d <;> simp [h]
        rw [this, ← pr_sub hp0, (ih m mn m0).pd, sub_xp hp0, Nat.mul_comm]
      exact ⟨hun, pm, hpd, ok_cop (by omega) pm hpd fun d h1 h2 => ih d h2 h1⟩
end Cy
end Go.Proofs.Ytkcbihmpjkkccaa
/-
  Cyclotomic polynomials: their degrees; as products of powers of binomials. No condition.
-/
namespace Go.Proofs.Ytkcbihmpjkkccaa
namespace Cy

/-! ### Mobius numbers, degrees -/
open Classical in
noncomputable def mob (n : Nat) : Int := if _h : n < 2 then 1 else if gpf n ∣ n / gpf n then 0 else -mob (n / gpf n)
termination_by n
decreasing_by exact Nat.div_lt_self (by omega) (gpf_ok (by omega)).1.1
open Classical in
noncomputable def tot (n : Nat) : Nat := if _h : n < 2 then 1 else if gpf n ∣ n / gpf n then gpf n * tot (n / gpf n) else (gpf n - 1) * tot (n / gpf n)
termination_by n
decreasing_by all_goals exact Nat.div_lt_self (by omega) (gpf_ok (by omega)).1.1
theorem mob_one : mob 1 = 1 := by rw [mob, dif_pos (by omega)]
theorem tot_one : tot 1 = 1 := by rw [tot, dif_pos (by omega)]
theorem big_mul {p m : Nat} (hp : prm p) (hm : 0 < m) : ¬ m * p < 2 := by
  have hp0 := hp.1
  have := Nat.mul_le_mul hm (Nat.le_refl p); omega
open Classical in
theorem mob_mul {p m : Nat} (hp : prm p) (hm : 0 < m) (hu : Upto p m) : mob (m * p) = if p ∣ m then 0 else -mob m := by
  rw [mob, dif_neg (big_mul hp hm), gpf_mul hp hm hu, Nat.mul_div_cancel _ (by have := hp.1; omega)]
open Classical in
theorem tot_mul {p m : Nat} (hp : prm p) (hm : 0 < m) (hu : Upto p m) : tot (m * p) = if p ∣ m then p * tot m else (p - 1) * tot m := by
  rw [tot, dif_neg (big_mul hp hm), gpf_mul hp hm hu, Nat.mul_div_cancel _ (by have := hp.1; omega)]
theorem mob_in (n : Nat) : mob n = 1 ∨ mob n = 0 ∨ mob n = -1 := by
  induction n using Nat.strongRecOn with
  | _ n ih =>
    rw [mob]
    split
    · exact .inl rfl
    · rename_i h
      split
      · exact .inr (.inl rfl)
      · have := ih (n / gpf n) (Nat.div_lt_self (by omega) (gpf_ok (by omega)).1.1)
        omega
/-- A number that the square of a prime divides. -/
theorem mob_sq {p : Nat} (hp : prm p) : ∀ n : Nat, 0 < n → p * p ∣ n → mob n = 0 := by
  intro n
  induction n using Nat.strongRecOn with
  | _ n ih =>
    intro hn hd
    have hp2 := hp.1
    have hn2 : 2 ≤ n := by
      have h1 := Nat.le_of_dvd hn hd
      have h2 := Nat.mul_le_mul hp2 hp2
      omega
    obtain ⟨m, hm, m0, mn, hu⟩ := gpf_split hn2
    have hq := (gpf_ok hn2).1
    generalize gpf n = q at *
    subst hm
    rw [mob_mul hq m0 hu]
    split
    · rfl
    · rename_i hnd
      by_cases e : p = q
      · subst e
        exact absurd (Nat.dvd_of_mul_dvd_mul_right (by omega) hd) hnd
      · have hcop : Nat.Coprime (p * p) q := by
          have : Nat.Coprime p q := prm_cop hp fun h => e (prm_dvd hp hq h)
          exact Nat.Coprime.mul_left this this
        have h3 : p * p ∣ m := hcop.dvd_of_dvd_mul_right hd
        rw [ih m mn m0 h3]
        rfl

/-! ### Powers of binomials -/
def gi (d : Nat) : Ser := sub d fun _ => 1
def Fs (d : Nat) (e : Int) : Ser := if e = 1 then neg (xp d) else if e = -1 then gi d else one
theorem mul_xp (d : Nat) (f : Ser) (n : Nat) : mul f (neg (xp d)) n = f n - (if n < d then 0 else f (n - d)) := by
  rw [mul_neg, mul_comm]
  unfold xp
  rw [add_mul, sh_mul, one_mul, neg_mul, one_mul]
  simp only [neg, add, sh]
  omega
theorem xp_gi {d : Nat} (hd : 0 < d) : mul (gi d) (neg (xp d)) = one := by
  funext n
  rw [mul_xp]
  unfold gi sub
  by_cases h : n < d
  · rw [if_pos h, Nat.mod_eq_of_lt h]
    simp [one]
  · have e : (n - d) % d = n % d := by rw [Nat.mod_eq_sub_mod (a := n) (by omega)]
    rw [if_neg h, e]
    have : n ≠ 0 := by omega
    simp [one, this]
theorem sub_gi {p d : Nat} (hp : 0 < p) (hd : 0 < d) : sub p (gi d) = gi (p * d) := by unfold gi; rw [sub_sub hp hd]
theorem sub_Fs {p d : Nat} (hp : 0 < p) (hd : 0 < d) (e : Int) : sub p (Fs d e) = Fs (d * p) e := by
  unfold Fs
  split
  · rw [sub_neg, sub_xp hp, Nat.mul_comm]
  · split
    · rw [sub_gi hp hd, Nat.mul_comm]
    · rw [sub_one hp]
theorem Fs_neg {d : Nat} (hd : 0 < d) {e : Int} (he : e = 1 ∨ e = 0 ∨ e = -1) : mul (Fs d (-e)) (Fs d e) = one := by
  rcases he with rfl | rfl | rfl
  · have e1 : Fs d (-1) = gi d := by simp [Fs]
    have e2 : Fs d 1 = neg (xp d) := by simp [Fs]
    rw [e1, e2, xp_gi hd]
  · have e1 : Fs d 0 = one := by simp [Fs]
    have e2 : Fs d (-0) = one := by simp [Fs]
    rw [e1, e2, one_mul]
  · have e1 : Fs d (-1) = gi d := by simp [Fs]
    have e2 : Fs d (- -1) = neg (xp d) := by simp [Fs]
    rw [e1, e2, mul_comm, xp_gi hd]
theorem Fs_zero (d : Nat) : Fs d 0 = one := by simp [Fs]
noncomputable def Mo (n : Nat) : Ser := pr (divs n) fun d => Fs d (mob (n / d))
theorem Mo_one : Mo 1 = neg (xp 1) := by
  have e : divs 1 = [1] := by decide
  unfold Mo
  rw [e, pr_cons, pr_nil, mul_one, Nat.div_self (by omega), mob_one]
  simp [Fs]
open Classical in
theorem Mo_mul {p m : Nat} (hp : prm p) (hm : 0 < m) (hu : Upto p m) : mul (Mo (m * p)) (if p ∣ m then one else Mo m) = sub p (Mo m) := by
  have hp0 : 0 < p := by have := hp.1; omega
  have hdp : ∀ d ∈ divs m, 0 < d ∧ d ∣ m := fun d hd => ⟨Nat.pos_of_dvd_of_pos ((mem_divs hm).1 hd) hm, (mem_divs hm).1 hd⟩
  have e1 : pr ((divs m).map (· * p)) (fun d => Fs d (mob (m * p / d))) = sub p (Mo m) := by
    unfold Mo
    rw [pr_map, pr_sub hp0]
    refine pr_congr fun d hd => ?_
    rw [Nat.mul_div_mul_right _ _ hp0, sub_Fs hp0 (hdp d hd).1]
  have e2 : mul (pr ((divs m).filter fun d => decide (¬ p ∣ d)) fun d => Fs d (mob (m * p / d))) (if p ∣ m then one else Mo m) = one := by
    rw [pr_filter]
    by_cases h : p ∣ m
    · rw [if_pos h, mul_one]
      have : pr (divs m) (fun d => if decide (¬ p ∣ d) = true then Fs d (mob (m * p / d)) else one) = pr (divs m) fun _ => one := by
        refine pr_congr fun d hd => ?_
        by_cases hpd : p ∣ d
        · simp [hpd]
        · obtain ⟨d0, c, hc⟩ := hdp d hd
          have e3 : m * p / d = c * p := by rw [hc, Nat.mul_assoc, Nat.mul_div_cancel_left _ d0]
          have e4 : p ∣ c := by
            rw [hc] at h
            rcases prm_mul hp h with k | k
            · exact absurd k hpd
            · exact k
          have c0 : 0 < c := Nat.pos_of_ne_zero fun e => by subst e; omega
          rw [e3, mob_mul hp c0 (hu.dvd ⟨d, by rw [hc, Nat.mul_comm]⟩), if_pos e4]
          simp [hpd, Fs]
      rw [this]
      have key : ∀ l : List Nat, pr l (fun _ => one) = one := by
        intro l
        induction l with
        | nil => rfl
        | cons a l ih => rw [pr_cons, ih, one_mul]
      exact key _
    · rw [if_neg h]
      unfold Mo
      rw [← pr_mul]
      have : pr (divs m) (fun d => mul (if decide (¬ p ∣ d) = true then Fs d (mob (m * p / d)) else one) (Fs d (mob (m / d)))) = pr (divs m) fun _ => one := by
        refine pr_congr fun d hd => ?_
        obtain ⟨d0, c, hc⟩ := hdp d hd
        have hpd : ¬ p ∣ d := fun k => h (Nat.dvd_trans k ⟨c, hc⟩)
        have hpc : ¬ p ∣ c := fun k => h (Nat.dvd_trans k ⟨d, by rw [hc, Nat.mul_comm]⟩)
        have e3 : m * p / d = c * p := by rw [hc, Nat.mul_assoc, Nat.mul_div_cancel_left _ d0]
        have e4 : m / d = c := by rw [hc, Nat.mul_div_cancel_left _ d0]
        have c0 : 0 < c := Nat.pos_of_ne_zero fun e => by subst e; omega
        rw [if_pos (by simp [hpd]), e3, e4, mob_mul hp c0 (hu.dvd ⟨d, by rw [hc, Nat.mul_comm]⟩), if_neg hpc]
        exact Fs_neg d0 (mob_in c)
      rw [this]
      have key : ∀ l : List Nat, pr l (fun _ => one) = one := by
        intro l
        induction l with
        | nil => rfl
        | cons a l ih => rw [pr_cons, ih, one_mul]
      exact key _
  have e0 : Mo (m * p) = mul (pr ((divs m).map (· * p)) fun d => Fs d (mob (m * p / d))) (pr ((divs m).filter fun d => decide (¬ p ∣ d)) fun d => Fs d (mob (m * p / d))) := by
    conv => lhs; unfold Mo
    rw [pr_perm (divs_mul hp hm), pr_append]
  rw [e0, mul_assoc, e2, mul_one, e1]
/-- From 2 on both are the same. -/
theorem Mo_Phi : ∀ n : Nat, 2 ≤ n → Mo n = Phi n := by
  intro n
  induction n using Nat.strongRecOn with
  | _ n ih =>
    intro hn
    obtain ⟨m, hm, m0, mn, hu⟩ := gpf_split hn
    have hp := (gpf_ok hn).1
    generalize gpf n = p at *
    subst hm
    have hp0 : 0 < p := by have := hp.1; omega
    have h1 := Mo_mul hp m0 hu
    have h2 := (e_of hp m0 hu (ok m m0)).1
    by_cases hpm : p ∣ m
    · have m2 : 2 ≤ m := by have := Nat.le_of_dvd m0 hpm; have := hp.1; omega
      rw [if_pos hpm, mul_one] at h1 h2
      rw [h1, h2, ih m mn m2]
    · rw [if_neg hpm] at h1 h2
      by_cases m1 : m = 1
      · subst m1
        rw [Mo_one] at h1
        rw [Phi_one] at h2
        refine cancel (un_xp (n := 1) (by omega)) ?_
        rw [mul_neg, sub_neg, ← h2] at h1
        have h3 : mul (Mo (1 * p)) (xp 1) = mul (Phi (1 * p)) (xp 1) := by
          funext k
          have := congrFun h1 k
          simp only [neg] at this
          omega
        rw [mul_comm, h3, mul_comm]
      · rw [ih m mn (by omega), ← h2] at h1
        refine cancel (ok m m0).un ?_
        rw [mul_comm, h1, mul_comm]

/-! ### The degree -/
theorem deg_left {f g h : Ser} {a b : Nat} (e : mul f g = h) (hh : Pol a h) (h1 : h a = 1) (hg : Pol b g) (g1 : g b = 1) : ∀ D : Nat, Pol D f → b ≤ a ∧ Pol (a - b) f ∧ f (a - b) = 1
  | D, hD => by
    by_cases hc : D + b ≤ a
    · have hp : Pol (a - b) f := hD.mono (by omega)
      refine ⟨by omega, hp, ?_⟩
      have := hp.lead hg
      rw [e, show a - b + b = a by omega, h1, g1] at this
      omega
    · have hz : f D = 0 := by
        have := hD.lead hg
        rw [e, hh _ (by omega), g1] at this
        omega
      have hp : ∀ n, D ≤ n → f n = 0 := fun n hn => by
        by_cases e : n = D
        · subst e; exact hz
        · exact hD n (by omega)
      match D, hp with
      | 0, hp =>
        exfalso
        have e0 : f = zero := by funext n; exact hp n (by omega)
        rw [e0, zero_mul] at e
        rw [← e] at h1
        simp [zero] at h1
      | D + 1, hp => exact deg_left e hh h1 hg g1 D fun n hn => hp n (by omega)
theorem phi_deg : ∀ n : Nat, 0 < n → Pol (tot n) (Phi n) ∧ Phi n (tot n) = 1 ∧ 1 ≤ tot n ∧ tot n ≤ n := by
  intro n
  induction n using Nat.strongRecOn with
  | _ n ih =>
    intro hn
    by_cases h1 : n = 1
    · subst h1
      rw [tot_one, Phi_one]
      refine ⟨fun k hk => ?_, by simp [xp, add, neg, sh, one], by omega, by omega⟩
      have h0 : k ≠ 0 := by omega
      have h2 : k - 1 ≠ 0 := by omega
      simp [xp, add, neg, sh, one, h0, h2]
    · obtain ⟨m, hm, m0, mn, hu⟩ := gpf_split (n := n) (by omega)
      have hp := (gpf_ok (n := n) (by omega)).1
      generalize gpf n = p at *
      subst hm
      have hp0 : 2 ≤ p := hp.1
      obtain ⟨a, b, c, d⟩ := ih m mn m0
      obtain ⟨h2, ⟨D, hD⟩⟩ := e_of hp m0 hu (ok m m0)
      have s1 : Pol (p * tot m) (sub p (Phi m)) := a.sub (by omega)
      have s2 : sub p (Phi m) (p * tot m) = 1 := by
        simp only [sub]
        rw [Nat.mul_mod_right, if_pos rfl, Nat.mul_div_cancel_left _ (by omega), b]
      rw [tot_mul hp m0 hu]
      by_cases hpm : p ∣ m
      · rw [if_pos hpm, mul_one] at h2
        rw [if_pos hpm, h2]
        refine ⟨s1, s2, Nat.le_trans c (Nat.le_mul_of_pos_left _ (by omega)), ?_⟩
        rw [Nat.mul_comm m]
        exact Nat.mul_le_mul_left _ d
      · rw [if_neg hpm] at h2
        rw [if_neg hpm]
        obtain ⟨_, q2, q3⟩ := deg_left h2 s1 s2 a b D hD
        have e : p * tot m - tot m = (p - 1) * tot m := by rw [Nat.sub_mul, Nat.one_mul]
        rw [e] at q2 q3
        refine ⟨q2, q3, Nat.le_trans c (Nat.le_mul_of_pos_left _ (by omega)), ?_⟩
        rw [Nat.mul_comm m]
        exact Nat.mul_le_mul (by omega) d

/-! ### The product, one divisor after the other -/
open Classical in
noncomputable def moL (n : Nat) : Nat → Ser
  | 0 => one
  | k + 1 => if (k + 1) ∣ n then mul (moL n k) (Fs (k + 1) (mob (n / (k + 1)))) else moL n k
theorem moL_pr (n : Nat) : ∀ k : Nat, moL n k = pr ((List.range (k + 1)).filter fun d => decide (0 < d ∧ d ∣ n)) fun d => Fs d (mob (n / d))
  | 0 => by simp [moL, pr]
  | k + 1 => by
    rw [moL, List.range_succ, List.filter_append, pr_append, ← moL_pr n k]
    by_cases h : (k + 1) ∣ n
    · rw [if_pos h]
      have : [k + 1].filter (fun d => decide (0 < d ∧ d ∣ n)) = [k + 1] := by simp [h]
      rw [this, pr_cons, pr_nil, mul_one]
    · rw [if_neg h]
      have : [k + 1].filter (fun d => decide (0 < d ∧ d ∣ n)) = [] := by simp [h]
      rw [this, pr_nil, mul_one]
theorem moL_all {n : Nat} (hn : 2 ≤ n) : moL n n = Phi n := by
  rw [moL_pr, ← Mo_Phi n hn]
  rfl
end Cy
end Go.Proofs.Ytkcbihmpjkkccaa
/-
  The facts on this seat's table of types, by program. No condition.
-/
namespace Go.Proofs.Ytkcbihmpjkkccaa
open Go Go.RowKit
theorem info1 : (Try.prog.info? 1).map (fun i => (i.zero, i.size, i.bytes)) = some (some (.nilFunc), 1, 8) := by kernel_rfl
instance : TCell Try.prog 1 := ⟨⟨_, Try.underlying1, rfl⟩, let ⟨i, h, _, h2, _⟩ := info_parts info1; ⟨i, h, h2⟩⟩
instance : TElem Try.prog 1 (.nilFunc) 8 := ⟨let ⟨i, h, h1, h2, h3⟩ := info_parts info1; ⟨i, h, h2, h1, h3⟩, by decide⟩
instance : TKind Try.prog 2 .i64 := ⟨Try.underlying2⟩
theorem info2 : (Try.prog.info? 2).map (fun i => (i.zero, i.size, i.bytes)) = some (some (.int .i64 0), 1, 8) := by kernel_rfl
instance : TCell Try.prog 2 := ⟨⟨_, Try.underlying2, rfl⟩, let ⟨i, h, _, h2, _⟩ := info_parts info2; ⟨i, h, h2⟩⟩
instance : TElem Try.prog 2 (.int .i64 0) 8 := ⟨let ⟨i, h, h1, h2, h3⟩ := info_parts info2; ⟨i, h, h2, h1, h3⟩, by decide⟩
instance : TKind Try.prog 3 .i64 := ⟨Try.underlying3⟩
theorem info3 : (Try.prog.info? 3).map (fun i => (i.zero, i.size, i.bytes)) = some (some (.int .i64 0), 1, 8) := by kernel_rfl
instance : TCell Try.prog 3 := ⟨⟨_, Try.underlying3, rfl⟩, let ⟨i, h, _, h2, _⟩ := info_parts info3; ⟨i, h, h2⟩⟩
instance : TElem Try.prog 3 (.int .i64 0) 8 := ⟨let ⟨i, h, h1, h2, h3⟩ := info_parts info3; ⟨i, h, h2, h1, h3⟩, by decide⟩
instance : TBool Try.prog 4 := ⟨Try.underlying4⟩
theorem info4 : (Try.prog.info? 4).map (fun i => (i.zero, i.size, i.bytes)) = some (some (.bool false), 1, 1) := by kernel_rfl
instance : TCell Try.prog 4 := ⟨⟨_, Try.underlying4, rfl⟩, let ⟨i, h, _, h2, _⟩ := info_parts info4; ⟨i, h, h2⟩⟩
instance : TElem Try.prog 4 (.bool false) 1 := ⟨let ⟨i, h, h1, h2, h3⟩ := info_parts info4; ⟨i, h, h2, h1, h3⟩, by decide⟩
instance : TKind Try.prog 5 .u8 := ⟨Try.underlying5⟩
theorem info5 : (Try.prog.info? 5).map (fun i => (i.zero, i.size, i.bytes)) = some (some (.int .u8 0), 1, 1) := by kernel_rfl
instance : TCell Try.prog 5 := ⟨⟨_, Try.underlying5, rfl⟩, let ⟨i, h, _, h2, _⟩ := info_parts info5; ⟨i, h, h2⟩⟩
instance : TElem Try.prog 5 (.int .u8 0) 1 := ⟨let ⟨i, h, h1, h2, h3⟩ := info_parts info5; ⟨i, h, h2, h1, h3⟩, by decide⟩
instance : TKind Try.prog 6 .u8 := ⟨Try.underlying6⟩
theorem info6 : (Try.prog.info? 6).map (fun i => (i.zero, i.size, i.bytes)) = some (some (.int .u8 0), 1, 1) := by kernel_rfl
instance : TCell Try.prog 6 := ⟨⟨_, Try.underlying6, rfl⟩, let ⟨i, h, _, h2, _⟩ := info_parts info6; ⟨i, h, h2⟩⟩
instance : TElem Try.prog 6 (.int .u8 0) 1 := ⟨let ⟨i, h, h1, h2, h3⟩ := info_parts info6; ⟨i, h, h2, h1, h3⟩, by decide⟩
instance : TStr Try.prog 9 := ⟨Try.underlying9⟩
theorem info9 : (Try.prog.info? 9).map (fun i => (i.zero, i.size, i.bytes)) = some (some (.string ⟨#[]⟩), 1, 16) := by kernel_rfl
instance : TCell Try.prog 9 := ⟨⟨_, Try.underlying9, rfl⟩, let ⟨i, h, _, h2, _⟩ := info_parts info9; ⟨i, h, h2⟩⟩
instance : TElem Try.prog 9 (.string ⟨#[]⟩) 16 := ⟨let ⟨i, h, h1, h2, h3⟩ := info_parts info9; ⟨i, h, h2, h1, h3⟩, by decide⟩
instance : TStr Try.prog 10 := ⟨Try.underlying10⟩
theorem info10 : (Try.prog.info? 10).map (fun i => (i.zero, i.size, i.bytes)) = some (some (.string ⟨#[]⟩), 1, 16) := by kernel_rfl
instance : TCell Try.prog 10 := ⟨⟨_, Try.underlying10, rfl⟩, let ⟨i, h, _, h2, _⟩ := info_parts info10; ⟨i, h, h2⟩⟩
instance : TElem Try.prog 10 (.string ⟨#[]⟩) 16 := ⟨let ⟨i, h, h1, h2, h3⟩ := info_parts info10; ⟨i, h, h2, h1, h3⟩, by decide⟩
instance : TStr Try.prog 11 := ⟨Try.underlying11⟩
theorem info11 : (Try.prog.info? 11).map (fun i => (i.zero, i.size, i.bytes)) = some (some (.string ⟨#[]⟩), 1, 16) := by kernel_rfl
instance : TCell Try.prog 11 := ⟨⟨_, Try.underlying11, rfl⟩, let ⟨i, h, _, h2, _⟩ := info_parts info11; ⟨i, h, h2⟩⟩
instance : TElem Try.prog 11 (.string ⟨#[]⟩) 16 := ⟨let ⟨i, h, h1, h2, h3⟩ := info_parts info11; ⟨i, h, h2, h1, h3⟩, by decide⟩
instance : TKind Try.prog 12 .u64 := ⟨Try.underlying12⟩
theorem info12 : (Try.prog.info? 12).map (fun i => (i.zero, i.size, i.bytes)) = some (some (.int .u64 0), 1, 8) := by kernel_rfl
instance : TCell Try.prog 12 := ⟨⟨_, Try.underlying12, rfl⟩, let ⟨i, h, _, h2, _⟩ := info_parts info12; ⟨i, h, h2⟩⟩
instance : TElem Try.prog 12 (.int .u64 0) 8 := ⟨let ⟨i, h, h1, h2, h3⟩ := info_parts info12; ⟨i, h, h2, h1, h3⟩, by decide⟩
theorem info15 : (Try.prog.info? 15).map (fun i => (i.zero, i.size, i.bytes)) = some (some (.pointer none), 1, 8) := by kernel_rfl
instance : TCell Try.prog 15 := ⟨⟨_, Try.underlying15, rfl⟩, let ⟨i, h, _, h2, _⟩ := info_parts info15; ⟨i, h, h2⟩⟩
instance : TElem Try.prog 15 (.pointer none) 8 := ⟨let ⟨i, h, h1, h2, h3⟩ := info_parts info15; ⟨i, h, h2, h1, h3⟩, by decide⟩
theorem info16 : (Try.prog.info? 16).map (fun i => (i.zero, i.size, i.bytes)) = some (some (.pointer none), 1, 8) := by kernel_rfl
instance : TCell Try.prog 16 := ⟨⟨_, Try.underlying16, rfl⟩, let ⟨i, h, _, h2, _⟩ := info_parts info16; ⟨i, h, h2⟩⟩
instance : TElem Try.prog 16 (.pointer none) 8 := ⟨let ⟨i, h, h1, h2, h3⟩ := info_parts info16; ⟨i, h, h2, h1, h3⟩, by decide⟩
theorem info17 : (Try.prog.info? 17).map (fun i => (i.zero, i.size, i.bytes)) = some (some (.pointer none), 1, 8) := by kernel_rfl
instance : TCell Try.prog 17 := ⟨⟨_, Try.underlying17, rfl⟩, let ⟨i, h, _, h2, _⟩ := info_parts info17; ⟨i, h, h2⟩⟩
instance : TElem Try.prog 17 (.pointer none) 8 := ⟨let ⟨i, h, h1, h2, h3⟩ := info_parts info17; ⟨i, h, h2, h1, h3⟩, by decide⟩
instance : TKind Try.prog 21 .i32 := ⟨Try.underlying21⟩
theorem info21 : (Try.prog.info? 21).map (fun i => (i.zero, i.size, i.bytes)) = some (some (.int .i32 0), 1, 4) := by kernel_rfl
instance : TCell Try.prog 21 := ⟨⟨_, Try.underlying21, rfl⟩, let ⟨i, h, _, h2, _⟩ := info_parts info21; ⟨i, h, h2⟩⟩
instance : TElem Try.prog 21 (.int .i32 0) 4 := ⟨let ⟨i, h, h1, h2, h3⟩ := info_parts info21; ⟨i, h, h2, h1, h3⟩, by decide⟩
instance : TSlice Try.prog 22 5 := ⟨Try.underlying22⟩
theorem info22 : (Try.prog.info? 22).map (fun i => (i.zero, i.size, i.bytes)) = some (some (.slice none 0 0), 1, 24) := by kernel_rfl
instance : TCell Try.prog 22 := ⟨⟨_, Try.underlying22, rfl⟩, let ⟨i, h, _, h2, _⟩ := info_parts info22; ⟨i, h, h2⟩⟩
instance : TElem Try.prog 22 (.slice none 0 0) 24 := ⟨let ⟨i, h, h1, h2, h3⟩ := info_parts info22; ⟨i, h, h2, h1, h3⟩, by decide⟩
theorem info23 : (Try.prog.info? 23).map (fun i => (i.zero, i.size, i.bytes)) = some (some (.nilFunc), 1, 8) := by kernel_rfl
instance : TCell Try.prog 23 := ⟨⟨_, Try.underlying23, rfl⟩, let ⟨i, h, _, h2, _⟩ := info_parts info23; ⟨i, h, h2⟩⟩
instance : TElem Try.prog 23 (.nilFunc) 8 := ⟨let ⟨i, h, h1, h2, h3⟩ := info_parts info23; ⟨i, h, h2, h1, h3⟩, by decide⟩
theorem info25 : (Try.prog.info? 25).map (fun i => (i.zero, i.size, i.bytes)) = some (some (.nilFunc), 1, 8) := by kernel_rfl
instance : TCell Try.prog 25 := ⟨⟨_, Try.underlying25, rfl⟩, let ⟨i, h, _, h2, _⟩ := info_parts info25; ⟨i, h, h2⟩⟩
instance : TElem Try.prog 25 (.nilFunc) 8 := ⟨let ⟨i, h, h1, h2, h3⟩ := info_parts info25; ⟨i, h, h2, h1, h3⟩, by decide⟩
instance : TSlice Try.prog 26 2 := ⟨Try.underlying26⟩
theorem info26 : (Try.prog.info? 26).map (fun i => (i.zero, i.size, i.bytes)) = some (some (.slice none 0 0), 1, 24) := by kernel_rfl
instance : TCell Try.prog 26 := ⟨⟨_, Try.underlying26, rfl⟩, let ⟨i, h, _, h2, _⟩ := info_parts info26; ⟨i, h, h2⟩⟩
instance : TElem Try.prog 26 (.slice none 0 0) 24 := ⟨let ⟨i, h, h1, h2, h3⟩ := info_parts info26; ⟨i, h, h2, h1, h3⟩, by decide⟩
theorem info28 : (Try.prog.info? 28).map (fun i => (i.zero, i.size, i.bytes)) = some (some (.nilFunc), 1, 8) := by kernel_rfl
instance : TCell Try.prog 28 := ⟨⟨_, Try.underlying28, rfl⟩, let ⟨i, h, _, h2, _⟩ := info_parts info28; ⟨i, h, h2⟩⟩
instance : TElem Try.prog 28 (.nilFunc) 8 := ⟨let ⟨i, h, h1, h2, h3⟩ := info_parts info28; ⟨i, h, h2, h1, h3⟩, by decide⟩
theorem info29 : (Try.prog.info? 29).map (fun i => (i.zero, i.size, i.bytes)) = some (some (.nilFunc), 1, 8) := by kernel_rfl
instance : TCell Try.prog 29 := ⟨⟨_, Try.underlying29, rfl⟩, let ⟨i, h, _, h2, _⟩ := info_parts info29; ⟨i, h, h2⟩⟩
instance : TElem Try.prog 29 (.nilFunc) 8 := ⟨let ⟨i, h, h1, h2, h3⟩ := info_parts info29; ⟨i, h, h2, h1, h3⟩, by decide⟩
instance : TSlice Try.prog 30 26 := ⟨Try.underlying30⟩
theorem info30 : (Try.prog.info? 30).map (fun i => (i.zero, i.size, i.bytes)) = some (some (.slice none 0 0), 1, 24) := by kernel_rfl
instance : TCell Try.prog 30 := ⟨⟨_, Try.underlying30, rfl⟩, let ⟨i, h, _, h2, _⟩ := info_parts info30; ⟨i, h, h2⟩⟩
instance : TElem Try.prog 30 (.slice none 0 0) 24 := ⟨let ⟨i, h, h1, h2, h3⟩ := info_parts info30; ⟨i, h, h2, h1, h3⟩, by decide⟩
theorem info31 : (Try.prog.info? 31).map (fun i => (i.zero, i.size, i.bytes)) = some (some (.nilFunc), 1, 8) := by kernel_rfl
instance : TCell Try.prog 31 := ⟨⟨_, Try.underlying31, rfl⟩, let ⟨i, h, _, h2, _⟩ := info_parts info31; ⟨i, h, h2⟩⟩
instance : TElem Try.prog 31 (.nilFunc) 8 := ⟨let ⟨i, h, h1, h2, h3⟩ := info_parts info31; ⟨i, h, h2, h1, h3⟩, by decide⟩
theorem info32 : (Try.prog.info? 32).map (fun i => (i.zero, i.size, i.bytes)) = some (some (.nilFunc), 1, 8) := by kernel_rfl
instance : TCell Try.prog 32 := ⟨⟨_, Try.underlying32, rfl⟩, let ⟨i, h, _, h2, _⟩ := info_parts info32; ⟨i, h, h2⟩⟩
instance : TElem Try.prog 32 (.nilFunc) 8 := ⟨let ⟨i, h, h1, h2, h3⟩ := info_parts info32; ⟨i, h, h2, h1, h3⟩, by decide⟩
theorem info33 : (Try.prog.info? 33).map (fun i => (i.zero, i.size, i.bytes)) = some (some (.agg [.slice none 0 0].toArray), 1, 24) := by kernel_rfl
instance : TStruct Try.prog 33 1 [.slice none 0 0] := ⟨⟨_, Try.underlying33, rfl⟩, let ⟨i, h, h1, h2, _⟩ := info_parts info33; ⟨i, h, h2, h1, rfl⟩⟩
instance : TElem Try.prog 33 (.agg [.slice none 0 0].toArray) 24 := ⟨let ⟨i, h, h1, h2, h3⟩ := info_parts info33; ⟨i, h, h2, h1, h3⟩, by decide⟩
instance : TBuild Try.prog 33 1 [.slice none 0 0] := .str (let ⟨i, h, h1, _, _⟩ := info_parts info33; ⟨i, h, h1, rfl⟩) ⟨_, Try.underlying33, by kernel_rfl⟩
instance : TField Try.prog 33 0 0 := ⟨let ⟨i, h, _, h2, _⟩ := info_parts info26; ⟨_, _, i, Try.underlying33, rfl, rfl, h, h2, _, Try.underlying26, rfl⟩⟩
theorem info34 : (Try.prog.info? 34).map (fun i => (i.zero, i.size, i.bytes)) = some (some (.agg [.slice none 0 0].toArray), 1, 24) := by kernel_rfl
instance : TStruct Try.prog 34 1 [.slice none 0 0] := ⟨⟨_, Try.underlying34, rfl⟩, let ⟨i, h, h1, h2, _⟩ := info_parts info34; ⟨i, h, h2, h1, rfl⟩⟩
instance : TElem Try.prog 34 (.agg [.slice none 0 0].toArray) 24 := ⟨let ⟨i, h, h1, h2, h3⟩ := info_parts info34; ⟨i, h, h2, h1, h3⟩, by decide⟩
instance : TBuild Try.prog 34 1 [.slice none 0 0] := .str (let ⟨i, h, h1, _, _⟩ := info_parts info34; ⟨i, h, h1, rfl⟩) ⟨_, Try.underlying34, by kernel_rfl⟩
instance : TField Try.prog 34 0 0 := ⟨let ⟨i, h, _, h2, _⟩ := info_parts info26; ⟨_, _, i, Try.underlying34, rfl, rfl, h, h2, _, Try.underlying26, rfl⟩⟩
theorem info35 : (Try.prog.info? 35).map (fun i => (i.zero, i.size, i.bytes)) = some (some (.pointer none), 1, 8) := by kernel_rfl
instance : TCell Try.prog 35 := ⟨⟨_, Try.underlying35, rfl⟩, let ⟨i, h, _, h2, _⟩ := info_parts info35; ⟨i, h, h2⟩⟩
instance : TElem Try.prog 35 (.pointer none) 8 := ⟨let ⟨i, h, h1, h2, h3⟩ := info_parts info35; ⟨i, h, h2, h1, h3⟩, by decide⟩
theorem info36 : (Try.prog.info? 36).map (fun i => (i.zero, i.size, i.bytes)) = some (some (.nilFunc), 1, 8) := by kernel_rfl
instance : TCell Try.prog 36 := ⟨⟨_, Try.underlying36, rfl⟩, let ⟨i, h, _, h2, _⟩ := info_parts info36; ⟨i, h, h2⟩⟩
instance : TElem Try.prog 36 (.nilFunc) 8 := ⟨let ⟨i, h, h1, h2, h3⟩ := info_parts info36; ⟨i, h, h2, h1, h3⟩, by decide⟩
theorem info37 : (Try.prog.info? 37).map (fun i => (i.zero, i.size, i.bytes)) = some (some (.nilFunc), 1, 8) := by kernel_rfl
instance : TCell Try.prog 37 := ⟨⟨_, Try.underlying37, rfl⟩, let ⟨i, h, _, h2, _⟩ := info_parts info37; ⟨i, h, h2⟩⟩
instance : TElem Try.prog 37 (.nilFunc) 8 := ⟨let ⟨i, h, h1, h2, h3⟩ := info_parts info37; ⟨i, h, h2, h1, h3⟩, by decide⟩
theorem info38 : (Try.prog.info? 38).map (fun i => (i.zero, i.size, i.bytes)) = some (some (.nilFunc), 1, 8) := by kernel_rfl
instance : TCell Try.prog 38 := ⟨⟨_, Try.underlying38, rfl⟩, let ⟨i, h, _, h2, _⟩ := info_parts info38; ⟨i, h, h2⟩⟩
instance : TElem Try.prog 38 (.nilFunc) 8 := ⟨let ⟨i, h, h1, h2, h3⟩ := info_parts info38; ⟨i, h, h2, h1, h3⟩, by decide⟩
theorem info39 : (Try.prog.info? 39).map (fun i => (i.zero, i.size, i.bytes)) = some (some (.nilFunc), 1, 8) := by kernel_rfl
instance : TCell Try.prog 39 := ⟨⟨_, Try.underlying39, rfl⟩, let ⟨i, h, _, h2, _⟩ := info_parts info39; ⟨i, h, h2⟩⟩
instance : TElem Try.prog 39 (.nilFunc) 8 := ⟨let ⟨i, h, h1, h2, h3⟩ := info_parts info39; ⟨i, h, h2, h1, h3⟩, by decide⟩
theorem info40 : (Try.prog.info? 40).map (fun i => (i.zero, i.size, i.bytes)) = some (some (.nilFunc), 1, 8) := by kernel_rfl
instance : TCell Try.prog 40 := ⟨⟨_, Try.underlying40, rfl⟩, let ⟨i, h, _, h2, _⟩ := info_parts info40; ⟨i, h, h2⟩⟩
instance : TElem Try.prog 40 (.nilFunc) 8 := ⟨let ⟨i, h, h1, h2, h3⟩ := info_parts info40; ⟨i, h, h2, h1, h3⟩, by decide⟩
theorem info41 : (Try.prog.info? 41).map (fun i => (i.zero, i.size, i.bytes)) = some (some (.nilFunc), 1, 8) := by kernel_rfl
instance : TCell Try.prog 41 := ⟨⟨_, Try.underlying41, rfl⟩, let ⟨i, h, _, h2, _⟩ := info_parts info41; ⟨i, h, h2⟩⟩
instance : TElem Try.prog 41 (.nilFunc) 8 := ⟨let ⟨i, h, h1, h2, h3⟩ := info_parts info41; ⟨i, h, h2, h1, h3⟩, by decide⟩
theorem info42 : (Try.prog.info? 42).map (fun i => (i.zero, i.size, i.bytes)) = some (some (.nilFunc), 1, 8) := by kernel_rfl
instance : TCell Try.prog 42 := ⟨⟨_, Try.underlying42, rfl⟩, let ⟨i, h, _, h2, _⟩ := info_parts info42; ⟨i, h, h2⟩⟩
instance : TElem Try.prog 42 (.nilFunc) 8 := ⟨let ⟨i, h, h1, h2, h3⟩ := info_parts info42; ⟨i, h, h2, h1, h3⟩, by decide⟩
theorem info44 : (Try.prog.info? 44).map (fun i => (i.zero, i.size, i.bytes)) = some (some (.nilFunc), 1, 8) := by kernel_rfl
instance : TCell Try.prog 44 := ⟨⟨_, Try.underlying44, rfl⟩, let ⟨i, h, _, h2, _⟩ := info_parts info44; ⟨i, h, h2⟩⟩
instance : TElem Try.prog 44 (.nilFunc) 8 := ⟨let ⟨i, h, h1, h2, h3⟩ := info_parts info44; ⟨i, h, h2, h1, h3⟩, by decide⟩
instance : TKind Try.prog 45 .u64 := ⟨Try.underlying45⟩
theorem info45 : (Try.prog.info? 45).map (fun i => (i.zero, i.size, i.bytes)) = some (some (.int .u64 0), 1, 8) := by kernel_rfl
instance : TCell Try.prog 45 := ⟨⟨_, Try.underlying45, rfl⟩, let ⟨i, h, _, h2, _⟩ := info_parts info45; ⟨i, h, h2⟩⟩
instance : TElem Try.prog 45 (.int .u64 0) 8 := ⟨let ⟨i, h, h1, h2, h3⟩ := info_parts info45; ⟨i, h, h2, h1, h3⟩, by decide⟩
theorem info46 : (Try.prog.info? 46).map (fun i => (i.zero, i.size, i.bytes)) = some (some (.agg [.slice none 0 0, .int .i64 0, .int .u64 0].toArray), 3, 40) := by kernel_rfl
instance : TStruct Try.prog 46 3 [.slice none 0 0, .int .i64 0, .int .u64 0] := ⟨⟨_, Try.underlying46, rfl⟩, let ⟨i, h, h1, h2, _⟩ := info_parts info46; ⟨i, h, h2, h1, rfl⟩⟩
instance : TBuild Try.prog 46 3 [.slice none 0 0, .int .i64 0, .int .u64 0] := .str (let ⟨i, h, h1, _, _⟩ := info_parts info46; ⟨i, h, h1, rfl⟩) ⟨_, Try.underlying46, by kernel_rfl⟩
instance : TField Try.prog 46 0 0 := ⟨let ⟨i, h, _, h2, _⟩ := info_parts info22; ⟨_, _, i, Try.underlying46, rfl, rfl, h, h2, _, Try.underlying22, rfl⟩⟩
instance : TField Try.prog 46 1 1 := ⟨let ⟨i, h, _, h2, _⟩ := info_parts info3; ⟨_, _, i, Try.underlying46, rfl, rfl, h, h2, _, Try.underlying3, rfl⟩⟩
instance : TField Try.prog 46 2 2 := ⟨let ⟨i, h, _, h2, _⟩ := info_parts info45; ⟨_, _, i, Try.underlying46, rfl, rfl, h, h2, _, Try.underlying45, rfl⟩⟩
theorem info47 : (Try.prog.info? 47).map (fun i => (i.zero, i.size, i.bytes)) = some (some (.agg [.slice none 0 0, .int .i64 0, .int .u64 0].toArray), 3, 40) := by kernel_rfl
instance : TStruct Try.prog 47 3 [.slice none 0 0, .int .i64 0, .int .u64 0] := ⟨⟨_, Try.underlying47, rfl⟩, let ⟨i, h, h1, h2, _⟩ := info_parts info47; ⟨i, h, h2, h1, rfl⟩⟩
instance : TBuild Try.prog 47 3 [.slice none 0 0, .int .i64 0, .int .u64 0] := .str (let ⟨i, h, h1, _, _⟩ := info_parts info47; ⟨i, h, h1, rfl⟩) ⟨_, Try.underlying47, by kernel_rfl⟩
instance : TField Try.prog 47 0 0 := ⟨let ⟨i, h, _, h2, _⟩ := info_parts info22; ⟨_, _, i, Try.underlying47, rfl, rfl, h, h2, _, Try.underlying22, rfl⟩⟩
instance : TField Try.prog 47 1 1 := ⟨let ⟨i, h, _, h2, _⟩ := info_parts info3; ⟨_, _, i, Try.underlying47, rfl, rfl, h, h2, _, Try.underlying3, rfl⟩⟩
instance : TField Try.prog 47 2 2 := ⟨let ⟨i, h, _, h2, _⟩ := info_parts info45; ⟨_, _, i, Try.underlying47, rfl, rfl, h, h2, _, Try.underlying45, rfl⟩⟩
instance : TKind Try.prog 48 .u64 := ⟨Try.underlying48⟩
theorem info48 : (Try.prog.info? 48).map (fun i => (i.zero, i.size, i.bytes)) = some (some (.int .u64 0), 1, 8) := by kernel_rfl
instance : TCell Try.prog 48 := ⟨⟨_, Try.underlying48, rfl⟩, let ⟨i, h, _, h2, _⟩ := info_parts info48; ⟨i, h, h2⟩⟩
instance : TElem Try.prog 48 (.int .u64 0) 8 := ⟨let ⟨i, h, h1, h2, h3⟩ := info_parts info48; ⟨i, h, h2, h1, h3⟩, by decide⟩
theorem info49 : (Try.prog.info? 49).map (fun i => (i.zero, i.size, i.bytes)) = some (some (.nilFunc), 1, 8) := by kernel_rfl
instance : TCell Try.prog 49 := ⟨⟨_, Try.underlying49, rfl⟩, let ⟨i, h, _, h2, _⟩ := info_parts info49; ⟨i, h, h2⟩⟩
instance : TElem Try.prog 49 (.nilFunc) 8 := ⟨let ⟨i, h, h1, h2, h3⟩ := info_parts info49; ⟨i, h, h2, h1, h3⟩, by decide⟩
instance : TSlice Try.prog 50 3 := ⟨Try.underlying50⟩
theorem info50 : (Try.prog.info? 50).map (fun i => (i.zero, i.size, i.bytes)) = some (some (.slice none 0 0), 1, 24) := by kernel_rfl
instance : TCell Try.prog 50 := ⟨⟨_, Try.underlying50, rfl⟩, let ⟨i, h, _, h2, _⟩ := info_parts info50; ⟨i, h, h2⟩⟩
instance : TElem Try.prog 50 (.slice none 0 0) 24 := ⟨let ⟨i, h, h1, h2, h3⟩ := info_parts info50; ⟨i, h, h2, h1, h3⟩, by decide⟩
theorem info51 : (Try.prog.info? 51).map (fun i => (i.zero, i.size, i.bytes)) = some (some (.nilFunc), 1, 8) := by kernel_rfl
instance : TCell Try.prog 51 := ⟨⟨_, Try.underlying51, rfl⟩, let ⟨i, h, _, h2, _⟩ := info_parts info51; ⟨i, h, h2⟩⟩
instance : TElem Try.prog 51 (.nilFunc) 8 := ⟨let ⟨i, h, h1, h2, h3⟩ := info_parts info51; ⟨i, h, h2, h1, h3⟩, by decide⟩
theorem info53 : (Try.prog.info? 53).map (fun i => (i.zero, i.size, i.bytes)) = some (some (.nilFunc), 1, 8) := by kernel_rfl
instance : TCell Try.prog 53 := ⟨⟨_, Try.underlying53, rfl⟩, let ⟨i, h, _, h2, _⟩ := info_parts info53; ⟨i, h, h2⟩⟩
instance : TElem Try.prog 53 (.nilFunc) 8 := ⟨let ⟨i, h, h1, h2, h3⟩ := info_parts info53; ⟨i, h, h2, h1, h3⟩, by decide⟩
theorem info54 : (Try.prog.info? 54).map (fun i => (i.zero, i.size, i.bytes)) = some (some (.nilFunc), 1, 8) := by kernel_rfl
instance : TCell Try.prog 54 := ⟨⟨_, Try.underlying54, rfl⟩, let ⟨i, h, _, h2, _⟩ := info_parts info54; ⟨i, h, h2⟩⟩
instance : TElem Try.prog 54 (.nilFunc) 8 := ⟨let ⟨i, h, h1, h2, h3⟩ := info_parts info54; ⟨i, h, h2, h1, h3⟩, by decide⟩
theorem info56 : (Try.prog.info? 56).map (fun i => (i.zero, i.size, i.bytes)) = some (some (.nilFunc), 1, 8) := by kernel_rfl
instance : TCell Try.prog 56 := ⟨⟨_, Try.underlying56, rfl⟩, let ⟨i, h, _, h2, _⟩ := info_parts info56; ⟨i, h, h2⟩⟩
instance : TElem Try.prog 56 (.nilFunc) 8 := ⟨let ⟨i, h, h1, h2, h3⟩ := info_parts info56; ⟨i, h, h2, h1, h3⟩, by decide⟩
theorem info57 : (Try.prog.info? 57).map (fun i => (i.zero, i.size, i.bytes)) = some (some (.nilFunc), 1, 8) := by kernel_rfl
instance : TCell Try.prog 57 := ⟨⟨_, Try.underlying57, rfl⟩, let ⟨i, h, _, h2, _⟩ := info_parts info57; ⟨i, h, h2⟩⟩
instance : TElem Try.prog 57 (.nilFunc) 8 := ⟨let ⟨i, h, h1, h2, h3⟩ := info_parts info57; ⟨i, h, h2, h1, h3⟩, by decide⟩
theorem info58 : (Try.prog.info? 58).map (fun i => (i.zero, i.size, i.bytes)) = some (some (.nilFunc), 1, 8) := by kernel_rfl
instance : TCell Try.prog 58 := ⟨⟨_, Try.underlying58, rfl⟩, let ⟨i, h, _, h2, _⟩ := info_parts info58; ⟨i, h, h2⟩⟩
instance : TElem Try.prog 58 (.nilFunc) 8 := ⟨let ⟨i, h, h1, h2, h3⟩ := info_parts info58; ⟨i, h, h2, h1, h3⟩, by decide⟩
theorem info59 : (Try.prog.info? 59).map (fun i => (i.zero, i.size, i.bytes)) = some (some (.agg [.slice none 0 0].toArray), 1, 24) := by kernel_rfl
instance : TStruct Try.prog 59 1 [.slice none 0 0] := ⟨⟨_, Try.underlying59, rfl⟩, let ⟨i, h, h1, h2, _⟩ := info_parts info59; ⟨i, h, h2, h1, rfl⟩⟩
instance : TElem Try.prog 59 (.agg [.slice none 0 0].toArray) 24 := ⟨let ⟨i, h, h1, h2, h3⟩ := info_parts info59; ⟨i, h, h2, h1, h3⟩, by decide⟩
instance : TBuild Try.prog 59 1 [.slice none 0 0] := .str (let ⟨i, h, h1, _, _⟩ := info_parts info59; ⟨i, h, h1, rfl⟩) ⟨_, Try.underlying59, by kernel_rfl⟩
instance : TField Try.prog 59 0 0 := ⟨let ⟨i, h, _, h2, _⟩ := info_parts info30; ⟨_, _, i, Try.underlying59, rfl, rfl, h, h2, _, Try.underlying30, rfl⟩⟩
theorem info60 : (Try.prog.info? 60).map (fun i => (i.zero, i.size, i.bytes)) = some (some (.agg [.slice none 0 0].toArray), 1, 24) := by kernel_rfl
instance : TStruct Try.prog 60 1 [.slice none 0 0] := ⟨⟨_, Try.underlying60, rfl⟩, let ⟨i, h, h1, h2, _⟩ := info_parts info60; ⟨i, h, h2, h1, rfl⟩⟩
instance : TElem Try.prog 60 (.agg [.slice none 0 0].toArray) 24 := ⟨let ⟨i, h, h1, h2, h3⟩ := info_parts info60; ⟨i, h, h2, h1, h3⟩, by decide⟩
instance : TBuild Try.prog 60 1 [.slice none 0 0] := .str (let ⟨i, h, h1, _, _⟩ := info_parts info60; ⟨i, h, h1, rfl⟩) ⟨_, Try.underlying60, by kernel_rfl⟩
instance : TField Try.prog 60 0 0 := ⟨let ⟨i, h, _, h2, _⟩ := info_parts info30; ⟨_, _, i, Try.underlying60, rfl, rfl, h, h2, _, Try.underlying30, rfl⟩⟩
theorem info61 : (Try.prog.info? 61).map (fun i => (i.zero, i.size, i.bytes)) = some (some (.nilFunc), 1, 8) := by kernel_rfl
instance : TCell Try.prog 61 := ⟨⟨_, Try.underlying61, rfl⟩, let ⟨i, h, _, h2, _⟩ := info_parts info61; ⟨i, h, h2⟩⟩
instance : TElem Try.prog 61 (.nilFunc) 8 := ⟨let ⟨i, h, h1, h2, h3⟩ := info_parts info61; ⟨i, h, h2, h1, h3⟩, by decide⟩
theorem info62 : (Try.prog.info? 62).map (fun i => (i.zero, i.size, i.bytes)) = some (some (.nilFunc), 1, 8) := by kernel_rfl
instance : TCell Try.prog 62 := ⟨⟨_, Try.underlying62, rfl⟩, let ⟨i, h, _, h2, _⟩ := info_parts info62; ⟨i, h, h2⟩⟩
instance : TElem Try.prog 62 (.nilFunc) 8 := ⟨let ⟨i, h, h1, h2, h3⟩ := info_parts info62; ⟨i, h, h2, h1, h3⟩, by decide⟩
theorem info63 : (Try.prog.info? 63).map (fun i => (i.zero, i.size, i.bytes)) = some (some (.nilFunc), 1, 8) := by kernel_rfl
instance : TCell Try.prog 63 := ⟨⟨_, Try.underlying63, rfl⟩, let ⟨i, h, _, h2, _⟩ := info_parts info63; ⟨i, h, h2⟩⟩
instance : TElem Try.prog 63 (.nilFunc) 8 := ⟨let ⟨i, h, h1, h2, h3⟩ := info_parts info63; ⟨i, h, h2, h1, h3⟩, by decide⟩
theorem info64 : (Try.prog.info? 64).map (fun i => (i.zero, i.size, i.bytes)) = some (some (.nilFunc), 1, 8) := by kernel_rfl
instance : TCell Try.prog 64 := ⟨⟨_, Try.underlying64, rfl⟩, let ⟨i, h, _, h2, _⟩ := info_parts info64; ⟨i, h, h2⟩⟩
instance : TElem Try.prog 64 (.nilFunc) 8 := ⟨let ⟨i, h, h1, h2, h3⟩ := info_parts info64; ⟨i, h, h2, h1, h3⟩, by decide⟩
theorem info65 : (Try.prog.info? 65).map (fun i => (i.zero, i.size, i.bytes)) = some (some (.nilFunc), 1, 8) := by kernel_rfl
instance : TCell Try.prog 65 := ⟨⟨_, Try.underlying65, rfl⟩, let ⟨i, h, _, h2, _⟩ := info_parts info65; ⟨i, h, h2⟩⟩
instance : TElem Try.prog 65 (.nilFunc) 8 := ⟨let ⟨i, h, h1, h2, h3⟩ := info_parts info65; ⟨i, h, h2, h1, h3⟩, by decide⟩
theorem info66 : (Try.prog.info? 66).map (fun i => (i.zero, i.size, i.bytes)) = some (some (.nilFunc), 1, 8) := by kernel_rfl
instance : TCell Try.prog 66 := ⟨⟨_, Try.underlying66, rfl⟩, let ⟨i, h, _, h2, _⟩ := info_parts info66; ⟨i, h, h2⟩⟩
instance : TElem Try.prog 66 (.nilFunc) 8 := ⟨let ⟨i, h, h1, h2, h3⟩ := info_parts info66; ⟨i, h, h2, h1, h3⟩, by decide⟩
theorem info67 : (Try.prog.info? 67).map (fun i => (i.zero, i.size, i.bytes)) = some (some (.nilFunc), 1, 8) := by kernel_rfl
instance : TCell Try.prog 67 := ⟨⟨_, Try.underlying67, rfl⟩, let ⟨i, h, _, h2, _⟩ := info_parts info67; ⟨i, h, h2⟩⟩
instance : TElem Try.prog 67 (.nilFunc) 8 := ⟨let ⟨i, h, h1, h2, h3⟩ := info_parts info67; ⟨i, h, h2, h1, h3⟩, by decide⟩
theorem info68 : (Try.prog.info? 68).map (fun i => (i.zero, i.size, i.bytes)) = some (some (.nilFunc), 1, 8) := by kernel_rfl
instance : TCell Try.prog 68 := ⟨⟨_, Try.underlying68, rfl⟩, let ⟨i, h, _, h2, _⟩ := info_parts info68; ⟨i, h, h2⟩⟩
instance : TElem Try.prog 68 (.nilFunc) 8 := ⟨let ⟨i, h, h1, h2, h3⟩ := info_parts info68; ⟨i, h, h2, h1, h3⟩, by decide⟩
theorem info69 : (Try.prog.info? 69).map (fun i => (i.zero, i.size, i.bytes)) = some (some (.pointer none), 1, 8) := by kernel_rfl
instance : TCell Try.prog 69 := ⟨⟨_, Try.underlying69, rfl⟩, let ⟨i, h, _, h2, _⟩ := info_parts info69; ⟨i, h, h2⟩⟩
instance : TElem Try.prog 69 (.pointer none) 8 := ⟨let ⟨i, h, h1, h2, h3⟩ := info_parts info69; ⟨i, h, h2, h1, h3⟩, by decide⟩
theorem info71 : (Try.prog.info? 71).map (fun i => (i.zero, i.size, i.bytes)) = some (some (.nilFunc), 1, 8) := by kernel_rfl
instance : TCell Try.prog 71 := ⟨⟨_, Try.underlying71, rfl⟩, let ⟨i, h, _, h2, _⟩ := info_parts info71; ⟨i, h, h2⟩⟩
instance : TElem Try.prog 71 (.nilFunc) 8 := ⟨let ⟨i, h, h1, h2, h3⟩ := info_parts info71; ⟨i, h, h2, h1, h3⟩, by decide⟩
theorem info72 : (Try.prog.info? 72).map (fun i => (i.zero, i.size, i.bytes)) = some (some (.nilFunc), 1, 8) := by kernel_rfl
instance : TCell Try.prog 72 := ⟨⟨_, Try.underlying72, rfl⟩, let ⟨i, h, _, h2, _⟩ := info_parts info72; ⟨i, h, h2⟩⟩
instance : TElem Try.prog 72 (.nilFunc) 8 := ⟨let ⟨i, h, h1, h2, h3⟩ := info_parts info72; ⟨i, h, h2, h1, h3⟩, by decide⟩
theorem info73 : (Try.prog.info? 73).map (fun i => (i.zero, i.size, i.bytes)) = some (some (.nilFunc), 1, 8) := by kernel_rfl
instance : TCell Try.prog 73 := ⟨⟨_, Try.underlying73, rfl⟩, let ⟨i, h, _, h2, _⟩ := info_parts info73; ⟨i, h, h2⟩⟩
instance : TElem Try.prog 73 (.nilFunc) 8 := ⟨let ⟨i, h, h1, h2, h3⟩ := info_parts info73; ⟨i, h, h2, h1, h3⟩, by decide⟩
theorem info74 : (Try.prog.info? 74).map (fun i => (i.zero, i.size, i.bytes)) = some (some (.nilFunc), 1, 8) := by kernel_rfl
instance : TCell Try.prog 74 := ⟨⟨_, Try.underlying74, rfl⟩, let ⟨i, h, _, h2, _⟩ := info_parts info74; ⟨i, h, h2⟩⟩
instance : TElem Try.prog 74 (.nilFunc) 8 := ⟨let ⟨i, h, h1, h2, h3⟩ := info_parts info74; ⟨i, h, h2, h1, h3⟩, by decide⟩
theorem info75 : (Try.prog.info? 75).map (fun i => (i.zero, i.size, i.bytes)) = some (some (.nilFunc), 1, 8) := by kernel_rfl
instance : TCell Try.prog 75 := ⟨⟨_, Try.underlying75, rfl⟩, let ⟨i, h, _, h2, _⟩ := info_parts info75; ⟨i, h, h2⟩⟩
instance : TElem Try.prog 75 (.nilFunc) 8 := ⟨let ⟨i, h, h1, h2, h3⟩ := info_parts info75; ⟨i, h, h2, h1, h3⟩, by decide⟩
theorem info76 : (Try.prog.info? 76).map (fun i => (i.zero, i.size, i.bytes)) = some (some (.nilFunc), 1, 8) := by kernel_rfl
instance : TCell Try.prog 76 := ⟨⟨_, Try.underlying76, rfl⟩, let ⟨i, h, _, h2, _⟩ := info_parts info76; ⟨i, h, h2⟩⟩
instance : TElem Try.prog 76 (.nilFunc) 8 := ⟨let ⟨i, h, h1, h2, h3⟩ := info_parts info76; ⟨i, h, h2, h1, h3⟩, by decide⟩
theorem info77 : (Try.prog.info? 77).map (fun i => (i.zero, i.size, i.bytes)) = some (some (.nilFunc), 1, 8) := by kernel_rfl
instance : TCell Try.prog 77 := ⟨⟨_, Try.underlying77, rfl⟩, let ⟨i, h, _, h2, _⟩ := info_parts info77; ⟨i, h, h2⟩⟩
instance : TElem Try.prog 77 (.nilFunc) 8 := ⟨let ⟨i, h, h1, h2, h3⟩ := info_parts info77; ⟨i, h, h2, h1, h3⟩, by decide⟩
theorem info78 : (Try.prog.info? 78).map (fun i => (i.zero, i.size, i.bytes)) = some (some (.nilFunc), 1, 8) := by kernel_rfl
instance : TCell Try.prog 78 := ⟨⟨_, Try.underlying78, rfl⟩, let ⟨i, h, _, h2, _⟩ := info_parts info78; ⟨i, h, h2⟩⟩
instance : TElem Try.prog 78 (.nilFunc) 8 := ⟨let ⟨i, h, h1, h2, h3⟩ := info_parts info78; ⟨i, h, h2, h1, h3⟩, by decide⟩
theorem info79 : (Try.prog.info? 79).map (fun i => (i.zero, i.size, i.bytes)) = some (some (.nilFunc), 1, 8) := by kernel_rfl
instance : TCell Try.prog 79 := ⟨⟨_, Try.underlying79, rfl⟩, let ⟨i, h, _, h2, _⟩ := info_parts info79; ⟨i, h, h2⟩⟩
instance : TElem Try.prog 79 (.nilFunc) 8 := ⟨let ⟨i, h, h1, h2, h3⟩ := info_parts info79; ⟨i, h, h2, h1, h3⟩, by decide⟩
theorem info80 : (Try.prog.info? 80).map (fun i => (i.zero, i.size, i.bytes)) = some (some (.nilFunc), 1, 8) := by kernel_rfl
instance : TCell Try.prog 80 := ⟨⟨_, Try.underlying80, rfl⟩, let ⟨i, h, _, h2, _⟩ := info_parts info80; ⟨i, h, h2⟩⟩
instance : TElem Try.prog 80 (.nilFunc) 8 := ⟨let ⟨i, h, h1, h2, h3⟩ := info_parts info80; ⟨i, h, h2, h1, h3⟩, by decide⟩
theorem info81 : (Try.prog.info? 81).map (fun i => (i.zero, i.size, i.bytes)) = some (some (.nilFunc), 1, 8) := by kernel_rfl
instance : TCell Try.prog 81 := ⟨⟨_, Try.underlying81, rfl⟩, let ⟨i, h, _, h2, _⟩ := info_parts info81; ⟨i, h, h2⟩⟩
instance : TElem Try.prog 81 (.nilFunc) 8 := ⟨let ⟨i, h, h1, h2, h3⟩ := info_parts info81; ⟨i, h, h2, h1, h3⟩, by decide⟩
theorem info82 : (Try.prog.info? 82).map (fun i => (i.zero, i.size, i.bytes)) = some (some (.nilFunc), 1, 8) := by kernel_rfl
instance : TCell Try.prog 82 := ⟨⟨_, Try.underlying82, rfl⟩, let ⟨i, h, _, h2, _⟩ := info_parts info82; ⟨i, h, h2⟩⟩
instance : TElem Try.prog 82 (.nilFunc) 8 := ⟨let ⟨i, h, h1, h2, h3⟩ := info_parts info82; ⟨i, h, h2, h1, h3⟩, by decide⟩
theorem info88 : (Try.prog.info? 88).map (fun i => (i.zero, i.size, i.bytes)) = some (some (.nilFunc), 1, 8) := by kernel_rfl
instance : TCell Try.prog 88 := ⟨⟨_, Try.underlying88, rfl⟩, let ⟨i, h, _, h2, _⟩ := info_parts info88; ⟨i, h, h2⟩⟩
instance : TElem Try.prog 88 (.nilFunc) 8 := ⟨let ⟨i, h, h1, h2, h3⟩ := info_parts info88; ⟨i, h, h2, h1, h3⟩, by decide⟩
instance : TKind Try.prog 89 .u32 := ⟨Try.underlying89⟩
theorem info89 : (Try.prog.info? 89).map (fun i => (i.zero, i.size, i.bytes)) = some (some (.int .u32 0), 1, 4) := by kernel_rfl
instance : TCell Try.prog 89 := ⟨⟨_, Try.underlying89, rfl⟩, let ⟨i, h, _, h2, _⟩ := info_parts info89; ⟨i, h, h2⟩⟩
instance : TElem Try.prog 89 (.int .u32 0) 4 := ⟨let ⟨i, h, h1, h2, h3⟩ := info_parts info89; ⟨i, h, h2, h1, h3⟩, by decide⟩
instance : TKind Try.prog 90 .u8 := ⟨Try.underlying90⟩
theorem info90 : (Try.prog.info? 90).map (fun i => (i.zero, i.size, i.bytes)) = some (some (.int .u8 0), 1, 1) := by kernel_rfl
instance : TCell Try.prog 90 := ⟨⟨_, Try.underlying90, rfl⟩, let ⟨i, h, _, h2, _⟩ := info_parts info90; ⟨i, h, h2⟩⟩
instance : TElem Try.prog 90 (.int .u8 0) 1 := ⟨let ⟨i, h, h1, h2, h3⟩ := info_parts info90; ⟨i, h, h2, h1, h3⟩, by decide⟩
instance : TKind Try.prog 91 .u8 := ⟨Try.underlying91⟩
theorem info91 : (Try.prog.info? 91).map (fun i => (i.zero, i.size, i.bytes)) = some (some (.int .u8 0), 1, 1) := by kernel_rfl
instance : TCell Try.prog 91 := ⟨⟨_, Try.underlying91, rfl⟩, let ⟨i, h, _, h2, _⟩ := info_parts info91; ⟨i, h, h2⟩⟩
instance : TElem Try.prog 91 (.int .u8 0) 1 := ⟨let ⟨i, h, h1, h2, h3⟩ := info_parts info91; ⟨i, h, h2, h1, h3⟩, by decide⟩
theorem info92 : (Try.prog.info? 92).map (fun i => (i.zero, i.size, i.bytes)) = some (some (.nilFunc), 1, 8) := by kernel_rfl
instance : TCell Try.prog 92 := ⟨⟨_, Try.underlying92, rfl⟩, let ⟨i, h, _, h2, _⟩ := info_parts info92; ⟨i, h, h2⟩⟩
instance : TElem Try.prog 92 (.nilFunc) 8 := ⟨let ⟨i, h, h1, h2, h3⟩ := info_parts info92; ⟨i, h, h2, h1, h3⟩, by decide⟩
theorem info93 : (Try.prog.info? 93).map (fun i => (i.zero, i.size, i.bytes)) = some (some (.pointer none), 1, 8) := by kernel_rfl
instance : TCell Try.prog 93 := ⟨⟨_, Try.underlying93, rfl⟩, let ⟨i, h, _, h2, _⟩ := info_parts info93; ⟨i, h, h2⟩⟩
instance : TElem Try.prog 93 (.pointer none) 8 := ⟨let ⟨i, h, h1, h2, h3⟩ := info_parts info93; ⟨i, h, h2, h1, h3⟩, by decide⟩
instance : TKind Try.prog 94 .i32 := ⟨Try.underlying94⟩
theorem info94 : (Try.prog.info? 94).map (fun i => (i.zero, i.size, i.bytes)) = some (some (.int .i32 0), 1, 4) := by kernel_rfl
instance : TCell Try.prog 94 := ⟨⟨_, Try.underlying94, rfl⟩, let ⟨i, h, _, h2, _⟩ := info_parts info94; ⟨i, h, h2⟩⟩
instance : TElem Try.prog 94 (.int .i32 0) 4 := ⟨let ⟨i, h, h1, h2, h3⟩ := info_parts info94; ⟨i, h, h2, h1, h3⟩, by decide⟩
instance : TKind Try.prog 95 .i32 := ⟨Try.underlying95⟩
theorem info95 : (Try.prog.info? 95).map (fun i => (i.zero, i.size, i.bytes)) = some (some (.int .i32 0), 1, 4) := by kernel_rfl
instance : TCell Try.prog 95 := ⟨⟨_, Try.underlying95, rfl⟩, let ⟨i, h, _, h2, _⟩ := info_parts info95; ⟨i, h, h2⟩⟩
instance : TElem Try.prog 95 (.int .i32 0) 4 := ⟨let ⟨i, h, h1, h2, h3⟩ := info_parts info95; ⟨i, h, h2, h1, h3⟩, by decide⟩
end Go.Proofs.Ytkcbihmpjkkccaa
/-
  Contracts of the small functions that all seats share. No condition.
-/
namespace Go.Proofs.Ytkcbihmpjkkccaa
open Go Go.RowKit
attribute [local irreducible] AWp AOps ResIs Ret1 QOp LOp COp AFnV AFn Imms LeE LeO
set_option maxHeartbeats 1000000
set_option linter.unusedSimpArgs false
set_option linter.unusedVariables false

theorem inRange_c (n a b : Int) : AFnV Try.prog 13 [.i n, .i a, .i b] (.bool (decide (a ≤ n ∧ n ≤ b))) := by
  (refine AFnV.start Try.func13 Try.ntmps13 rfl (by kernel_rfl) fun hk => ?_; simp only [Env.start, enumF, List.length_cons, List.length_nil, Nat.reduceAdd, Nat.reduceSub, List.cons_append, List.nil_append])
  repeat' (first
  | (apply AOps.nil; try simp only [List.nil_append, List.cons_append, List.set_cons_zero, List.set_cons_succ, List.length_cons, List.length_nil, Nat.reduceAdd, AV.sh, AV.sh1, AV.sh0, AO.sh, List.map_cons, List.map_nil, Nat.zero_add, Nat.add_zero, setAll])
  | ((apply AOps.splitP; exact rfl; exact rfl) <;> intro h)
  | ((apply AOps.splitN; exact rfl; exact rfl) <;> intro h)
  | (apply w_move; exact rfl; exact rfl)
  | (apply w_assign; exact rfl; exact rfl)
  | apply AWp.seq
  | apply AWp.region
  | ((apply AWp.condP; exact rfl) <;> intro h)
  | ((apply AWp.condN; exact rfl) <;> intro h)
  | (apply AWp.condT; exact rfl)
  | (apply AWp.condF; exact rfl)
  | ((apply AWp.condB; exact rfl) <;> intro h)
  | apply AWp.block
  | apply AWp.ret
  | apply AWp.exit
  | apply AWp.skip
  | (apply AWp.regionQ; kernel_rfl; kernel_rfl)
  | (apply if_pos'; exact rfl)
  | (apply if_neg'; decide)
  | (apply w_skip; exact rfl)
  | (apply w_pickT; exact rfl; exact rfl; exact rfl)
  | (apply w_pickF; exact rfl; exact rfl; exact rfl)
  | (apply w_len; exact rfl; exact rfl; first | exact .ints _ | exact .intss _ | exact .sli rfl | exact .sls rfl | exact .slr rfl | exact .orow rfl | exact .nil)
  | ((first | apply w_lss | apply w_leq | apply w_gtr | apply w_geq | apply w_eql | apply w_neq | apply w_add | apply w_sub | apply w_mul | apply w_idx | apply w_ld | apply w_fld | apply w_fa | apply w_extv | apply w_min | apply w_max | apply w_slhi | apply w_sllo | apply w_bs2); iterate 3 exact rfl)
  | ((first | apply w_eqlb | apply w_neqb | apply w_idxs | apply w_lds | apply w_ext); iterate 3 exact rfl)
  | (apply w_rem; exact rfl; exact rfl; exact rfl; (focus (omega; done)); (focus (omega; done)))
  | (apply w_quo; exact rfl; exact rfl; exact rfl; (focus (omega; done)); (focus (omega; done)))
  | (apply w_remT; exact rfl; exact rfl; exact rfl)
  | (apply w_quoT; exact rfl; exact rfl; exact rfl)
  | ((first | apply w_not | apply w_neg | apply w_conv | apply w_build0 | apply w_bs1 | apply w_boxa); iterate 2 exact rfl)
  | (apply w_idxo; exact rfl; exact rfl; (first | exact .sli rfl | exact .sls rfl | exact .slr rfl); exact rfl)
  | ((first | apply w_idxr | apply w_ldr); iterate 4 exact rfl)
  | (apply w_ldo; iterate 4 exact rfl)
  | (apply w_ldls; iterate 4 exact rfl)
  | (apply w_ldrp; iterate 4 exact rfl)
  | (apply w_ldb; iterate 5 exact rfl)
  | (apply w_ldst; iterate 5 exact rfl)
  | ((first | apply w_sllh | apply w_stbi); iterate 4 exact rfl)
  | ((first | apply w_oslo | apply w_oshi | apply w_stbii); iterate 4 exact rfl)
  | (apply w_copy; exact rfl; (first | exact .own rfl rfl rfl | exact .osub); exact rfl; rotate_left 1; exact rfl; (first | exact .ints _ | exact .sli rfl | exact .orow rfl | exact .nil | exact .osub rfl (by simp; omega)))
  | (apply w_build1; exact rfl; exact rfl; (first | exact one_val rfl rfl | exact one_ints | exact one_intss | exact one_own rfl True.intro))
  | (apply w_build2; exact rfl; exact rfl; exact rfl; (first | exact one_val rfl rfl | exact one_ints | exact one_intss | exact one_own rfl True.intro); (first | exact one_val rfl rfl | exact one_ints | exact one_intss | exact one_own rfl True.intro))
  | (apply w_bs0; iterate 1 exact rfl)
  | (apply w_appn; exact rfl; exact rfl; (first | exact .ints _ | exact .sli rfl | exact .orow rfl | exact .nil | exact .osub rfl (by simp; omega)); exact rfl)
  | (apply w_app; exact rfl; exact rfl; exact rfl; exact rfl; (first | exact .ints _ | exact .sli rfl | exact .orow rfl | exact .nil | exact .osub rfl (by simp; omega)); rotate_left 1; simp only [Env.mp, List.map_cons, List.map_nil, List.set_cons_zero, List.set_cons_succ, AV.kill, AV.kill1, AO.kill, AV.noRow, AV.noRow1, AO.via, reduceIte, Nat.reduceEqDiff, Nat.reduceLT, Env.up, Nat.zero_ne_one, Nat.one_ne_zero, Nat.reduceAdd, List.cons_append, List.nil_append]; rotate_left 1)
  | (apply w_alst; iterate 2 exact rfl)
  | (apply w_alone; iterate 3 exact rfl)
  | (apply w_mki; exact rfl; exact rfl; rotate_left 3; exact rfl; rotate_left 1)
  | (apply w_mkr; exact rfl; exact rfl; rotate_left 3; exact rfl; rotate_left 1)
  | (apply w_strow; exact rfl; exact rfl; rotate_left 1; exact rfl; exact rfl; exact rfl; exact rfl; simp only [Env.mp, List.map_cons, List.map_nil, List.set_cons_zero, List.set_cons_succ, AV.kill, AV.kill1, AO.kill, AV.noRow, AV.noRow1, AO.via, reduceIte, Nat.reduceEqDiff, Nat.reduceLT, Env.up, Nat.zero_ne_one, Nat.one_ne_zero, Nat.reduceAdd, List.cons_append, List.nil_append]; rotate_left 1)
  | (apply w_sti; exact rfl; exact rfl; rotate_left 1; exact rfl; rotate_left 2)
  | (apply w_stst; iterate 5 exact rfl)
  | (apply w_stbv; iterate 6 exact rfl)
  | (apply w_stbo; exact rfl; exact rfl; exact rfl; exact rfl; exact rfl; exact True.intro)
  | ((apply AOps.splitB; exact rfl; exact rfl) <;> intro h)
  | apply AllOf.nil
  | (apply AllOf.cons; exact rfl)
  | (apply AAny.take; exact rfl; exact rfl; kernel_rfl; kernel_rfl)
  | (apply AAny.all; exact rfl)
  | (apply AAny.done; exact rfl)
  | (apply inI_of <;> omega)
  | omega
  | (simp <;> omega))
  · exact .bool Try.results13 rfl (by simp [*])
  · exact .bool Try.results13 rfl (by simp [*])

theorem l01In_c (n a b : Int) : AFnV Try.prog 18 [.i n, .i a, .i b] (.bool (decide (a ≤ n ∧ n ≤ b))) := by
  (refine AFnV.start Try.func18 Try.ntmps18 rfl (by kernel_rfl) fun hk => ?_; simp only [Env.start, enumF, List.length_cons, List.length_nil, Nat.reduceAdd, Nat.reduceSub, List.cons_append, List.nil_append])
  repeat' (first
  | (apply AOps.nil; try simp only [List.nil_append, List.cons_append, List.set_cons_zero, List.set_cons_succ, List.length_cons, List.length_nil, Nat.reduceAdd, AV.sh, AV.sh1, AV.sh0, AO.sh, List.map_cons, List.map_nil, Nat.zero_add, Nat.add_zero, setAll])
  | ((apply AOps.splitP; exact rfl; exact rfl) <;> intro h)
  | ((apply AOps.splitN; exact rfl; exact rfl) <;> intro h)
  | (apply w_move; exact rfl; exact rfl)
  | (apply w_assign; exact rfl; exact rfl)
  | apply AWp.seq
  | apply AWp.region
  | ((apply AWp.condP; exact rfl) <;> intro h)
  | ((apply AWp.condN; exact rfl) <;> intro h)
  | (apply AWp.condT; exact rfl)
  | (apply AWp.condF; exact rfl)
  | ((apply AWp.condB; exact rfl) <;> intro h)
  | apply AWp.block
  | apply AWp.ret
  | apply AWp.exit
  | apply AWp.skip
  | (apply AWp.regionQ; kernel_rfl; kernel_rfl)
  | (apply if_pos'; exact rfl)
  | (apply if_neg'; decide)
  | (apply w_skip; exact rfl)
  | (apply w_pickT; exact rfl; exact rfl; exact rfl)
  | (apply w_pickF; exact rfl; exact rfl; exact rfl)
  | (apply w_len; exact rfl; exact rfl; first | exact .ints _ | exact .intss _ | exact .sli rfl | exact .sls rfl | exact .slr rfl | exact .orow rfl | exact .nil)
  | ((first | apply w_lss | apply w_leq | apply w_gtr | apply w_geq | apply w_eql | apply w_neq | apply w_add | apply w_sub | apply w_mul | apply w_idx | apply w_ld | apply w_fld | apply w_fa | apply w_extv | apply w_min | apply w_max | apply w_slhi | apply w_sllo | apply w_bs2); iterate 3 exact rfl)
  | ((first | apply w_eqlb | apply w_neqb | apply w_idxs | apply w_lds | apply w_ext); iterate 3 exact rfl)
  | (apply w_rem; exact rfl; exact rfl; exact rfl; (focus (omega; done)); (focus (omega; done)))
  | (apply w_quo; exact rfl; exact rfl; exact rfl; (focus (omega; done)); (focus (omega; done)))
  | (apply w_remT; exact rfl; exact rfl; exact rfl)
  | (apply w_quoT; exact rfl; exact rfl; exact rfl)
  | ((first | apply w_not | apply w_neg | apply w_conv | apply w_build0 | apply w_bs1 | apply w_boxa); iterate 2 exact rfl)
  | (apply w_idxo; exact rfl; exact rfl; (first | exact .sli rfl | exact .sls rfl | exact .slr rfl); exact rfl)
  | ((first | apply w_idxr | apply w_ldr); iterate 4 exact rfl)
  | (apply w_ldo; iterate 4 exact rfl)
  | (apply w_ldls; iterate 4 exact rfl)
  | (apply w_ldrp; iterate 4 exact rfl)
  | (apply w_ldb; iterate 5 exact rfl)
  | (apply w_ldst; iterate 5 exact rfl)
  | ((first | apply w_sllh | apply w_stbi); iterate 4 exact rfl)
  | ((first | apply w_oslo | apply w_oshi | apply w_stbii); iterate 4 exact rfl)
  | (apply w_copy; exact rfl; (first | exact .own rfl rfl rfl | exact .osub); exact rfl; rotate_left 1; exact rfl; (first | exact .ints _ | exact .sli rfl | exact .orow rfl | exact .nil | exact .osub rfl (by simp; omega)))
  | (apply w_build1; exact rfl; exact rfl; (first | exact one_val rfl rfl | exact one_ints | exact one_intss | exact one_own rfl True.intro))
  | (apply w_build2; exact rfl; exact rfl; exact rfl; (first | exact one_val rfl rfl | exact one_ints | exact one_intss | exact one_own rfl True.intro); (first | exact one_val rfl rfl | exact one_ints | exact one_intss | exact one_own rfl True.intro))
  | (apply w_bs0; iterate 1 exact rfl)
  | (apply w_appn; exact rfl; exact rfl; (first | exact .ints _ | exact .sli rfl | exact .orow rfl | exact .nil | exact .osub rfl (by simp; omega)); exact rfl)
  | (apply w_app; exact rfl; exact rfl; exact rfl; exact rfl; (first | exact .ints _ | exact .sli rfl | exact .orow rfl | exact .nil | exact .osub rfl (by simp; omega)); rotate_left 1; simp only [Env.mp, List.map_cons, List.map_nil, List.set_cons_zero, List.set_cons_succ, AV.kill, AV.kill1, AO.kill, AV.noRow, AV.noRow1, AO.via, reduceIte, Nat.reduceEqDiff, Nat.reduceLT, Env.up, Nat.zero_ne_one, Nat.one_ne_zero, Nat.reduceAdd, List.cons_append, List.nil_append]; rotate_left 1)
  | (apply w_alst; iterate 2 exact rfl)
  | (apply w_alone; iterate 3 exact rfl)
  | (apply w_mki; exact rfl; exact rfl; rotate_left 3; exact rfl; rotate_left 1)
  | (apply w_mkr; exact rfl; exact rfl; rotate_left 3; exact rfl; rotate_left 1)
  | (apply w_strow; exact rfl; exact rfl; rotate_left 1; exact rfl; exact rfl; exact rfl; exact rfl; simp only [Env.mp, List.map_cons, List.map_nil, List.set_cons_zero, List.set_cons_succ, AV.kill, AV.kill1, AO.kill, AV.noRow, AV.noRow1, AO.via, reduceIte, Nat.reduceEqDiff, Nat.reduceLT, Env.up, Nat.zero_ne_one, Nat.one_ne_zero, Nat.reduceAdd, List.cons_append, List.nil_append]; rotate_left 1)
  | (apply w_sti; exact rfl; exact rfl; rotate_left 1; exact rfl; rotate_left 2)
  | (apply w_stst; iterate 5 exact rfl)
  | (apply w_stbv; iterate 6 exact rfl)
  | (apply w_stbo; exact rfl; exact rfl; exact rfl; exact rfl; exact rfl; exact True.intro)
  | ((apply AOps.splitB; exact rfl; exact rfl) <;> intro h)
  | apply AllOf.nil
  | (apply AllOf.cons; exact rfl)
  | (apply AAny.take; exact rfl; exact rfl; kernel_rfl; kernel_rfl)
  | (apply AAny.all; exact rfl)
  | (apply AAny.done; exact rfl)
  | (apply inI_of <;> omega)
  | omega
  | (simp <;> omega))
  · exact .bool Try.results18 rfl (by simp [*])
  · exact .bool Try.results18 rfl (by simp [*])

def withinL (xs : List Int) (a b : Int) : Bool := xs.all fun x => decide (a ≤ x ∧ x ≤ b)

theorem withinL_snoc (xs : List Int) (a b : Int) (i : Int) (h0 : 0 ≤ i) (h1 : i < xs.length) : withinL (xs.take (i + 1).toNat) a b = (withinL (xs.take i.toNat) a b && decide (a ≤ geti xs i ∧ geti xs i ≤ b)) := by
  have e : (i + 1).toNat = i.toNat + 1 := by omega
  have hi : i.toNat < xs.length := by omega
  rw [e, List.take_succ_eq_append_getElem hi]
  rw [withinL, List.all_append]
  simp [withinL, geti, hi]
theorem withinL_false (xs : List Int) (a b : Int) (i : Int) (h0 : 0 ≤ i) (h1 : i < xs.length) (h : ¬ (a ≤ geti xs i ∧ geti xs i ≤ b)) : withinL xs a b = false := by
  unfold withinL
  rw [List.all_eq_false]
  exact ⟨geti xs i, geti_mem h0 h1, by simpa using h⟩

theorem withinL_get {xs : List Int} {a b : Int} (h : withinL xs a b = true) (i : Nat) (hi : i < xs.length) : a ≤ geti xs i ∧ geti xs i ≤ b := by
  have := List.all_eq_true.1 h _ (List.getElem_mem hi)
  simpa [geti, hi] using this

theorem within_c (xs : List Int) (a b : Int) : AFnV Try.prog 44 [.ints xs, .i a, .i b] (.bool (withinL xs a b)) := by
  (refine AFnV.start Try.func44 Try.ntmps44 rfl (by kernel_rfl) fun hk => ?_; simp only [Env.start, enumF, List.length_cons, List.length_nil, Nat.reduceAdd, Nat.reduceSub, List.cons_append, List.nil_append])
  obtain ⟨hk, hl⟩ : ArgOk (.ints xs) := hk _ (by simp)
  repeat' (first
  | (apply AOps.nil; try simp only [List.nil_append, List.cons_append, List.set_cons_zero, List.set_cons_succ, List.length_cons, List.length_nil, Nat.reduceAdd, AV.sh, AV.sh1, AV.sh0, AO.sh, List.map_cons, List.map_nil, Nat.zero_add, Nat.add_zero, setAll])
  | ((apply AOps.splitP; exact rfl; exact rfl) <;> intro h)
  | ((apply AOps.splitN; exact rfl; exact rfl) <;> intro h)
  | (apply w_move; exact rfl; exact rfl)
  | (apply w_assign; exact rfl; exact rfl)
  | apply AWp.seq
  | apply AWp.region
  | ((apply AWp.condP; exact rfl) <;> intro h)
  | ((apply AWp.condN; exact rfl) <;> intro h)
  | (apply AWp.condT; exact rfl)
  | (apply AWp.condF; exact rfl)
  | ((apply AWp.condB; exact rfl) <;> intro h)
  | apply AWp.block
  | apply AWp.ret
  | apply AWp.exit
  | apply AWp.skip
  | (apply AWp.regionQ; kernel_rfl; kernel_rfl)
  | (apply if_pos'; exact rfl)
  | (apply if_neg'; decide)
  | (apply w_skip; exact rfl)
  | (apply w_pickT; exact rfl; exact rfl; exact rfl)
  | (apply w_pickF; exact rfl; exact rfl; exact rfl)
  | (apply w_len; exact rfl; exact rfl; first | exact .ints _ | exact .intss _ | exact .sli rfl | exact .sls rfl | exact .slr rfl | exact .orow rfl | exact .nil)
  | (apply w_call (inRange_c _ _ _); exact rfl; exact rfl; focus ((repeat (first | exact im_nil | refine im_cons rfl (.val _) ?_ | refine im_cons rfl (.ints _) ?_ | refine im_cons rfl (.intss _) ?_ | refine im_cons rfl (.sli rfl) ?_ | refine im_cons rfl (.sls rfl) ?_ | refine im_cons rfl (.orow rfl) ?_ | refine im_cons rfl (.osub rfl (by simp; omega)) ?_ | refine im_cons rfl (.nil) ?_ | refine im_cons rfl (.nils) ?_ | refine im_cons rfl (im_agg2 (.val _) (.ints _)) ?_ | refine im_cons rfl (im_agg2 (.val _) (.sli rfl)) ?_ | refine im_cons rfl (im_agg2 (.val _) (.nil)) ?_ | refine im_cons rfl (im_agg2 (.ints _) (.intss _)) ?_ | refine im_cons rfl (im_agg2 (.ints _) (.sls rfl)) ?_ | refine im_cons rfl (im_agg2 (.sli rfl) (.intss _)) ?_ | refine im_cons rfl (im_agg2 (.sli rfl) (.sls rfl)) ?_ | refine im_cons rfl (im_agg1 (.ints _)) ?_ | refine im_cons rfl (im_agg1 (.sli rfl)) ?_ | refine im_cons rfl (im_agg1 (.intss _)) ?_ | refine im_cons rfl (im_agg1 (.sls rfl)) ?_ | refine im_cons rfl (im_agg1 (.nil)) ?_ | refine im_cons rfl (im_agg1 (.nils)) ?_)); done))
  | ((first | apply w_lss | apply w_leq | apply w_gtr | apply w_geq | apply w_eql | apply w_neq | apply w_add | apply w_sub | apply w_mul | apply w_idx | apply w_ld | apply w_fld | apply w_fa | apply w_extv | apply w_min | apply w_max | apply w_slhi | apply w_sllo | apply w_bs2); iterate 3 exact rfl)
  | ((first | apply w_eqlb | apply w_neqb | apply w_idxs | apply w_lds | apply w_ext); iterate 3 exact rfl)
  | (apply w_rem; exact rfl; exact rfl; exact rfl; (focus (omega; done)); (focus (omega; done)))
  | (apply w_quo; exact rfl; exact rfl; exact rfl; (focus (omega; done)); (focus (omega; done)))
  | (apply w_remT; exact rfl; exact rfl; exact rfl)
  | (apply w_quoT; exact rfl; exact rfl; exact rfl)
  | ((first | apply w_not | apply w_neg | apply w_conv | apply w_build0 | apply w_bs1 | apply w_boxa); iterate 2 exact rfl)
  | (apply w_idxo; exact rfl; exact rfl; (first | exact .sli rfl | exact .sls rfl | exact .slr rfl); exact rfl)
  | ((first | apply w_idxr | apply w_ldr); iterate 4 exact rfl)
  | (apply w_ldo; iterate 4 exact rfl)
  | (apply w_ldls; iterate 4 exact rfl)
  | (apply w_ldrp; iterate 4 exact rfl)
  | (apply w_ldb; iterate 5 exact rfl)
  | (apply w_ldst; iterate 5 exact rfl)
  | ((first | apply w_sllh | apply w_stbi); iterate 4 exact rfl)
  | ((first | apply w_oslo | apply w_oshi | apply w_stbii); iterate 4 exact rfl)
  | (apply w_copy; exact rfl; (first | exact .own rfl rfl rfl | exact .osub); exact rfl; rotate_left 1; exact rfl; (first | exact .ints _ | exact .sli rfl | exact .orow rfl | exact .nil | exact .osub rfl (by simp; omega)))
  | (apply w_build1; exact rfl; exact rfl; (first | exact one_val rfl rfl | exact one_ints | exact one_intss | exact one_own rfl True.intro))
  | (apply w_build2; exact rfl; exact rfl; exact rfl; (first | exact one_val rfl rfl | exact one_ints | exact one_intss | exact one_own rfl True.intro); (first | exact one_val rfl rfl | exact one_ints | exact one_intss | exact one_own rfl True.intro))
  | (apply w_bs0; iterate 1 exact rfl)
  | (apply w_appn; exact rfl; exact rfl; (first | exact .ints _ | exact .sli rfl | exact .orow rfl | exact .nil | exact .osub rfl (by simp; omega)); exact rfl)
  | (apply w_app; exact rfl; exact rfl; exact rfl; exact rfl; (first | exact .ints _ | exact .sli rfl | exact .orow rfl | exact .nil | exact .osub rfl (by simp; omega)); rotate_left 1; simp only [Env.mp, List.map_cons, List.map_nil, List.set_cons_zero, List.set_cons_succ, AV.kill, AV.kill1, AO.kill, AV.noRow, AV.noRow1, AO.via, reduceIte, Nat.reduceEqDiff, Nat.reduceLT, Env.up, Nat.zero_ne_one, Nat.one_ne_zero, Nat.reduceAdd, List.cons_append, List.nil_append]; rotate_left 1)
  | (apply w_alst; iterate 2 exact rfl)
  | (apply w_alone; iterate 3 exact rfl)
  | (apply w_mki; exact rfl; exact rfl; rotate_left 3; exact rfl; rotate_left 1)
  | (apply w_mkr; exact rfl; exact rfl; rotate_left 3; exact rfl; rotate_left 1)
  | (apply w_strow; exact rfl; exact rfl; rotate_left 1; exact rfl; exact rfl; exact rfl; exact rfl; simp only [Env.mp, List.map_cons, List.map_nil, List.set_cons_zero, List.set_cons_succ, AV.kill, AV.kill1, AO.kill, AV.noRow, AV.noRow1, AO.via, reduceIte, Nat.reduceEqDiff, Nat.reduceLT, Env.up, Nat.zero_ne_one, Nat.one_ne_zero, Nat.reduceAdd, List.cons_append, List.nil_append]; rotate_left 1)
  | (apply w_sti; exact rfl; exact rfl; rotate_left 1; exact rfl; rotate_left 2)
  | (apply w_stst; iterate 5 exact rfl)
  | (apply w_stbv; iterate 6 exact rfl)
  | (apply w_stbo; exact rfl; exact rfl; exact rfl; exact rfl; exact rfl; exact True.intro)
  | ((apply AOps.splitB; exact rfl; exact rfl) <;> intro h)
  | apply AllOf.nil
  | (apply AllOf.cons; exact rfl)
  | (apply AAny.take; exact rfl; exact rfl; kernel_rfl; kernel_rfl)
  | (apply AAny.all; exact rfl)
  | (apply AAny.done; exact rfl)
  | (apply inI_of <;> omega)
  | omega
  | (simp <;> omega))
  refine AWp.loop (ι := Int) (fun i => ⟨21, [(0, .ints xs), (1, .i a), (2, .i b), (9, .ints xs), (10, .i xs.length), (11, .i i)]⟩) (fun _ => []) (fun i => 0 ≤ i ∧ i ≤ xs.length ∧ withinL (xs.take i.toNat) a b = true) (fun i => (xs.length - i).toNat) 0 ⟨by omega, by omega, rfl⟩ ⟨lee rfl (by (repeat (first | exact le_nil | refine le_eq rfl rfl ?_ | refine le_eq rfl (congrArg AV.i (by omega)) ?_))), by (repeat (first | exact lo_nil | refine lo_dead ?_ | refine lo_eq rfl ?_)), rfl, rfl⟩ ?_
  rintro i ⟨h0, h1, h2⟩
  repeat' (first
  | (apply AOps.nil; try simp only [List.nil_append, List.cons_append, List.set_cons_zero, List.set_cons_succ, List.length_cons, List.length_nil, Nat.reduceAdd, AV.sh, AV.sh1, AV.sh0, AO.sh, List.map_cons, List.map_nil, Nat.zero_add, Nat.add_zero, setAll])
  | ((apply AOps.splitP; exact rfl; exact rfl) <;> intro h)
  | ((apply AOps.splitN; exact rfl; exact rfl) <;> intro h)
  | (apply w_move; exact rfl; exact rfl)
  | (apply w_assign; exact rfl; exact rfl)
  | apply AWp.seq
  | apply AWp.region
  | ((apply AWp.condP; exact rfl) <;> intro h)
  | ((apply AWp.condN; exact rfl) <;> intro h)
  | (apply AWp.condT; exact rfl)
  | (apply AWp.condF; exact rfl)
  | ((apply AWp.condB; exact rfl) <;> intro h)
  | apply AWp.block
  | apply AWp.ret
  | apply AWp.exit
  | apply AWp.skip
  | (apply AWp.regionQ; kernel_rfl; kernel_rfl)
  | (apply if_pos'; exact rfl)
  | (apply if_neg'; decide)
  | (apply w_skip; exact rfl)
  | (apply w_pickT; exact rfl; exact rfl; exact rfl)
  | (apply w_pickF; exact rfl; exact rfl; exact rfl)
  | (apply w_len; exact rfl; exact rfl; first | exact .ints _ | exact .intss _ | exact .sli rfl | exact .sls rfl | exact .slr rfl | exact .orow rfl | exact .nil)
  | (apply w_call (inRange_c _ _ _); exact rfl; exact rfl; focus ((repeat (first | exact im_nil | refine im_cons rfl (.val _) ?_ | refine im_cons rfl (.ints _) ?_ | refine im_cons rfl (.intss _) ?_ | refine im_cons rfl (.sli rfl) ?_ | refine im_cons rfl (.sls rfl) ?_ | refine im_cons rfl (.orow rfl) ?_ | refine im_cons rfl (.osub rfl (by simp; omega)) ?_ | refine im_cons rfl (.nil) ?_ | refine im_cons rfl (.nils) ?_ | refine im_cons rfl (im_agg2 (.val _) (.ints _)) ?_ | refine im_cons rfl (im_agg2 (.val _) (.sli rfl)) ?_ | refine im_cons rfl (im_agg2 (.val _) (.nil)) ?_ | refine im_cons rfl (im_agg2 (.ints _) (.intss _)) ?_ | refine im_cons rfl (im_agg2 (.ints _) (.sls rfl)) ?_ | refine im_cons rfl (im_agg2 (.sli rfl) (.intss _)) ?_ | refine im_cons rfl (im_agg2 (.sli rfl) (.sls rfl)) ?_ | refine im_cons rfl (im_agg1 (.ints _)) ?_ | refine im_cons rfl (im_agg1 (.sli rfl)) ?_ | refine im_cons rfl (im_agg1 (.intss _)) ?_ | refine im_cons rfl (im_agg1 (.sls rfl)) ?_ | refine im_cons rfl (im_agg1 (.nil)) ?_ | refine im_cons rfl (im_agg1 (.nils)) ?_)); done))
  | ((first | apply w_lss | apply w_leq | apply w_gtr | apply w_geq | apply w_eql | apply w_neq | apply w_add | apply w_sub | apply w_mul | apply w_idx | apply w_ld | apply w_fld | apply w_fa | apply w_extv | apply w_min | apply w_max | apply w_slhi | apply w_sllo | apply w_bs2); iterate 3 exact rfl)
  | ((first | apply w_eqlb | apply w_neqb | apply w_idxs | apply w_lds | apply w_ext); iterate 3 exact rfl)
  | (apply w_rem; exact rfl; exact rfl; exact rfl; (focus (omega; done)); (focus (omega; done)))
  | (apply w_quo; exact rfl; exact rfl; exact rfl; (focus (omega; done)); (focus (omega; done)))
  | (apply w_remT; exact rfl; exact rfl; exact rfl)
  | (apply w_quoT; exact rfl; exact rfl; exact rfl)
  | ((first | apply w_not | apply w_neg | apply w_conv | apply w_build0 | apply w_bs1 | apply w_boxa); iterate 2 exact rfl)
  | (apply w_idxo; exact rfl; exact rfl; (first | exact .sli rfl | exact .sls rfl | exact .slr rfl); exact rfl)
  | ((first | apply w_idxr | apply w_ldr); iterate 4 exact rfl)
  | (apply w_ldo; iterate 4 exact rfl)
  | (apply w_ldls; iterate 4 exact rfl)
  | (apply w_ldrp; iterate 4 exact rfl)
  | (apply w_ldb; iterate 5 exact rfl)
  | (apply w_ldst; iterate 5 exact rfl)
  | ((first | apply w_sllh | apply w_stbi); iterate 4 exact rfl)
  | ((first | apply w_oslo | apply w_oshi | apply w_stbii); iterate 4 exact rfl)
  | (apply w_copy; exact rfl; (first | exact .own rfl rfl rfl | exact .osub); exact rfl; rotate_left 1; exact rfl; (first | exact .ints _ | exact .sli rfl | exact .orow rfl | exact .nil | exact .osub rfl (by simp; omega)))
  | (apply w_build1; exact rfl; exact rfl; (first | exact one_val rfl rfl | exact one_ints | exact one_intss | exact one_own rfl True.intro))
  | (apply w_build2; exact rfl; exact rfl; exact rfl; (first | exact one_val rfl rfl | exact one_ints | exact one_intss | exact one_own rfl True.intro); (first | exact one_val rfl rfl | exact one_ints | exact one_intss | exact one_own rfl True.intro))
  | (apply w_bs0; iterate 1 exact rfl)
  | (apply w_appn; exact rfl; exact rfl; (first | exact .ints _ | exact .sli rfl | exact .orow rfl | exact .nil | exact .osub rfl (by simp; omega)); exact rfl)
  | (apply w_app; exact rfl; exact rfl; exact rfl; exact rfl; (first | exact .ints _ | exact .sli rfl | exact .orow rfl | exact .nil | exact .osub rfl (by simp; omega)); rotate_left 1; simp only [Env.mp, List.map_cons, List.map_nil, List.set_cons_zero, List.set_cons_succ, AV.kill, AV.kill1, AO.kill, AV.noRow, AV.noRow1, AO.via, reduceIte, Nat.reduceEqDiff, Nat.reduceLT, Env.up, Nat.zero_ne_one, Nat.one_ne_zero, Nat.reduceAdd, List.cons_append, List.nil_append]; rotate_left 1)
  | (apply w_alst; iterate 2 exact rfl)
  | (apply w_alone; iterate 3 exact rfl)
  | (apply w_mki; exact rfl; exact rfl; rotate_left 3; exact rfl; rotate_left 1)
  | (apply w_mkr; exact rfl; exact rfl; rotate_left 3; exact rfl; rotate_left 1)
  | (apply w_strow; exact rfl; exact rfl; rotate_left 1; exact rfl; exact rfl; exact rfl; exact rfl; simp only [Env.mp, List.map_cons, List.map_nil, List.set_cons_zero, List.set_cons_succ, AV.kill, AV.kill1, AO.kill, AV.noRow, AV.noRow1, AO.via, reduceIte, Nat.reduceEqDiff, Nat.reduceLT, Env.up, Nat.zero_ne_one, Nat.one_ne_zero, Nat.reduceAdd, List.cons_append, List.nil_append]; rotate_left 1)
  | (apply w_sti; exact rfl; exact rfl; rotate_left 1; exact rfl; rotate_left 2)
  | (apply w_stst; iterate 5 exact rfl)
  | (apply w_stbv; iterate 6 exact rfl)
  | (apply w_stbo; exact rfl; exact rfl; exact rfl; exact rfl; exact rfl; exact True.intro)
  | ((apply AOps.splitB; exact rfl; exact rfl) <;> intro h)
  | apply AllOf.nil
  | (apply AllOf.cons; exact rfl)
  | (apply AAny.take; exact rfl; exact rfl; kernel_rfl; kernel_rfl)
  | (apply AAny.all; exact rfl)
  | (apply AAny.done; exact rfl)
  | (apply inI_of <;> omega)
  | omega
  | (simp <;> omega))
  · exact .bool Try.results44 rfl (withinL_false xs a b i h0 (by omega) h).symm
  · exact ⟨i + 1, ⟨by omega, by omega, by rw [withinL_snoc xs a b i h0 (by omega)]; simp [*]⟩, by omega, ⟨lee rfl (by (repeat (first | exact le_nil | refine le_eq rfl rfl ?_ | refine le_eq rfl (congrArg AV.i (by omega)) ?_))), by (repeat (first | exact lo_nil | refine lo_dead ?_ | refine lo_eq rfl ?_)), rfl, rfl⟩⟩
  · rw [List.take_of_length_le (by omega)] at h2
    exact .bool Try.results44 rfl h2.symm
end Go.Proofs.Ytkcbihmpjkkccaa
/-
  Contracts of the laws' own helpers over lists of integers. No condition.
-/
namespace Go.Proofs.Ytkcbihmpjkkccaa
open Go Go.RowKit
attribute [local irreducible] AWp AOps ResIs Ret1 QOp LOp COp AFnV AFn Imms LeE LeO
set_option maxHeartbeats 1000000
set_option linter.unusedSimpArgs false
set_option linter.unusedVariables false

/-- The new slice of integers that a function hands back alone. -/
def IsInts (e : TypeId) (xs : List Int) (r : AV) (os : List AO) : Prop := r = .own 0 ∧ os = [.sli e xs]

end Go.Proofs.Ytkcbihmpjkkccaa
/-
  Contracts of the laws' own helpers over lists of lists. No condition but a bound on the sizes.
-/
namespace Go.Proofs.Ytkcbihmpjkkccaa
open Go Go.RowKit
attribute [local irreducible] AWp AOps ResIs Ret1 QOp LOp COp AFnV AFn Imms LeE LeO
set_option maxHeartbeats 1000000
set_option linter.unusedSimpArgs false
set_option linter.unusedVariables false

/-- The new slice of rows that a function hands back alone. -/
def IsIntss (e e2 : TypeId) (xss : List (List Int)) (r : AV) (os : List AO) : Prop := r = .own 0 ∧ os = [.sls e e2 xss]

end Go.Proofs.Ytkcbihmpjkkccaa
/-
  Functions that are handed a pointer to one object and things that are only read beside it; closures with such a pointer and a row. No condition.
-/
namespace Go.Proofs.Ytkcbihmpjkkccaa
open Go Go.RowKit
set_option linter.unusedVariables false

def pinOb (q : Ob) (B : Nat) (V : Value) : Ob where
  p base w g := q.p base w g ∧ g.b = B ∧ g.v = V
  up hb h := ⟨q.up hb h.1, h.2⟩
  lower hl h := ⟨q.lower hl h.1, h.2⟩
  one h := q.one h.1

/-- The object's place and its pointer are known. -/
def Pinned (q : Ob) (B : Nat) (V : Value) : Prop := ∀ base w g, q.p base w g → g.b = B ∧ g.v = V
theorem pinned1 {q : Ob} {B : Nat} {V : Value} : Pinned (pinOb q B V) B V := fun _ _ _ h => h.2
theorem pinned2 {q : Ob} {B B' : Nat} {V V' : Value} (h : Pinned q B V) : Pinned (pinOb q B' V') B V := fun _ _ _ h1 => h _ _ _ h1.1
/-- The function turns the object q that it is handed into q', and hands back v. -/
def AFnO (P : Program) (f : FuncId) (args : List AV) (q q' : Ob) (v : Value) : Prop :=
  HasBody P f ∧ ∀ base w g vs, base ≤ w.heap.size → q.p base w g → (∀ b, b ∈ g.bl → base ≤ b ∧ b < w.heap.size) → vs.size = args.length → (∀ i : Nat, RV w (okOf [g] [.ob q]) [g] (vs.getD i undef) (args.getD i .any)) →
    Calls P f vs w fun e w' => ∃ g' : Gh, e = .returned v ∧ g'.v = g.v ∧ g'.b = g.b ∧ q'.p base w' g' ∧ (∀ b, b ∈ g'.bl → (b ∈ g.bl ∨ w.heap.size ≤ b) ∧ b < w'.heap.size) ∧ Below base w w' ∧ ∀ b, b < w.heap.size → b ∉ g.bl → w'.heap[b]? = w.heap[b]?
theorem okOf_ob {g : Gh} {q q2 : Ob} : okOf [g] [.ob q] = okOf [g] [.ob q2] := by
  have key : ∀ {q q2 : Ob} {b : Nat}, okOf [g] [.ob q] b → okOf [g] [.ob q2] b := by
    intro q q2 b h i x y hx hy _
    match i with
    | 0 => exact h 0 x (.ob q) hx rfl trivial
    | i + 1 => simp at hx
  funext b
  exact propext ⟨key, key⟩
theorem AFnO.pin {P : Program} {f : FuncId} {args : List AV} {q q' : Ob} {v : Value} (h : AFnO P f args q q' v) (B : Nat) (V : Value) : AFnO P f args (pinOb q B V) (pinOb q' B V) v := by
  refine ⟨h.1, fun base w g vs hb hq hn hs hv => ?_⟩
  refine (h.2 base w g vs hb hq.1 hn hs fun i => ?_).mono ?_
  · rw [okOf_ob (q2 := pinOb q B V)]; exact hv i
  · rintro e w' ⟨g', h1, h2, h3, h4, h5⟩
    exact ⟨g', h1, h2, h3, ⟨h4, by rw [h3]; exact hq.2.1, by rw [h2]; exact hq.2.2⟩, h5⟩
theorem AFnO.drop {P : Program} {f : FuncId} {args : List AV} {q q' : Ob} {v : Value} {B : Nat} {V : Value} (h : AFnO P f args q (pinOb q' B V) v) : AFnO P f args q q' v := by
  refine ⟨h.1, fun base w g vs hb hq hn hs hv => (h.2 base w g vs hb hq hn hs hv).mono ?_⟩
  rintro e w' ⟨g', h1, h2, h3, h4, h5⟩
  exact ⟨g', h1, h2, h3, h4.1, h5⟩
theorem AFnO.ofP {P : Program} {f : FuncId} {as0 : List Value} {T e e2 : TypeId} {L L' : List (List Int)} {v : Value} (h : AFnP P f as0 T e e2 L L' v) : AFnO P f (.optr 0 0 :: as0.map AV.val) (cntOb T e e2 L) (cntOb T e e2 L') v := by
  refine ⟨h.1, fun base w g vs hb hq hn hs hv => ?_⟩
  have e0 : vs = (g.v :: as0).toArray := by
    have hq' := hq
    obtain ⟨p, _, _, a3, _⟩ := hq'
    apply Array.ext
    · simpa using hs
    · intro i h1 h2
      have := hv i
      rw [Array.getD_eq_getD_getElem?, Array.getElem?_eq_getElem h1] at this
      simp only [Option.getD_some] at this
      generalize hx : vs[i] = x at this
      match i, h1, h2, hx, this with
      | 0, h1, h2, hx, this =>
        simp only [List.getD_cons_zero] at this
        cases this with
        | optr hg => simp at hg; subst hg; simp [a3]
      | i + 1, h1, h2, hx, this =>
        have hl : i < as0.length := by simpa using h2
        rw [List.getD_cons_succ, List.getD_eq_getElem?_getD, List.getElem?_map, List.getElem?_eq_getElem hl] at this
        simp only [Option.map_some, Option.getD_some] at this
        cases this
        simp
  rw [e0]
  exact h.2 base w g hb hq hn

theorem AFnO.of {P : Program} {f : FuncId} {fn : Func} {c : Code} {args args' : List AV} {q q' : Ob} {v : Value} {n : Nat} (hf : P.funcs[f]? = some fn) (hb : fn.body = some c) (hnm : (fn.name == "runtime.NumGoroutine") = false) (hn : fn.ntmps - args.length = n) (ha : args' = args.map (AV.sh 1))
    (h : ∀ K B V, AWp P c (fun env (os : List AO) => ∃ k : Nat, ResIs P fn env os (.val v) ∧ os[k]? = some (.ob (pinOb q' B V)) ∧ os[0]? = some (.keep 1 K)) (fun _ _ _ => False) (fun env (os : List AO) => ∃ k : Nat, ResIs P fn env os (.val v) ∧ os[k]? = some (.ob (pinOb q' B V)) ∧ os[0]? = some (.keep 1 K)) (Env.start args' n) [.keep 1 K, .ob (pinOb q B V)]) :
    AFnO P f args q q' v := by
  refine ⟨⟨fn, c, hf, hnm, hb⟩, fun base w g vs hbase hq hn0 hsz hvs => calls_of_wp hf hb ?_⟩
  rw [show fn.ntmps - vs.size = n by rw [hsz]; exact hn]
  have h := fun K => h K g.b g.v
  let bl : List Nat := (List.range w.heap.size).filter fun b => decide (base ≤ b) && !g.bl.contains b
  let gk : Gh := ⟨undef, 0, bl, []⟩
  let K : Kp := ⟨fun b => w.heap[b]?, [gk]⟩
  let oo : AO := .ob (pinOb q g.b g.v)
  have hbl : ∀ b, b ∈ bl ↔ b < w.heap.size ∧ base ≤ b ∧ b ∉ g.bl := by
    intro b
    simp only [bl, List.mem_filter, List.mem_range, Bool.and_eq_true, decide_eq_true_eq, Bool.not_eq_true', List.contains_eq_mem, decide_eq_false_iff_not]
  have gg : ∀ {i : Nat} {x : Gh}, [gk, g][i]? = some x → (i = 0 ∧ x = gk) ∨ (i = 1 ∧ x = g) := by
    intro i x hx
    match i with
    | 0 => simp at hx; exact .inl ⟨rfl, hx.symm⟩
    | 1 => simp at hx; exact .inr ⟨rfl, hx.symm⟩
    | i + 2 => simp at hx
  have go : ∀ {i : Nat} {x : AO}, [AO.keep 1 K, oo][i]? = some x → (i = 0 ∧ x = .keep 1 K) ∨ (i = 1 ∧ x = oo) := by
    intro i x hx
    match i with
    | 0 => simp at hx; exact .inl ⟨rfl, hx.symm⟩
    | 1 => simp at hx; exact .inr ⟨rfl, hx.symm⟩
    | i + 2 => simp at hx
  have hkeep : Keeps (okOf [g] [.ob q]) (okOf [gk, g] [.keep 1 K, oo]) w w := by
    intro b hbk _
    refine ⟨fun i x y hx hy hny hm => ?_, rfl⟩
    rcases gg hx with ⟨rfl, rfl⟩ | ⟨rfl, rfl⟩
    · rcases go hy with ⟨_, rfl⟩ | ⟨h0, _⟩
      · exact hny.elim
      · omega
    · rcases go hy with ⟨h0, _⟩ | ⟨_, rfl⟩
      · omega
      · exact hbk 0 _ _ rfl rfl trivial hm
  have hrel : Rel base w [gk, g] (Env.start args' n) [.keep 1 K, oo] (vs ++ Array.replicate n undef) := by
    refine ⟨hbase, rfl, by simp [Env.start, hsz, ha], fun i => start_rv args' n vs (fun i => ?_) i, ?_, ?_, ?_⟩
    · rw [ha, getD_map_any _ rfl]
      have := (hvs i).sh (gs0 := [gk]) hkeep
      exact this
    · intro i x y hx hy
      rcases gg hx with ⟨rfl, rfl⟩ | ⟨rfl, rfl⟩
      · rcases go hy with ⟨_, rfl⟩ | ⟨h0, _⟩
        · exact ⟨fun b _ => rfl, rfl, fun i x h => by
            match i with
            | 0 => exact h
            | i + 1 => simp [K] at h⟩
        · omega
      · rcases go hy with ⟨h0, _⟩ | ⟨_, rfl⟩
        · omega
        · exact ⟨hq, rfl, rfl⟩
    · intro i j g1 g2 o1 o2 hij hg1 hg2 ho1 ho2 _ _ b hb1 hb2
      rcases gg hg1 with ⟨rfl, rfl⟩ | ⟨rfl, rfl⟩
      · rcases gg hg2 with ⟨rfl, rfl⟩ | ⟨rfl, rfl⟩
        · exact hij rfl
        · exact ((hbl b).1 hb1).2.2 hb2
      · rcases gg hg2 with ⟨rfl, rfl⟩ | ⟨rfl, rfl⟩
        · exact ((hbl b).1 hb2).2.2 hb1
        · exact hij rfl
    · intro i x y hx hy _ b hb
      rcases gg hx with ⟨rfl, rfl⟩ | ⟨rfl, rfl⟩
      · exact ⟨((hbl b).1 hb).2.1, ((hbl b).1 hb).1⟩
      · exact hn0 b hb
  have fin : ∀ {env : Env} {os1 : List AO} {gs2 : List Gh} {a : Act} {w' : World}, Rel base w' gs2 env os1 a.tmps → Below base w w' → (∃ k : Nat, ResIs P fn env os1 (.val v) ∧ os1[k]? = some (AO.ob (pinOb q' g.b g.v)) ∧ os1[0]? = some (.keep 1 K)) →
      ∃ u, (results fn a.tmps).run P w' = .ok u w' ∧ ∃ g' : Gh, Exit.ret = Exit.ret ∧ u = v ∧ g'.v = g.v ∧ g'.b = g.b ∧ q'.p base w' g' ∧ (∀ b, b ∈ g'.bl → (b ∈ g.bl ∨ w.heap.size ≤ b) ∧ b < w'.heap.size) ∧ Below base w w' ∧ ∀ b, b < w.heap.size → b ∉ g.bl → w'.heap[b]? = w.heap[b]? := by
    intro env os1 gs2 a w' hr hbel ⟨k, hres, hok, hkp⟩
    obtain ⟨u, hu, hv⟩ := hres _ _ _ _ hr
    cases hv
    have hltk : k < gs2.length := by rw [hr.hl]; exact (List.getElem?_eq_some_iff.1 hok).1
    obtain ⟨g', hg'⟩ : ∃ g', gs2[k]? = some g' := ⟨_, List.getElem?_eq_getElem hltk⟩
    have hlt0 : 0 < gs2.length := by rw [hr.hl]; exact (List.getElem?_eq_some_iff.1 hkp).1
    obtain ⟨g0, hg0⟩ : ∃ g0, gs2[0]? = some g0 := ⟨_, List.getElem?_eq_getElem hlt0⟩
    obtain ⟨r1, r2, r3⟩ := hr.ho _ _ _ hg0 hkp
    have egk : g0 = gk := by
      have := r3 0 gk rfl
      rw [hg0] at this
      exact Option.some.inj this
    subst egk
    have hk0 : k ≠ 0 := fun e => by subst e; rw [hkp] at hok; cases hok
    obtain ⟨hro1, hro2, hro3⟩ := hr.ho _ _ _ hg' hok
    refine ⟨v, hu, g', rfl, rfl, hro3, hro2, hro1, fun b hb => ?_, hbel, fun b hb hnot => ?_⟩
    · have hbn := hr.hn _ _ _ hg' hok (by simp) b hb
      refine ⟨?_, hbn.2⟩
      by_cases hbw : b < w.heap.size
      · left
        apply Classical.byContradiction
        intro hnb
        exact hr.hd k 0 g' _ _ _ hk0 hg' hg0 hok hkp (by simp) (by simp) b hb ((hbl b).2 ⟨hbw, hbn.1, hnb⟩)
      · right; omega
    · rcases Nat.lt_or_ge b base with h6 | h6
      · exact hbel.block b h6
      · exact r1 b ((hbl b).2 ⟨hb, h6, hnot⟩)
  refine wp_mono (h K base w w _ _ hrel (Below.refl _ _)) ?_
  intro e a w' hq
  cases e with
  | normal =>
    obtain ⟨env, os1, gs1, hr, hd, hbel, hx⟩ := hq
    obtain ⟨u, hu, g', _, rfl, r⟩ := fin hr hbel hx
    exact ⟨hd, _, hu, g', rfl, r⟩
  | exit j => obtain ⟨_, _, _, _, _, _, hx⟩ := hq; exact hx.elim
  | ret =>
    obtain ⟨env, os1, gs1, hr, hd, hbel, hx⟩ := hq
    obtain ⟨u, hu, g', _, rfl, r⟩ := fin hr hbel hx
    exact ⟨hd, _, hu, g', rfl, r⟩
  | goto l => exact (hq : False).elim
  | panic ch => exact (hq : False).elim
  | outgrown => exact (hq : False).elim
theorem AFnO.start {P : Program} {f : FuncId} {fn : Func} {nt : Nat} {args : List AV} {q q' : Ob} {v : Value} (hf : P.funcs[f]? = some fn) (hnt : fn.ntmps = nt) {c : Code} (hb : fn.body = some c) (hnm : (fn.name == "runtime.NumGoroutine") = false)
    (h : ∀ K B V, AWp P c (fun env (os : List AO) => ∃ k : Nat, ResIs P fn env os (.val v) ∧ os[k]? = some (.ob (pinOb q' B V)) ∧ os[0]? = some (.keep 1 K)) (fun _ _ _ => False) (fun env (os : List AO) => ∃ k : Nat, ResIs P fn env os (.val v) ∧ os[k]? = some (.ob (pinOb q' B V)) ∧ os[0]? = some (.keep 1 K)) (Env.start (args.map (AV.sh 1)) (nt - args.length)) [.keep 1 K, .ob (pinOb q B V)]) :
    AFnO P f args q q' v := AFnO.of hf hb hnm (by rw [hnt]) rfl h

/-! ### Calls -/
def ImmO (os : List AO) (h : Nat) (a a' : AV) : Prop := (∃ i, a = .optr h i ∧ a' = .optr 0 i) ∨ ImmU os [h] a a'
def ImmOs (os : List AO) (h : Nat) : List AV → List AV → Prop
  | [], [] => True
  | a :: as0, b :: bs => ImmO os h a b ∧ ImmOs os h as0 bs
  | _, _ => False
theorem ImmOs.get {os : List AO} {h : Nat} : ∀ {l l' : List AV}, ImmOs os h l l' → l.length = l'.length ∧ ∀ i : Nat, ImmO os h (l.getD i .any) (l'.getD i .any)
  | [], [], _ => ⟨rfl, fun _ => .inr (.any _)⟩
  | a :: l, b :: l', hh => by
    obtain ⟨h1, h2⟩ := hh
    have ih := ImmOs.get h2
    refine ⟨by simp [ih.1], fun i => ?_⟩
    match i with
    | 0 => exact h1
    | i + 1 => exact ih.2 i
  | [], _ :: _, hh => hh.elim
  | _ :: _, [], hh => hh.elim

section
variable {P : Program} {env : Env} {os : List AO} {d : Option Tmp} {ty : TypeId} {pos : String} {af : Array Edge} {g : Option (Nat × Bool)}
/-- What a call of such a function leaves. -/
theorem AFnO.leaves {f : FuncId} {args : List AV} {q q' : Ob} {v : Value} (e2 : TypeId) (hc : AFnO P f args q q' v) {h : Nat} (hs : os[h]? = some (.ob q)) {base : Nat} {w : World} {gs : List Gh} {tm : Array Value} (hr : Rel base w gs env os tm) {gh : Gh} (hgh : gs[h]? = some gh) {vs : Array Value} (hsz : vs.size = args.length) (hvs : ∀ i : Nat, RV w (okOf [gh] [.ob q]) [gh] (vs.getD i undef) (args.getD i .any)) :
    Calls P f vs w fun e w' => ∃ v' r env' os' gs', e = .returned v' ∧ (r = .val v ∧ env' = env.mp (AV.noRow h) ∧ os' = (((os ++ [AO.sli e2 []]).map (AO.via (AV.noRow h) h)).set h (.ob q')).set os.length .dead) ∧ Rel base w' gs' env' os' tm ∧ RV w' (okOf gs' os') gs' v' r ∧ Below base w w' := by
  have hlt : h < os.length := (List.getElem?_eq_some_iff.1 hs).1
  have hgl : h < gs.length := by rw [hr.hl]; exact hlt
  have hq : q.p base w gh := hr.ho _ _ _ hgh hs
  refine (hc.2 base w gh vs hr.hb hq (hr.hn _ _ _ hgh hs (by simp)) hsz hvs).mono ?_
  rintro e w' ⟨g', rfl, hgv, hgb, hro, hbl, hbel, hfr⟩
  let gd : Gh := ⟨.slice none 0 0, 0, [], []⟩
  have hr1 : Rel base w (gs ++ [gd]) env (os ++ [.sli e2 []]) tm := hr.new (Below.refl _ _) (.sli e2 []) gd (fun _ b hb => by simp [gd] at hb) ⟨World.ownsRow_nil w base e2 1, fun x hx => by simp at hx, .inl ⟨rfl, rfl⟩⟩
  have hg1 : (gs ++ [gd])[h]? = some gh := by rw [List.getElem?_append_left hgl]; exact hgh
  have hs1 : (os ++ [AO.sli e2 []])[h]? = some (.ob q) := by rw [List.getElem?_append_left hlt]; exact hs
  have hgd : (gs ++ [gd])[os.length]? = some gd := by rw [← hr.hl]; simp
  have hod : (os ++ [AO.sli e2 []])[os.length]? = some (.sli e2 []) := by simp
  have sv : SameV h (gs ++ [gd]) ((gs ++ [gd]).set h g') := by
    refine ⟨fun j z hj hz => ?_, fun z hz => ⟨g', by rw [List.getElem?_set_self (by rw [List.length_append]; omega)], ?_⟩⟩
    · rw [List.getElem?_set, if_neg (fun e => hj e.symm)]; exact hz
    · rw [hg1] at hz; cases hz; exact ⟨hgv, hgb⟩
  refine ⟨v, .val v, _, _, (gs ++ [gd]).set h g', rfl, ⟨rfl, rfl, rfl⟩, hr1.absorb hg1 hs1 trivial hgd hod trivial (by omega) g' _ (AV.noRow h) rfl hfr hbel.size ?_ (fun kp hv => hv.noRow kp sv) (fun _ => hro), .val _, hbel⟩
  intro b hb
  have := hbl b hb
  refine ⟨?_, this.2⟩
  rcases this.1 with h1 | h1
  · exact .inl h1
  · exact .inr (.inr h1)
theorem ImmO.rv {q : Ob} {h : Nat} (hs : os[h]? = some (.ob q)) {base : Nat} {w : World} {gs : List Gh} {tm : Array Value} (hr : Rel base w gs env os tm) {gh : Gh} (hgh : gs[h]? = some gh) {a a' : AV} (hi : ImmO os h a a') {v : Value} (hv : RV w (okOf gs os) gs v a) : RV w (okOf [gh] [.ob q]) [gh] v a' := by
  have hh : Handed os [h] [.ob q] := handed1 hs True.intro
  have esel : selG gs [h] = [gh] := by simp [selG, hgh]
  rcases hi with ⟨i, rfl, rfl⟩ | hi
  · cases hv with
    | optr hg => rw [hgh] at hg; cases hg; exact .optr rfl
  · have := hi.rv hr hh hv
    rw [esel] at this
    exact this
theorem c_callo {f : FuncId} {args : List AV} {q q' : Ob} {v : Value} (e2 : TypeId) (hc : AFnO P f args q q' v) {xs : List Operand} {ats : Array TypeId} {h : Nat} (hs : os[h]? = some (.ob q)) (hi : ImmOs os h (xs.map (AV.ev env)) args) :
    COp P ⟨d, .call { callee := .value (.func f), args := xs.toArray, argTypes := ats }, ty, pos, af, g⟩ env os (fun r e o => r = .val v ∧ e = env.mp (AV.noRow h) ∧ o = (((os ++ [AO.sli e2 []]).map (AO.via (AV.noRow h) h)).set h (.ob q')).set os.length .dead) := by
  intro base w gs tm hr
  have hg := hi.get
  have hgl : h < gs.length := by rw [hr.hl]; exact (List.getElem?_eq_some_iff.1 hs).1
  obtain ⟨gh, hgh⟩ : ∃ x, gs[h]? = some x := ⟨_, List.getElem?_eq_getElem hgl⟩
  refine ⟨f, _, run_call hc.1 xs ats _ rfl w, hc.leaves e2 hs hr hgh (by simpa using hg.1) fun i => ?_⟩
  have h1 := hg.2 i
  have e1 : (xs.map (AV.ev env)).getD i .any = match xs[i]? with | some x => AV.ev env x | none => .any := by
    simp only [List.getD_eq_getElem?_getD, List.getElem?_map]; cases xs[i]? <;> rfl
  have e2 : (xs.map (Act.eval ⟨tm, []⟩)).toArray.getD i undef = match xs[i]? with | some x => Act.eval ⟨tm, []⟩ x | none => undef := by
    simp only [Array.getD_eq_getD_getElem?, List.getElem?_toArray, List.getElem?_map]; cases xs[i]? <;> rfl
  rw [e1] at h1
  rw [e2]
  cases hx : xs[i]? with
  | some x => rw [hx] at h1; exact h1.rv hs hr hgh (hr.ev x)
  | none => rw [hx] at h1; exact h1.rv hs hr hgh (.any _)

theorem cnt_ptr {T e e2 : TypeId} {L : List (List Int)} (base : Nat) (w : World) (g : Gh) (h : (cntOb T e e2 L).p base w g) : g.v = .pointer (some ⟨g.b, 0, none⟩) := by
  obtain ⟨p, _, _, a3, _⟩ := h
  exact a3

/-! ### A closure that holds a pointer to the object and the place of a row -/
def cloRo (f0 : FuncId) (V : Value) (xs : List Int) : Ro where
  p w ok v := ∃ u, v = .func (.func f0) #[] #[V, eptr u 0] ∧ IntssAt w ok u [xs]
  up k h := by
    obtain ⟨u, h1, h2⟩ := h
    exact ⟨u, h1, h2.mono k⟩
theorem run_callk {f : FuncId} (hb : HasBody P f) (x : Operand) (xs : List Operand) (ats : Array TypeId) (ρ : Operand → Value) (caps : Array Value) (hρ : ρ x = .func (.func f) #[] caps) (w : World) :
    (execOp ρ ⟨d, .call { callee := .value x, args := xs.toArray, argTypes := ats }, ty, pos, af, g⟩).run P w = .ok (.enter f ((xs.map ρ).toArray ++ caps)) w := by
  have := hb.run ((xs.map ρ).toArray ++ caps) w
  simp only [execOp, resolve, hρ, Deferred.ofValue, Sem.run_bind, Sem.run_pure, Result.andThen_ok, invoke, List.map_toArray]
  simpa using this
theorem c_callk {f : FuncId} {args : List AV} {q q' : Ob} {v : Value} (e2 : TypeId) {B : Nat} {V : Value} {rx : List Int} (hV : V = .pointer (some ⟨B, 0, none⟩)) (hp : Pinned q B V) (hc : AFnO P f (args ++ [.optr 0 0, .iiptr [rx] 0]) q q' v) {x : Operand} {xs : List Operand} {ats : Array TypeId} {h : Nat} (hx : AV.ev env x = .ro (cloRo f V rx)) (hs : os[h]? = some (.ob q)) (hi : ImmOs os h (xs.map (AV.ev env)) args) :
    COp P ⟨d, .call { callee := .value x, args := xs.toArray, argTypes := ats }, ty, pos, af, g⟩ env os (fun r e o => r = .val v ∧ e = env.mp (AV.noRow h) ∧ o = (((os ++ [AO.sli e2 []]).map (AO.via (AV.noRow h) h)).set h (.ob q')).set os.length .dead) := by
  intro base w gs tm hr
  have hg := hi.get
  have hgl : h < gs.length := by rw [hr.hl]; exact (List.getElem?_eq_some_iff.1 hs).1
  obtain ⟨gh, hgh⟩ : ∃ x, gs[h]? = some x := ⟨_, List.getElem?_eq_getElem hgl⟩
  have hq := hp base w gh (hr.ho _ _ _ hgh hs)
  have hxv := hr.ev x
  rw [hx] at hxv
  generalize hu : Act.eval ⟨tm, []⟩ x = u at hxv
  cases hxv with
  | ro hcl =>
  obtain ⟨u1, rfl, hu1⟩ := hcl
  have kp : Keeps (okOf gs os) (okOf [gh] [.ob q]) w w := by
    intro b hb _
    refine ⟨fun i y z hy hz hl hm => ?_, rfl⟩
    match i, hy, hz with
    | 0, hy, hz => simp at hy hz; subst hy; exact hb h _ _ hgh hs trivial hm
    | i + 1, hy, hz => simp at hy
  refine ⟨f, _, run_callk hc.1 x xs ats _ _ hu w, hc.leaves e2 hs hr hgh (by have := hg.1; simp at this ⊢; exact this) fun i => ?_⟩
  have hlen : xs.length = args.length := by simpa using hg.1
  rcases Nat.lt_or_ge i xs.length with hil | hil
  · have h1 := hg.2 i
    have e1 : (xs.map (AV.ev env)).getD i .any = AV.ev env xs[i] := by
      simp [List.getD_eq_getElem?_getD, hil]
    have e2 : ((xs.map (Act.eval ⟨tm, []⟩)).toArray ++ #[V, eptr u1 0]).getD i undef = Act.eval ⟨tm, []⟩ xs[i] := by
      rw [Array.getD_eq_getD_getElem?, Array.getElem?_append_left (by simpa using hil)]
      simp [hil]
    have e3 : (args ++ [AV.optr 0 0, .iiptr [rx] 0]).getD i .any = args.getD i .any := by
      simp only [List.getD_eq_getElem?_getD]
      rw [List.getElem?_append_left (by omega)]
    rw [e1] at h1
    rw [e2, e3]
    exact h1.rv hs hr hgh (hr.ev _)
  · have e2 : ((xs.map (Act.eval ⟨tm, []⟩)).toArray ++ #[V, eptr u1 0]).getD i undef = (#[V, eptr u1 0] : Array Value).getD (i - xs.length) undef := by
      simp only [Array.getD_eq_getD_getElem?, Array.getElem?_append]
      rw [if_neg (by simp; omega)]
      simp
    have e3 : (args ++ [AV.optr 0 0, .iiptr [rx] 0]).getD i .any = [AV.optr 0 0, .iiptr [rx] 0].getD (i - xs.length) .any := by
      simp only [List.getD_eq_getElem?_getD]
      rw [List.getElem?_append_right (by omega), hlen]
    rw [e2, e3]
    match i - xs.length with
    | 0 =>
      have : RV w (okOf [gh] [.ob q]) [gh] (.pointer (some ⟨gh.b, 0, none⟩)) (.optr 0 0) := .optr rfl
      rw [hq.1, ← hV] at this
      exact this
    | 1 => exact .iiptr (hu1.mono kp) (by omega) (by simp)
    | i + 2 => exact .any _
/-- The closure is made. -/
theorem q_makef {f : FuncId} {x y : Operand} {h : Nat} {q : Ob} {B : Nat} {V : Value} {rx : List Int} (hV : V = .pointer (some ⟨B, 0, none⟩)) (hp : Pinned q B V) (hx : AV.ev env x = .optr h 0) (hs : os[h]? = some (.ob q)) (hy : AV.ev env y = .iiptr [rx] 0) {wl : Bool} :
    QOp P wl ⟨d, .makeFunc (.func f) #[] #[x, y], ty, pos, af, g⟩ env os (.ro (cloRo f V rx)) :=
  .of_run fun base w gs tm hr => by
    have h1 := hr.ev x
    have h2 := hr.ev y
    rw [hx] at h1
    rw [hy] at h2
    generalize hv1 : Act.eval ⟨tm, []⟩ x = v1 at h1
    generalize hv2 : Act.eval ⟨tm, []⟩ y = v2 at h2
    cases h1 with
    | optr hg =>
    cases h2 with
    | iiptr h3 h4 h5 =>
    obtain ⟨hb, _⟩ := hp _ _ _ (hr.ho _ _ _ hg hs)
    refine ⟨.func (.func f) #[] #[V, eptr _ 0], .ro ⟨_, rfl, h3⟩, fun w' _ => ?_⟩
    simp [execOp, Instr.makeFunc, hv1, hv2, hV, hb]
end
section
variable {P : Program} {env : Env} {os : List AO} {l rest : List Oper} {K : APost}
/-- A box with a row that is only read, from now on. -/
theorem AOps.freeze (k b : Nat) {T : TypeId} {rx : List Int} (hk : env.fd k = some (.optr b 0)) (hs : os[b]? = some (.bx T [.ints rx])) (h : AOps P .seq l rest K (env.up k (.iiptr [rx] 0)) (os.set b .dead)) : AOps P .seq l rest K env os := by
  intro base w0 w gs tm hr hb X Rt
  refine h base w0 w gs tm ?_ hb X Rt
  have hgl : b < gs.length := by rw [hr.hl]; exact (List.getElem?_eq_some_iff.1 hs).1
  obtain ⟨gb, hg⟩ : ∃ x, gs[b]? = some x := ⟨_, List.getElem?_eq_getElem hgl⟩
  obtain ⟨cs, c1, c2, c3, c4, c5, c6, c7⟩ := hr.ho _ _ _ hg hs
  match cs, c5 with
  | [c0], _ =>
  have h0 := c7 0
  simp only [List.getD_cons_zero] at h0
  have hint : IntsAt w (okOf gs os) c0 rx := by
    cases h0 with
    | ints hh => exact hh
  have oget : ∀ {i : Nat} {y : AO}, (os.set b .dead)[i]? = some y → y ≠ .dead → i ≠ b ∧ os[i]? = some y := by
    intro i y hy hny
    rw [List.getElem?_set] at hy
    split at hy
    · split at hy
      · cases hy; exact absurd rfl hny
      · cases hy
    · rename_i hne; exact ⟨fun e => hne e.symm, hy⟩
  have kp : Keeps (okOf gs os) (okOf gs (os.set b .dead)) w w := by
    intro c hc _
    refine ⟨fun i x y hx hy hl hm => ?_, rfl⟩
    exact hc i x y hx (oget hy hl.ne).2 hl hm
  have hok : okOf gs (os.set b .dead) gb.b := by
    intro i x y hx hy hl hm
    obtain ⟨h1, h2⟩ := oget hy hl.ne
    exact hr.hd i b x gb y _ h1 hx hg h2 hs hl.ne (by simp) gb.b hm (by rw [c3]; simp)
  have hptr : RV w (okOf gs (os.set b .dead)) gs (.pointer (some ⟨gb.b, 0, none⟩)) (.iiptr [rx] 0) := by
    have hrow : IntssAt w (okOf gs (os.set b .dead)) (.slice (some ⟨gb.b, 0, none⟩) 1 1) [rx] := by
      refine ⟨[c0], ⟨some ⟨gb.b, 0, none⟩, 1, rfl, by simp, by decide, fun _ => ⟨gb.b, 0, rfl, hok, fun i u hu => ?_⟩⟩, rfl, fun i u hu => ?_⟩
      · match i with
        | 0 =>
          simp at hu
          subst hu
          simp [World.cell?, c1]
        | i + 1 => simp at hu
      · match i with
        | 0 => simp at hu; subst hu; exact hint.mono kp
        | i + 1 => simp at hu
    have := RV.iiptr (w := w) (ok := okOf gs (os.set b .dead)) (gs := gs) (i := 0) hrow (by omega) (by simp)
    simpa [eptr, Addr.add] using this
  have hbk : RV w (okOf gs os) gs (tm.getD k undef) (.optr b 0) := by
    have := hr.he k
    rw [Env.lk_of hk] at this
    exact this
  have hval : tm.getD k undef = .pointer (some ⟨gb.b, 0, none⟩) := by
    generalize tm.getD k undef = u at hbk
    cases hbk with
    | optr hg2 => rw [hg] at hg2; cases hg2; rfl
  refine ⟨hr.hb, by rw [List.length_set]; exact hr.hl, hr.hs, fun i => ?_, ?_, ?_, ?_⟩
  · rw [Env.lk_up]
    split
    · rename_i h1; rw [h1.1, hval]; exact hptr
    · exact (hr.he i).mono kp fun _ _ e => e
  · intro i x y hx hy
    by_cases hd : y = .dead
    · subst hd; trivial
    obtain ⟨h1, h2⟩ := oget hy hd
    exact (hr.ho i x y hx h2).mono kp (fun _ _ e => e) fun _ _ _ => rfl
  · intro i j x y o1 o2 hij hx hy ho1 ho2 hn1 hn2
    exact hr.hd i j x y o1 o2 hij hx hy (oget ho1 hn1).2 (oget ho2 hn2).2 hn1 hn2
  · intro i x y hx hy hny
    exact hr.hn i x y hx (oget hy hny).2 hny
/-- The object's place has a name, from now on. -/
theorem AOps.pin (h : Nat) {q : Ob} (hs : os[h]? = some (.ob q)) (hqv : ∀ base w g, q.p base w g → g.v = .pointer (some ⟨g.b, 0, none⟩)) (h' : ∀ B V, V = .pointer (some ⟨B, 0, none⟩) → AOps P .seq l rest K env (os.set h (.ob (pinOb q B V)))) : AOps P .seq l rest K env os := by
  intro base w0 w gs tm hr hb X Rt
  have hgl : h < gs.length := by rw [hr.hl]; exact (List.getElem?_eq_some_iff.1 hs).1
  obtain ⟨gh, hg⟩ : ∃ x, gs[h]? = some x := ⟨_, List.getElem?_eq_getElem hgl⟩
  refine h' gh.b gh.v (hqv _ _ _ (hr.ho _ _ _ hg hs)) base w0 w gs tm ?_ hb X Rt
  exact hr.upd hg hs trivial _ trivial (fun _ _ _ => rfl) (Nat.le_refl _) fun _ => ⟨hr.ho _ _ _ hg hs, rfl, rfl⟩
end
section
variable {P : Program} {env : Env} {os : List AO} {d : Tmp} {ty : TypeId} {pos : String} {af : Array Edge} {l rest : List Oper} {K : APost}
theorem w_callo {f : FuncId} {args : List AV} {q q' : Ob} {v : Value} {xs : List Operand} {ats : Array TypeId} (h : Nat) (e2 : TypeId) {m : Nat} (hc : AFnO P f args q q' v) (hs : os[h]? = some (.ob q)) (hm : os.length = m) (hi : ImmOs os h (xs.map (AV.ev env)) args)
    (h' : AOps P .seq l rest K ((env.mp (AV.noRow h)).up d (.val v)) ((((os ++ [AO.sli e2 []]).map (AO.via (AV.noRow h) h)).set h (.ob q')).set m .dead)) :
    AOps P .seq l (⟨some d, .call { callee := .value (.func f), args := xs.toArray, argTypes := ats }, ty, pos, af, none⟩ :: rest) K env os := by
  subst hm
  exact AOps.ca (c_callo e2 hc hs hi) fun r e o ⟨h1, h2, h3⟩ => by subst h1; subst h2; subst h3; exact h'
theorem w_callk {f : FuncId} {args : List AV} {q q' : Ob} {v : Value} {xs : List Operand} {ats : Array TypeId} (h : Nat) (e2 : TypeId) {m : Nat} {B : Nat} {V : Value} {rx : List Int} {x : Operand} (hV : V = .pointer (some ⟨B, 0, none⟩)) (hp : Pinned q B V) (hc : AFnO P f (args ++ [.optr 0 0, .iiptr [rx] 0]) q q' v) (hx : evo env x = some (.ro (cloRo f V rx))) (hs : os[h]? = some (.ob q)) (hm : os.length = m) (hi : ImmOs os h (xs.map (AV.ev env)) args)
    (h' : AOps P .seq l rest K ((env.mp (AV.noRow h)).up d (.val v)) ((((os ++ [AO.sli e2 []]).map (AO.via (AV.noRow h) h)).set h (.ob q')).set m .dead)) :
    AOps P .seq l (⟨some d, .call { callee := .value x, args := xs.toArray, argTypes := ats }, ty, pos, af, none⟩ :: rest) K env os := by
  subst hm
  exact AOps.ca (c_callk e2 hV hp hc (ev_of hx) hs hi) fun r e o ⟨h1, h2, h3⟩ => by subst h1; subst h2; subst h3; exact h'
theorem w_makef {f : FuncId} {x y : Operand} {h : Nat} {qo : Ob} {B : Nat} {V : Value} {rx : List Int} {q : Md} {g : Option (Nat × Bool)} (hV : V = .pointer (some ⟨B, 0, none⟩)) (hp : Pinned qo B V) (hw : wantedA l env ⟨some d, .makeFunc (.func f) #[] #[x, y], ty, pos, af, g⟩ = some true) (hx : evo env x = some (.optr h 0)) (hs : os[h]? = some (.ob qo)) (hy : evo env y = some (.iiptr [rx] 0))
    (h' : AOps P q l rest K (env.up d (.ro (cloRo f V rx))) os) : AOps P q l (⟨some d, .makeFunc (.func f) #[] #[x, y], ty, pos, af, g⟩ :: rest) K env os :=
  AOps.qo hw (q_makef hV hp (ev_of hx) hs (ev_of hy)) h'
theorem imo_nil {os : List AO} {h : Nat} : ImmOs os h [] [] := True.intro
theorem imo_ptr {os : List AO} {h i : Nat} {a : AV} {as0 bs : List AV} (ha : a = .optr h i) (h2 : ImmOs os h as0 bs) : ImmOs os h (a :: as0) (.optr 0 i :: bs) := ⟨.inl ⟨i, ha, rfl⟩, h2⟩
theorem imo_cons {os : List AO} {h : Nat} {a a1 b : AV} {as0 bs : List AV} (ha : a = a1) (h1 : ImmU os [h] a1 b) (h2 : ImmOs os h as0 bs) : ImmOs os h (a :: as0) (b :: bs) := ⟨.inr (ha ▸ h1), h2⟩
end
end Go.Proofs.Ytkcbihmpjkkccaa
/-
  Arithmetic that may wrap; lists that a function tabulates. No condition.
-/
namespace Go.Proofs.Ytkcbihmpjkkccaa
open Go Go.RowKit
set_option linter.unusedSimpArgs false

/-- The number that int64 holds in place of x. -/
def wr (x : Int) : Int := IntKind.i64.wrap x
theorem wr_eq (x : Int) : ∃ k : Int, wr x = x + 18446744073709551616 * k := by
  unfold wr
  rw [IntKind.wrap_i64]
  exact ⟨-((x + 9223372036854775808) / 18446744073709551616), by omega⟩
theorem wr_in (x : Int) : inI (wr x) := by
  unfold wr inI
  rw [IntKind.wrap_i64]
  omega
theorem wr_of {x : Int} (h : inI x) : wr x = x := by
  unfold inI at h
  unfold wr
  rw [IntKind.wrap_i64]
  omega
theorem wr_cong {x y k : Int} (h : x = y + 18446744073709551616 * k) : wr x = wr y := by
  unfold wr
  rw [IntKind.wrap_i64, IntKind.wrap_i64, h]
  omega
theorem wr_wr (x : Int) : wr (wr x) = wr x := wr_of (wr_in x)
theorem wr_add (x y : Int) : wr (wr x + wr y) = wr (x + y) := by
  obtain ⟨a, ha⟩ := wr_eq x
  obtain ⟨b, hb⟩ := wr_eq y
  exact wr_cong (k := a + b) (by rw [ha, hb]; omega)
theorem wr_sub (x y : Int) : wr (wr x - wr y) = wr (x - y) := by
  obtain ⟨a, ha⟩ := wr_eq x
  obtain ⟨b, hb⟩ := wr_eq y
  exact wr_cong (k := a - b) (by rw [ha, hb]; omega)
theorem wr_mul (x y : Int) : wr (wr x * wr y) = wr (x * y) := by
  obtain ⟨a, ha⟩ := wr_eq x
  obtain ⟨b, hb⟩ := wr_eq y
  refine wr_cong (k := x * b + a * y + 18446744073709551616 * (a * b)) ?_
  rw [ha, hb]
  grind

section
variable {P : Program} {wl : Bool} {env : Env} {os : List AO} {d : Option Tmp} {ty : TypeId} {pos : String} {af : Array Edge} {g : Option (Nat × Bool)}
variable {xt yt : TypeId} {x y : Operand} {a b : Int}
theorem q_addw (ha : AV.ev env x = .i a) (hb : AV.ev env y = .i b) : QOp P wl ⟨d, .binOp .add xt x y yt, ty, pos, af, g⟩ env os (.i (wr (a + b))) :=
  q_bin ha hb (by simp [go_sem]) fun w => by simp [go_sem, wr]
theorem q_subw (ha : AV.ev env x = .i a) (hb : AV.ev env y = .i b) : QOp P wl ⟨d, .binOp .sub xt x y yt, ty, pos, af, g⟩ env os (.i (wr (a - b))) :=
  q_bin ha hb (by simp [go_sem]) fun w => by simp [go_sem, wr]
theorem q_mulw (ha : AV.ev env x = .i a) (hb : AV.ev env y = .i b) : QOp P wl ⟨d, .binOp .mul xt x y yt, ty, pos, af, g⟩ env os (.i (wr (a * b))) :=
  q_bin ha hb (by simp [go_sem]) fun w => by simp [go_sem, wr]
end
section
variable {P : Program} {env : Env} {os : List AO} {d : Tmp} {ty : TypeId} {pos : String} {af : Array Edge} {g : Option (Nat × Bool)} {l rest : List Oper} {K : APost} {q : Md} {xt yt : TypeId} {x y : Operand} {a b : Int}
theorem w_addw (hw : wantedA l env ⟨some d, .binOp .add xt x y yt, ty, pos, af, g⟩ = some true) (ha : evo env x = some (.i a)) (hb : evo env y = some (.i b)) (h' : AOps P q l rest K (env.up d (.i (wr (a + b)))) os) : AOps P q l (⟨some d, .binOp .add xt x y yt, ty, pos, af, g⟩ :: rest) K env os := AOps.qo hw (q_addw (ev_of ha) (ev_of hb)) h'
theorem w_subw (hw : wantedA l env ⟨some d, .binOp .sub xt x y yt, ty, pos, af, g⟩ = some true) (ha : evo env x = some (.i a)) (hb : evo env y = some (.i b)) (h' : AOps P q l rest K (env.up d (.i (wr (a - b)))) os) : AOps P q l (⟨some d, .binOp .sub xt x y yt, ty, pos, af, g⟩ :: rest) K env os := AOps.qo hw (q_subw (ev_of ha) (ev_of hb)) h'
theorem w_mulw (hw : wantedA l env ⟨some d, .binOp .mul xt x y yt, ty, pos, af, g⟩ = some true) (ha : evo env x = some (.i a)) (hb : evo env y = some (.i b)) (h' : AOps P q l rest K (env.up d (.i (wr (a * b)))) os) : AOps P q l (⟨some d, .binOp .mul xt x y yt, ty, pos, af, g⟩ :: rest) K env os := AOps.qo hw (q_mulw (ev_of ha) (ev_of hb)) h'
end

/-! ### Tabulated lists -/
def tab (n : Nat) (F : Nat → Int) : List Int := (List.range n).map F
theorem tab_len (n : Nat) (F : Nat → Int) : (tab n F).length = n := by simp [tab]
theorem tab_get {n : Nat} (F : Nat → Int) {i : Nat} (h : i < n) : geti (tab n F) (i : Nat) = F i := by simp [tab, geti, h]
theorem tab_set {n : Nat} (F : Nat → Int) (i : Nat) (v : Int) : (tab n F).set i v = tab n fun k => if k = i then v else F k := by
  apply List.ext_getElem
  · simp [tab]
  · intro k h1 h2
    simp only [tab, List.length_set, List.length_map, List.length_range] at h1 h2
    simp only [List.getElem_set, tab, List.getElem_map, List.getElem_range]
    by_cases e : i = k
    · subst e; simp
    · rw [if_neg e, if_neg (fun h => e h.symm)]
theorem tab_congr {n : Nat} {F G : Nat → Int} (h : ∀ k, k < n → F k = G k) : tab n F = tab n G := by
  unfold tab
  apply List.map_congr_left
  intro k hk
  exact h k (List.mem_range.1 hk)
theorem tab_rep (n : Nat) (c : Int) : List.replicate n c = tab n fun _ => c := by
  apply List.ext_getElem
  · simp [tab]
  · intro k h1 h2; simp [tab]
end Go.Proofs.Ytkcbihmpjkkccaa
/-
  Prime factors, the totient and the Mobius number in the program. No condition but bounds.
-/
namespace Go.Proofs.Ytkcbihmpjkkccaa
open Go Go.RowKit
open Cy (prm gpf Upto mob tot)
attribute [local irreducible] AWp AOps ResIs Ret1 QOp LOp COp AFnV AFn Imms LeE LeO
set_option maxHeartbeats 1000000
set_option linter.unusedSimpArgs false
set_option linter.unusedVariables false

theorem prm_pow {q P : Nat} (hq : prm q) : ∀ e : Nat, q ∣ P ^ e → q ∣ P
  | 0, h => by rw [Nat.pow_zero] at h; have := Nat.le_of_dvd (by omega) h; have := hq.1; omega
  | e + 1, h => by
    rw [Nat.pow_succ] at h
    rcases Cy.prm_mul hq h with k | k
    · exact prm_pow hq e k
    · exact k
/-- Rows of primes in ascending order with exponents lead from one product to another. -/
def Chain : Nat → List (List Int) → Nat → Prop
  | N, [], n => N = n
  | N, r :: l, n => ∃ p e : Nat, r = [(p : Int), (e : Int)] ∧ prm p ∧ 1 ≤ e ∧ (∀ q, prm q → q ∣ N → q < p) ∧ Chain (N * p ^ e) l n
theorem Chain.app {l l' : List (List Int)} : ∀ {N M n : Nat}, Chain N l M → Chain M l' n → Chain N (l ++ l') n := by
  induction l with
  | nil => intro N M n h h'; cases h; exact h'
  | cons r l ih =>
    intro N M n h h'
    obtain ⟨p, e, h1, h2, h3, h4, h5⟩ := h
    exact ⟨p, e, h1, h2, h3, h4, ih h5 h'⟩
theorem least_prm {p n : Nat} (h2 : 2 ≤ p) (h : ∀ q, prm q → q ∣ n → p ≤ q) (hd : p ∣ n) : prm p := by
  obtain ⟨q, hq, hqp⟩ := Cy.prm_ex p h2
  have h1 := h q hq (Nat.dvd_trans hqp hd)
  have h3 := Nat.le_of_dvd (by omega) hqp
  have : q = p := by omega
  exact this ▸ hq
theorem big_prm {p n : Nat} (h2 : 2 ≤ n) (h : ∀ q, prm q → q ∣ n → p ≤ q) (hb : n < p * p) : prm n := by
  refine ⟨h2, fun d hd => ?_⟩
  apply Classical.byContradiction
  intro hn
  have d0 : 0 < d := Nat.pos_of_dvd_of_pos hd (by omega)
  obtain ⟨c, rfl⟩ := hd
  have c0 : 0 < c := Nat.pos_of_ne_zero fun e => by subst e; omega
  have d1 : d ≠ 1 := fun e => hn (.inl e)
  have c1 : c ≠ 1 := fun e => hn (.inr (by rw [e, Nat.mul_one]))
  obtain ⟨q, hq, hqd⟩ := Cy.prm_ex d (by omega)
  obtain ⟨r, hr, hrc⟩ := Cy.prm_ex c (by omega)
  have a1 := h q hq (Nat.dvd_trans hqd ⟨c, rfl⟩)
  have a2 := h r hr (Nat.dvd_trans hrc ⟨d, Nat.mul_comm _ _⟩)
  have a3 := Nat.le_of_dvd d0 hqd
  have a4 := Nat.le_of_dvd c0 hrc
  have := Nat.mul_le_mul (show p ≤ d by omega) (show p ≤ c by omega)
  omega
/-- A new list of the factors. -/
def IsFac (n : Nat) (r : AV) (os : List AO) : Prop := ∃ L, Chain 1 L n ∧ L.length < 1000001 ∧ r = .own 0 ∧ os = [.sls 26 2 L]

structure FcI (n m p N : Nat) (L : List (List Int)) : Prop where
  pr : N * m = n
  m0 : 1 ≤ m
  p2 : 2 ≤ p
  lo : ∀ q, prm q → q ∣ m → p ≤ q
  hi : ∀ q, prm q → q ∣ N → q < p
  ch : Chain 1 L N
  ln : L.length < N
theorem FcI.le {n m p N : Nat} {L : List (List Int)} (h : FcI n m p N L) (hm : 1 < m) : p ≤ m := by
  obtain ⟨q, hq, hd⟩ := Cy.prm_ex m hm
  have := h.lo q hq hd
  have := Nat.le_of_dvd (by omega) hd
  omega
/-- What the inner loop leaves. -/
theorem FcI.next {n m p N : Nat} {L : List (List Int)} (h : FcI n m p N L) {P m' e : Nat} (hp : p ≤ P) (hge : ∀ q, prm q → q ∣ m → q = P ∨ P + 1 ≤ q) (hm : m = m' * P ^ e) (hnd : ¬ P ∣ m') (hpr : P ∣ m → prm P) (m1 : 1 ≤ m') :
    (e = 0 → FcI n m' (P + 1) N L) ∧ (0 < e → FcI n m' (P + 1) (N * P ^ e) (L ++ [[(P : Int), (e : Int)]])) := by
  have lo : ∀ q, prm q → q ∣ m' → P + 1 ≤ q := fun q hq hd => by
    rcases hge q hq (by rw [hm]; exact Nat.dvd_trans hd ⟨_, rfl⟩) with k | k
    · subst k; exact absurd hd hnd
    · exact k
  constructor
  · intro e0
    subst e0
    rw [Nat.pow_zero, Nat.mul_one] at hm
    exact ⟨by rw [← hm]; exact h.pr, m1, by have := h.p2; omega, lo, fun q hq hd => by have := h.hi q hq hd; omega, h.ch, h.ln⟩
  · intro e0
    have hPm : P ∣ m := by rw [hm]; exact Nat.dvd_trans (Nat.dvd_trans ⟨P ^ (e - 1), by rw [← Nat.pow_succ']; congr 1; omega⟩ (Nat.dvd_refl (P ^ e))) ⟨m', Nat.mul_comm _ _⟩
    have hP := hpr hPm
    have hN : 1 ≤ N := by have := h.ln; omega
    refine ⟨?_, m1, by have := h.p2; omega, lo, fun q hq hd => ?_, h.ch.app ⟨P, e, rfl, hP, e0, fun q hq hd => by have := h.hi q hq hd; omega, rfl⟩, ?_⟩
    · rw [← h.pr, hm, Nat.mul_assoc, Nat.mul_comm (P ^ e)]
    · rcases Cy.prm_mul hq hd with k | k
      · have := h.hi q hq k; omega
      · have := Cy.prm_dvd hq hP (prm_pow hq e k); omega
    · have h2 : 2 ≤ P ^ e := by
        obtain ⟨k, rfl⟩ : ∃ k, e = k + 1 := ⟨e - 1, by omega⟩
        rw [Nat.pow_succ]
        have a := hP.1
        have b : 1 ≤ P ^ k := Nat.pow_pos (by omega)
        have := Nat.mul_le_mul b a
        omega
      have := Nat.mul_le_mul_left N h2
      have := h.ln
      simp
      omega
set_option maxHeartbeats 16000000 in
theorem factorsOf_c (n : Nat) (h1 : 1 ≤ n) (h2 : n ≤ 1000000) : AFn Try.prog 59 [.i n] (IsFac n) := by
  (refine AFn.start Try.func59 Try.ntmps59 rfl (by kernel_rfl) fun hk => ?_; simp only [Env.start, enumF, List.length_cons, List.length_nil, Nat.reduceAdd, Nat.reduceSub, List.cons_append, List.nil_append])
  repeat' (first | (apply AOps.nil; try simp only [List.nil_append, List.cons_append, List.set_cons_zero, List.set_cons_succ, List.length_cons, List.length_nil, Nat.reduceAdd, AV.sh, AV.sh1, AV.sh0, AO.sh, List.map_cons, List.map_nil, Nat.zero_add, Nat.add_zero, setAll]) | (apply w_assign; exact rfl; exact rfl) | apply AWp.seq | apply AWp.region | apply AWp.block | ((apply w_bsr0); iterate 1 exact rfl))
  refine AWp.loop (ι := Nat × Nat × Nat × List (List Int)) (fun s => ⟨35, [(0, .i s.1), (3, .own 0), (4, .i s.2.1)]⟩) (fun s => [.sls 26 2 s.2.2.2]) (fun s => FcI n s.1 s.2.1 s.2.2.1 s.2.2.2) (fun s => s.1 + 1 - s.2.1) (n, 2, 1, []) ⟨by simp, h1, by simp, fun q hq _ => hq.1, fun q hq hd => by have := Nat.le_of_dvd (by simp) hd; have := hq.1; simp only at *; omega, rfl, by simp⟩ ⟨lee rfl (by (repeat (first | exact le_nil | refine le_eq rfl rfl ?_))), by (repeat (first | exact lo_nil | refine lo_eq rfl ?_)), rfl, rfl⟩ ?_
  rintro ⟨m, p, N, L⟩ hI
  simp only at hI
  have hN : 1 ≤ N := by have := hI.ln; omega
  have hln := hI.ln
  have hp2 := hI.p2
  have hmn : m ≤ n := by
    rw [← hI.pr]; exact Nat.le_mul_of_pos_left _ hN
  have hNn : N ≤ n := by
    rw [← hI.pr]; exact Nat.le_mul_of_pos_right _ hI.m0
  by_cases hm : 1 < m
  · have hpm := hI.le hm
    have hsq : (p : Int) * (p : Int) ≤ 1000000 * 1000000 := Int.mul_le_mul (by omega) (by omega) (by omega) (by omega)
    have hsq0 : 0 ≤ (p : Int) * (p : Int) := Int.mul_nonneg (by omega) (by omega)
    have hcast : ((p * p : Nat) : Int) = (p : Int) * (p : Int) := Int.natCast_mul p p
    by_cases hb : (m : Int) < (p : Int) * (p : Int)
    · have hbp : prm m := big_prm hm hI.lo (by omega)
      obtain ⟨P, hPm⟩ : ∃ P, P = m := ⟨m, rfl⟩
      have hPp : p ≤ P := by omega
      have hge : ∀ q, prm q → q ∣ m → q = P ∨ P + 1 ≤ q := fun q hq hd => .inl (by rw [hPm]; exact Cy.prm_dvd hq hbp hd)
      have hpr : P ∣ m → prm P := fun _ => by rw [hPm]; exact hbp
      have hP2 : 2 ≤ P := by have := hI.p2; omega
      repeat' (first | (apply AOps.nil; try simp only [List.nil_append, List.cons_append, List.set_cons_zero, List.set_cons_succ, List.length_cons, List.length_nil, Nat.reduceAdd, AV.sh, AV.sh1, AV.sh0, AO.sh, List.map_cons, List.map_nil, Nat.zero_add, Nat.add_zero, setAll]) | (apply w_move; exact rfl; exact rfl) | (apply w_assign; exact rfl; exact rfl) | apply AWp.seq | apply AWp.region | ((apply AWp.condP; exact rfl) <;> intro h) | apply AWp.block | apply AWp.ret | apply AWp.exit | apply AWp.skip | ((first | apply w_gtr | apply w_mul); iterate 3 exact rfl) | omega | (apply inI_of <;> omega))
      refine AWp.loop (ι := Nat × Nat) (fun s => ⟨35, [(0, .i s.1), (3, .own 0), (4, .i P), (5, .i s.2)]⟩) (fun s => [.sls 26 2 L]) (fun s => m = s.1 * P ^ s.2 ∧ 1 ≤ s.1 ∧ s.2 + s.1 ≤ m) (fun s => s.1) (m, 0) ⟨by simp, by simp only; omega, by simp only; omega⟩ ⟨lee rfl (by (repeat (first | exact le_nil | refine le_eq rfl rfl ?_ | refine le_eq rfl (congrArg AV.i (by omega)) ?_))), by (repeat (first | exact lo_nil | refine lo_eq rfl ?_)), rfl, rfl⟩ ?_
      rintro ⟨m', e⟩ ⟨q1, q2, q3⟩
      simp only at q1 q2 q3
      have hmp : m' % P = 0 ∨ ¬ m' % P = 0 := by omega
      have hdm := Nat.div_add_mod m' P
      have hc1 : ((m' % P : Nat) : Int) = (m' : Int) % (P : Int) := Int.natCast_emod m' P
      have hc2 : ((m' / P : Nat) : Int) = (m' : Int) / (P : Int) := Int.natCast_ediv m' P
      have hlt : m' / P < m' := Nat.div_lt_self (by omega) (by omega)
      by_cases hd : m' % P = 0
      · have h0 : 1 ≤ m' / P := Nat.div_pos (Nat.le_of_dvd (by omega) (Nat.dvd_of_mod_eq_zero hd)) (by omega)
        repeat' (first | (apply AOps.nil; try simp only [List.nil_append, List.cons_append, List.set_cons_zero, List.set_cons_succ, List.length_cons, List.length_nil, Nat.reduceAdd, AV.sh, AV.sh1, AV.sh0, AO.sh, List.map_cons, List.map_nil, Nat.zero_add, Nat.add_zero, setAll]) | (apply w_move; exact rfl; exact rfl) | (apply w_assign; exact rfl; exact rfl) | apply AWp.seq | apply AWp.region | ((apply AWp.condP; exact rfl) <;> intro h) | apply AWp.block | apply AWp.exit | apply AWp.skip | omega | ((first | apply w_eql | apply w_add); iterate 3 exact rfl) | (apply w_rem; exact rfl; exact rfl; exact rfl; (focus (omega; done)); (focus (omega; done))) | (apply w_quo; exact rfl; exact rfl; exact rfl; (focus (omega; done)); (focus (omega; done))) | (apply inI_of <;> omega))
        refine ⟨(m' / P, e + 1), ⟨?_, h0, by simp only; omega⟩, by simp only; omega, ⟨lee rfl (by (repeat (first | exact le_nil | refine le_eq rfl rfl ?_))), by (repeat (first | exact lo_nil | refine lo_eq rfl ?_)), rfl, rfl⟩⟩
        simp only
        rw [q1, Nat.pow_succ, Nat.mul_comm (P ^ e), ← Nat.mul_assoc, Nat.div_mul_cancel (Nat.dvd_of_mod_eq_zero hd)]
      · obtain ⟨nx0, nx1⟩ := hI.next hPp hge q1 (fun k => hd (Nat.mod_eq_zero_of_dvd k)) hpr q2
        have hme : m' ≤ m := by omega
        by_cases e0 : e = 0
        · repeat' (first | (apply AOps.nil; try simp only [List.nil_append, List.cons_append, List.set_cons_zero, List.set_cons_succ, List.length_cons, List.length_nil, Nat.reduceAdd, AV.sh, AV.sh1, AV.sh0, AO.sh, List.map_cons, List.map_nil, Nat.zero_add, Nat.add_zero, setAll]) | (apply w_move; exact rfl; exact rfl) | (apply w_assign; exact rfl; exact rfl) | apply AWp.seq | apply AWp.region | ((apply AWp.condP; exact rfl) <;> intro h) | apply AWp.block | apply AWp.exit | apply AWp.skip | ((first | apply w_bsr1 | apply w_gtr | apply w_eql | apply w_add | apply w_bs2); iterate 3 exact rfl) | (apply w_appr; exact rfl; exact rfl; exact rfl; exact rfl; exact rfl; exact rfl; exact rfl; rotate_left 1; simp only [Env.mp, List.map_cons, List.map_nil, List.set_cons_zero, List.set_cons_succ, AV.kill, AV.kill1, AO.kill, AV.rin, AV.rin1, AV.noRow, AV.noRow1, AO.via, reduceIte, Nat.reduceEqDiff, Nat.reduceLT, Env.up, Nat.zero_ne_one, Nat.one_ne_zero, Nat.reduceAdd, List.cons_append, List.nil_append]; rotate_left 1) | omega | (apply w_rem; exact rfl; exact rfl; exact rfl; (focus (omega; done)); (focus (omega; done))) | (apply inI_of <;> omega))
          exact ⟨(m', P + 1, N, L), nx0 e0, by simp only; omega, ⟨lee rfl (by (repeat (first | exact le_nil | refine le_eq rfl rfl ?_))), by (repeat (first | exact lo_nil | refine lo_eq rfl ?_)), rfl, rfl⟩⟩
        · repeat' (first | (apply AOps.nil; try simp only [List.nil_append, List.cons_append, List.set_cons_zero, List.set_cons_succ, List.length_cons, List.length_nil, Nat.reduceAdd, AV.sh, AV.sh1, AV.sh0, AO.sh, List.map_cons, List.map_nil, Nat.zero_add, Nat.add_zero, setAll]) | (apply w_move; exact rfl; exact rfl) | (apply w_assign; exact rfl; exact rfl) | apply AWp.seq | apply AWp.region | ((apply AWp.condP; exact rfl) <;> intro h) | apply AWp.block | apply AWp.exit | apply AWp.skip | ((first | apply w_bsr1 | apply w_gtr | apply w_eql | apply w_add | apply w_bs2); iterate 3 exact rfl) | (apply w_appr; exact rfl; exact rfl; exact rfl; exact rfl; exact rfl; exact rfl; exact rfl; rotate_left 1; simp only [Env.mp, List.map_cons, List.map_nil, List.set_cons_zero, List.set_cons_succ, AV.kill, AV.kill1, AO.kill, AV.rin, AV.rin1, AV.noRow, AV.noRow1, AO.via, reduceIte, Nat.reduceEqDiff, Nat.reduceLT, Env.up, Nat.zero_ne_one, Nat.one_ne_zero, Nat.reduceAdd, List.cons_append, List.nil_append]; rotate_left 1) | omega | (apply w_rem; exact rfl; exact rfl; exact rfl; (focus (omega; done)); (focus (omega; done))) | (apply inI_of <;> omega))
          exact ⟨(m', P + 1, N * P ^ e, L ++ [[(P : Int), (e : Int)]]), nx1 (by omega), by simp only; omega, ⟨lee rfl (by (repeat (first | exact le_nil | refine le_eq rfl rfl ?_))), by (repeat (first | exact lo_nil | refine lo_eq rfl ?_)), rfl, rfl⟩⟩
    · obtain ⟨P, hPm⟩ : ∃ P, P = p := ⟨p, rfl⟩
      have hPp : p ≤ P := by omega
      have hge : ∀ q, prm q → q ∣ m → q = P ∨ P + 1 ≤ q := fun q hq hd => by have := hI.lo q hq hd; omega
      have hpr : P ∣ m → prm P := fun k => least_prm (by omega) (fun q hq hd => by have := hI.lo q hq hd; omega) k
      have hP2 : 2 ≤ P := by have := hI.p2; omega
      repeat' (first | (apply AOps.nil; try simp only [List.nil_append, List.cons_append, List.set_cons_zero, List.set_cons_succ, List.length_cons, List.length_nil, Nat.reduceAdd, AV.sh, AV.sh1, AV.sh0, AO.sh, List.map_cons, List.map_nil, Nat.zero_add, Nat.add_zero, setAll]) | (apply w_move; exact rfl; exact rfl) | (apply w_assign; exact rfl; exact rfl) | apply AWp.seq | apply AWp.region | ((apply AWp.condP; exact rfl) <;> intro h) | apply AWp.block | apply AWp.ret | apply AWp.exit | apply AWp.skip | ((first | apply w_gtr | apply w_mul); iterate 3 exact rfl) | omega | (apply inI_of <;> omega))
      refine AWp.loop (ι := Nat × Nat) (fun s => ⟨35, [(0, .i s.1), (3, .own 0), (4, .i P), (5, .i s.2)]⟩) (fun s => [.sls 26 2 L]) (fun s => m = s.1 * P ^ s.2 ∧ 1 ≤ s.1 ∧ s.2 + s.1 ≤ m) (fun s => s.1) (m, 0) ⟨by simp, by simp only; omega, by simp only; omega⟩ ⟨lee rfl (by (repeat (first | exact le_nil | refine le_eq rfl rfl ?_ | refine le_eq rfl (congrArg AV.i (by omega)) ?_))), by (repeat (first | exact lo_nil | refine lo_eq rfl ?_)), rfl, rfl⟩ ?_
      rintro ⟨m', e⟩ ⟨q1, q2, q3⟩
      simp only at q1 q2 q3
      have hmp : m' % P = 0 ∨ ¬ m' % P = 0 := by omega
      have hdm := Nat.div_add_mod m' P
      have hc1 : ((m' % P : Nat) : Int) = (m' : Int) % (P : Int) := Int.natCast_emod m' P
      have hc2 : ((m' / P : Nat) : Int) = (m' : Int) / (P : Int) := Int.natCast_ediv m' P
      have hlt : m' / P < m' := Nat.div_lt_self (by omega) (by omega)
      by_cases hd : m' % P = 0
      · have h0 : 1 ≤ m' / P := Nat.div_pos (Nat.le_of_dvd (by omega) (Nat.dvd_of_mod_eq_zero hd)) (by omega)
        repeat' (first | (apply AOps.nil; try simp only [List.nil_append, List.cons_append, List.set_cons_zero, List.set_cons_succ, List.length_cons, List.length_nil, Nat.reduceAdd, AV.sh, AV.sh1, AV.sh0, AO.sh, List.map_cons, List.map_nil, Nat.zero_add, Nat.add_zero, setAll]) | (apply w_move; exact rfl; exact rfl) | (apply w_assign; exact rfl; exact rfl) | apply AWp.seq | apply AWp.region | ((apply AWp.condP; exact rfl) <;> intro h) | apply AWp.block | apply AWp.exit | apply AWp.skip | omega | ((first | apply w_eql | apply w_add); iterate 3 exact rfl) | (apply w_rem; exact rfl; exact rfl; exact rfl; (focus (omega; done)); (focus (omega; done))) | (apply w_quo; exact rfl; exact rfl; exact rfl; (focus (omega; done)); (focus (omega; done))) | (apply inI_of <;> omega))
        refine ⟨(m' / P, e + 1), ⟨?_, h0, by simp only; omega⟩, by simp only; omega, ⟨lee rfl (by (repeat (first | exact le_nil | refine le_eq rfl rfl ?_))), by (repeat (first | exact lo_nil | refine lo_eq rfl ?_)), rfl, rfl⟩⟩
        simp only
        rw [q1, Nat.pow_succ, Nat.mul_comm (P ^ e), ← Nat.mul_assoc, Nat.div_mul_cancel (Nat.dvd_of_mod_eq_zero hd)]
      · obtain ⟨nx0, nx1⟩ := hI.next hPp hge q1 (fun k => hd (Nat.mod_eq_zero_of_dvd k)) hpr q2
        have hme : m' ≤ m := by omega
        by_cases e0 : e = 0
        · repeat' (first | (apply AOps.nil; try simp only [List.nil_append, List.cons_append, List.set_cons_zero, List.set_cons_succ, List.length_cons, List.length_nil, Nat.reduceAdd, AV.sh, AV.sh1, AV.sh0, AO.sh, List.map_cons, List.map_nil, Nat.zero_add, Nat.add_zero, setAll]) | (apply w_move; exact rfl; exact rfl) | (apply w_assign; exact rfl; exact rfl) | apply AWp.seq | apply AWp.region | ((apply AWp.condP; exact rfl) <;> intro h) | apply AWp.block | apply AWp.exit | apply AWp.skip | ((first | apply w_bsr1 | apply w_gtr | apply w_eql | apply w_add | apply w_bs2); iterate 3 exact rfl) | (apply w_appr; exact rfl; exact rfl; exact rfl; exact rfl; exact rfl; exact rfl; exact rfl; rotate_left 1; simp only [Env.mp, List.map_cons, List.map_nil, List.set_cons_zero, List.set_cons_succ, AV.kill, AV.kill1, AO.kill, AV.rin, AV.rin1, AV.noRow, AV.noRow1, AO.via, reduceIte, Nat.reduceEqDiff, Nat.reduceLT, Env.up, Nat.zero_ne_one, Nat.one_ne_zero, Nat.reduceAdd, List.cons_append, List.nil_append]; rotate_left 1) | omega | (apply w_rem; exact rfl; exact rfl; exact rfl; (focus (omega; done)); (focus (omega; done))) | (apply inI_of <;> omega))
          exact ⟨(m', P + 1, N, L), nx0 e0, by simp only; omega, ⟨lee rfl (by (repeat (first | exact le_nil | refine le_eq rfl rfl ?_))), by (repeat (first | exact lo_nil | refine lo_eq rfl ?_)), rfl, rfl⟩⟩
        · repeat' (first | (apply AOps.nil; try simp only [List.nil_append, List.cons_append, List.set_cons_zero, List.set_cons_succ, List.length_cons, List.length_nil, Nat.reduceAdd, AV.sh, AV.sh1, AV.sh0, AO.sh, List.map_cons, List.map_nil, Nat.zero_add, Nat.add_zero, setAll]) | (apply w_move; exact rfl; exact rfl) | (apply w_assign; exact rfl; exact rfl) | apply AWp.seq | apply AWp.region | ((apply AWp.condP; exact rfl) <;> intro h) | apply AWp.block | apply AWp.exit | apply AWp.skip | ((first | apply w_bsr1 | apply w_gtr | apply w_eql | apply w_add | apply w_bs2); iterate 3 exact rfl) | (apply w_appr; exact rfl; exact rfl; exact rfl; exact rfl; exact rfl; exact rfl; exact rfl; rotate_left 1; simp only [Env.mp, List.map_cons, List.map_nil, List.set_cons_zero, List.set_cons_succ, AV.kill, AV.kill1, AO.kill, AV.rin, AV.rin1, AV.noRow, AV.noRow1, AO.via, reduceIte, Nat.reduceEqDiff, Nat.reduceLT, Env.up, Nat.zero_ne_one, Nat.one_ne_zero, Nat.reduceAdd, List.cons_append, List.nil_append]; rotate_left 1) | omega | (apply w_rem; exact rfl; exact rfl; exact rfl; (focus (omega; done)); (focus (omega; done))) | (apply inI_of <;> omega))
          exact ⟨(m', P + 1, N * P ^ e, L ++ [[(P : Int), (e : Int)]]), nx1 (by omega), by simp only; omega, ⟨lee rfl (by (repeat (first | exact le_nil | refine le_eq rfl rfl ?_))), by (repeat (first | exact lo_nil | refine lo_eq rfl ?_)), rfl, rfl⟩⟩
  · have e : m = 1 := by have := hI.m0; omega
    subst e
    repeat' (first | (apply AOps.nil; try simp only [List.nil_append, List.cons_append, List.set_cons_zero, List.set_cons_succ, List.length_cons, List.length_nil, Nat.reduceAdd, AV.sh, AV.sh1, AV.sh0, AO.sh, List.map_cons, List.map_nil, Nat.zero_add, Nat.add_zero, setAll]) | (apply w_move; exact rfl; exact rfl) | (apply w_assign; exact rfl; exact rfl) | apply AWp.seq | apply AWp.region | ((apply AWp.condP; exact rfl) <;> intro h) | apply AWp.block | apply AWp.ret | apply AWp.exit | apply AWp.skip | omega | ((apply w_gtr); iterate 3 exact rfl))
    have hch := hI.ch
    have hpr := hI.pr
    rw [Nat.mul_one] at hpr
    rw [hpr] at hch
    exact ⟨_, _, _, .v1 Try.results59 rfl, .sls rfl, L, hch, by omega, rfl, rfl⟩
end Go.Proofs.Ytkcbihmpjkkccaa
/-
  The totient and the Mobius number in the program. No condition but bounds.
-/
namespace Go.Proofs.Ytkcbihmpjkkccaa
open Go Go.RowKit
open Cy (prm gpf Upto mob tot)
attribute [local irreducible] AWp AOps ResIs Ret1 QOp LOp COp AFnV AFn Imms LeE LeO
set_option maxHeartbeats 1000000
set_option linter.unusedSimpArgs false
set_option linter.unusedVariables false

theorem Chain.dvd {l : List (List Int)} : ∀ {N n : Nat}, Chain N l n → N ∣ n := by
  induction l with
  | nil => intro N n h; cases h; exact Nat.dvd_refl _
  | cons r l ih =>
    intro N n h
    obtain ⟨p, e, _, _, _, _, h5⟩ := h
    exact Nat.dvd_trans ⟨_, rfl⟩ (ih h5)
theorem upto_pow {N p e : Nat} (hp : prm p) (hN : ∀ q, prm q → q ∣ N → q < p) : Upto p (N * p ^ e) := fun q hq hd => by
  rcases Cy.prm_mul hq hd with k | k
  · have := hN q hq k; omega
  · have := Cy.prm_dvd hq hp (prm_pow hq e k); omega
theorem tot_pow {N p : Nat} (hp : prm p) (h0 : 0 < N) (hN : ∀ q, prm q → q ∣ N → q < p) : ∀ e : Nat, tot (N * p ^ (e + 1)) = tot N * ((p - 1) * p ^ e)
  | 0 => by
    have hu := upto_pow (e := 0) hp hN
    have hnd : ¬ p ∣ N := fun h => by have := hN p hp h; omega
    rw [Nat.pow_zero, Nat.mul_one] at hu
    rw [Nat.zero_add, Nat.pow_one, Cy.tot_mul hp h0 hu, if_neg hnd, Nat.pow_zero, Nat.mul_one, Nat.mul_comm]
  | e + 1 => by
    have hu := upto_pow (e := e + 1) hp hN
    have hd : p ∣ N * p ^ (e + 1) := ⟨N * p ^ e, by rw [Nat.pow_succ]; ac_rfl⟩
    have hp0 : 0 < p := by have := hp.1; omega
    rw [Nat.pow_succ p (e + 1), ← Nat.mul_assoc, Cy.tot_mul hp (Nat.mul_pos h0 (Nat.pow_pos hp0)) hu, if_pos hd, tot_pow hp h0 hN e, Nat.pow_succ]
    ac_rfl
theorem mob_row {N p : Nat} (hp : prm p) (h0 : 0 < N) (hN : ∀ q, prm q → q ∣ N → q < p) : mob (N * p ^ 1) = -mob N := by
  have hu := upto_pow (e := 0) hp hN
  have hnd : ¬ p ∣ N := fun h => by have := hN p hp h; omega
  rw [Nat.pow_zero, Nat.mul_one] at hu
  rw [Nat.pow_one, Cy.mob_mul hp h0 hu, if_neg hnd]
theorem tot_pos {n : Nat} (h : 0 < n) : 1 ≤ tot n ∧ tot n ≤ n := (Cy.phi_deg n h).2.2
/-- The next row. -/
theorem Chain.row {L : List (List Int)} {N n i : Nat} (h : Chain N (L.drop i) n) (hi : i < L.length) : ∃ p e : Nat, L.getD i [] = [(p : Int), (e : Int)] ∧ prm p ∧ 1 ≤ e ∧ (∀ q, prm q → q ∣ N → q < p) ∧ Chain (N * p ^ e) (L.drop (i + 1)) n := by
  rw [List.drop_eq_getElem_cons hi] at h
  obtain ⟨p, e, h1, h2⟩ := h
  exact ⟨p, e, by rw [List.getD_eq_getElem?_getD, List.getElem?_eq_getElem hi]; exact h1, h2⟩

set_option maxHeartbeats 8000000 in
theorem totient_c (n : Nat) (h1 : 1 ≤ n) (h2 : n ≤ 1000000) : AFnV Try.prog 53 [.i n] (.int .i64 (tot n)) := by
  have hf := factorsOf_c n h1 h2
  have totn : ((tot 1 * (n / 1) : Nat) : Int) = (n : Int) := by rw [Cy.tot_one, Nat.div_one, Nat.one_mul]
  (refine AFnV.start Try.func53 Try.ntmps53 rfl (by kernel_rfl) fun hk => ?_; simp only [Env.start, enumF, List.length_cons, List.length_nil, Nat.reduceAdd, Nat.reduceSub, List.cons_append, List.nil_append])
  repeat' (first | (apply AOps.nil; try simp only [List.nil_append, List.cons_append, List.set_cons_zero, List.set_cons_succ, List.length_cons, List.length_nil, Nat.reduceAdd, AV.sh, AV.sh1, AV.sh0, AO.sh, List.map_cons, List.map_nil, Nat.zero_add, Nat.add_zero, setAll]) | (apply w_move; exact rfl; exact rfl) | (apply w_assign; exact rfl; exact rfl) | apply AWp.seq | apply AWp.region | apply AWp.block | (apply w_len; exact rfl; exact rfl; first | exact .ints _ | exact .intss _ | exact .sli rfl | exact .sls rfl | exact .slr rfl | exact .orow rfl | exact .nil) | (apply w_callm (hf); (focus ((repeat (first | exact im_nil | refine im_cons rfl (.val _) ?_)); done)); rintro r os0 ⟨L, hL, hln, rfl, rfl⟩; try simp only [List.nil_append, List.cons_append, List.set_cons_zero, List.set_cons_succ, List.length_cons, List.length_nil, Nat.reduceAdd, AV.sh, AV.sh1, AV.sh0, AO.sh, List.map_cons, List.map_nil, Nat.zero_add, Nat.add_zero, setAll]))
  refine AWp.loop (ι := Nat × Nat) (fun s => ⟨26, [(3, .i (tot s.2 * (n / s.2) : Nat)), (8, .own 0), (9, .i L.length), (10, .i s.1)]⟩) (fun s => [.sls 26 2 L]) (fun s => s.1 ≤ L.length ∧ Chain s.2 (L.drop s.1) n ∧ 1 ≤ s.2) (fun s => L.length - s.1) (0, 1) ⟨by omega, hL, by omega⟩ ⟨lee rfl (by (repeat (first | exact le_nil | refine le_eq rfl rfl ?_ | refine le_eq rfl (congrArg AV.i (totn.symm)) ?_))), by (repeat (first | exact lo_nil | refine lo_eq rfl ?_)), rfl, rfl⟩ ?_
  rintro ⟨i, N⟩ ⟨i0, hc, hN⟩
  simp only at i0 hc hN
  obtain ⟨K, hK⟩ := hc.dvd
  have hNK : n / N = K := by rw [hK, Nat.mul_div_cancel_left _ (by omega)]
  rw [hNK]
  have ht := tot_pos hN
  have hle : tot N * K ≤ n := by rw [hK]; exact Nat.mul_le_mul_right _ ht.2
  by_cases hi : i < L.length
  · obtain ⟨p, e, hr, hp, he, hlo, hc'⟩ := hc.row hi
    have hr' : L.getD (i : Int).toNat [] = [(p : Int), (e : Int)] := hr
    have r0 : (L.getD (i : Int).toNat []).length = 2 := by rw [hr']; rfl
    have r1 : geti (L.getD (i : Int).toNat []) ((Int.toNat 0 : Nat) : Int) = p := by rw [hr']; rfl
    have hp2 := hp.1
    obtain ⟨f, rfl⟩ : ∃ f, e = f + 1 := ⟨e - 1, by omega⟩
    have hpf : 1 ≤ p ^ f := Nat.pow_pos (by omega)
    obtain ⟨M, hM⟩ := hc'.dvd
    have hKM : K = p * (p ^ f * M) := by
      have : N * K = N * (p ^ (f + 1) * M) := by rw [← hK, hM, Nat.mul_assoc]
      have := Nat.eq_of_mul_eq_mul_left (by omega) this
      rw [this, Nat.pow_succ]; ac_rfl
    have hq : ((tot N * K : Nat) : Int) / (p : Int) = ((tot N * (p ^ f * M) : Nat) : Int) := by
      rw [← Int.natCast_ediv, hKM, show tot N * (p * (p ^ f * M)) = p * (tot N * (p ^ f * M)) by ac_rfl, Nat.mul_div_cancel_left _ (by omega)]
    have hnew : tot (N * p ^ (f + 1)) * (n / (N * p ^ (f + 1))) = tot N * (p ^ f * M) * (p - 1) := by
      rw [tot_pow hp (by omega) hlo f, hM, Nat.mul_div_cancel_left _ (Nat.mul_pos (by omega) (Nat.pow_pos (by omega)))]
      ac_rfl
    have hres : ((tot N * K : Nat) : Int) / geti (L.getD (i : Int).toNat []) ((Int.toNat 0 : Nat) : Int) * (geti (L.getD (i : Int).toNat []) ((Int.toNat 0 : Nat) : Int) - 1) = ((tot (N * p ^ (f + 1)) * (n / (N * p ^ (f + 1))) : Nat) : Int) := by
      rw [r1, hq, hnew, Int.natCast_mul (tot N * (p ^ f * M)), Int.natCast_sub (by omega)]
      rfl
    have hbig : tot (N * p ^ (f + 1)) * (n / (N * p ^ (f + 1))) ≤ n := by
      have a := (tot_pos (n := N * p ^ (f + 1)) (Nat.mul_pos (by omega) (Nat.pow_pos (by omega)))).2
      exact Nat.le_trans (Nat.mul_le_mul_right _ a) (Nat.mul_div_le _ _)
    have hq0 : 0 ≤ ((tot N * K : Nat) : Int) / geti (L.getD (i : Int).toNat []) ((Int.toNat 0 : Nat) : Int) ∧ ((tot N * K : Nat) : Int) / geti (L.getD (i : Int).toNat []) ((Int.toNat 0 : Nat) : Int) ≤ (tot N * K : Nat) := by
      rw [r1]; exact ⟨Int.ediv_nonneg (by omega) (by omega), Int.ediv_le_self _ (by omega)⟩
    have hpn : p ≤ 1000000 := by
      have : p ∣ n := Nat.dvd_trans ⟨p ^ f * M, hKM⟩ ⟨N, by rw [hK, Nat.mul_comm]⟩
      have := Nat.le_of_dvd (by omega) this
      omega
    generalize tot N * K = A at *
    repeat' (first | (apply AOps.nil; try simp only [List.nil_append, List.cons_append, List.set_cons_zero, List.set_cons_succ, List.length_cons, List.length_nil, Nat.reduceAdd, AV.sh, AV.sh1, AV.sh0, AO.sh, List.map_cons, List.map_nil, Nat.zero_add, Nat.add_zero, setAll]) | (apply w_move; exact rfl; exact rfl) | (apply w_assign; exact rfl; exact rfl) | apply AWp.seq | apply AWp.region | ((apply AWp.condP; exact rfl) <;> intro h) | apply AWp.block | apply AWp.ret | apply AWp.exit | apply AWp.skip | (apply AWp.regionQ; kernel_rfl; kernel_rfl) | omega | ((first | apply w_lss | apply w_add | apply w_sub | apply w_mul | apply w_idx | apply w_ld); iterate 3 exact rfl) | (apply w_quo; exact rfl; exact rfl; exact rfl; (focus (omega; done)); (focus (omega; done))) | (apply w_idxo; exact rfl; exact rfl; (exact .sls rfl); exact rfl) | ((first | apply w_idxr | apply w_ldr); iterate 4 exact rfl) | (apply w_ldls; iterate 4 exact rfl) | (apply w_ldrp; iterate 4 exact rfl) | (apply inI_of <;> omega))
    all_goals exact ⟨(i + 1, N * p ^ (f + 1)), ⟨by simp only; omega, hc', Nat.mul_pos (by omega) (Nat.pow_pos (by omega))⟩, by simp only; omega, ⟨lee rfl (by (repeat (first | exact le_nil | refine le_eq rfl rfl ?_ | refine le_eq rfl (congrArg AV.i (by omega)) ?_))), by (repeat (first | exact lo_nil | refine lo_eq rfl ?_)), rfl, rfl⟩⟩
  · have ei : i = L.length := by omega
    subst ei
    rw [List.drop_length] at hc
    have e : N = n := hc
    have eK : K = 1 := by
      rw [e] at hK
      have : n * 1 = n * K := by omega
      exact (Nat.eq_of_mul_eq_mul_left (by omega) this).symm
    rw [e, eK, Nat.mul_one]
    repeat' (first | (apply AOps.nil; try simp only [List.nil_append, List.cons_append, List.set_cons_zero, List.set_cons_succ, List.length_cons, List.length_nil, Nat.reduceAdd, AV.sh, AV.sh1, AV.sh0, AO.sh, List.map_cons, List.map_nil, Nat.zero_add, Nat.add_zero, setAll]) | (apply w_move; exact rfl; exact rfl) | (apply w_assign; exact rfl; exact rfl) | apply AWp.seq | apply AWp.region | ((apply AWp.condP; exact rfl) <;> intro h) | apply AWp.block | apply AWp.ret | apply AWp.exit | apply AWp.skip | omega | ((apply w_lss); iterate 3 exact rfl))
    all_goals exact .int Try.results53 rfl rfl

set_option maxHeartbeats 8000000 in
theorem mobius_c (n : Nat) (h1 : 1 ≤ n) (h2 : n ≤ 1000000) : AFnV Try.prog 54 [.i n] (.int .i64 (mob n)) := by
  have hf := factorsOf_c n h1 h2
  (refine AFnV.start Try.func54 Try.ntmps54 rfl (by kernel_rfl) fun hk => ?_; simp only [Env.start, enumF, List.length_cons, List.length_nil, Nat.reduceAdd, Nat.reduceSub, List.cons_append, List.nil_append])
  repeat' (first | (apply AOps.nil; try simp only [List.nil_append, List.cons_append, List.set_cons_zero, List.set_cons_succ, List.length_cons, List.length_nil, Nat.reduceAdd, AV.sh, AV.sh1, AV.sh0, AO.sh, List.map_cons, List.map_nil, Nat.zero_add, Nat.add_zero, setAll]) | (apply w_move; exact rfl; exact rfl) | (apply w_assign; exact rfl; exact rfl) | apply AWp.seq | apply AWp.region | apply AWp.block | (apply w_len; exact rfl; exact rfl; first | exact .ints _ | exact .intss _ | exact .sli rfl | exact .sls rfl | exact .slr rfl | exact .orow rfl | exact .nil) | (apply w_callm (hf); (focus ((repeat (first | exact im_nil | refine im_cons rfl (.val _) ?_)); done)); rintro r os0 ⟨L, hL, hln, rfl, rfl⟩; try simp only [List.nil_append, List.cons_append, List.set_cons_zero, List.set_cons_succ, List.length_cons, List.length_nil, Nat.reduceAdd, AV.sh, AV.sh1, AV.sh0, AO.sh, List.map_cons, List.map_nil, Nat.zero_add, Nat.add_zero, setAll]))
  refine AWp.loop (ι := Nat × Nat) (fun s => ⟨21, [(3, .i (mob s.2)), (7, .own 0), (8, .i L.length), (9, .i s.1)]⟩) (fun s => [.sls 26 2 L]) (fun s => s.1 ≤ L.length ∧ Chain s.2 (L.drop s.1) n ∧ 1 ≤ s.2) (fun s => L.length - s.1) (0, 1) ⟨by omega, hL, by omega⟩ (by simp only [Cy.mob_one]; exact ⟨lee rfl (by (repeat (first | exact le_nil | refine le_eq rfl rfl ?_))), by (repeat (first | exact lo_nil | refine lo_eq rfl ?_)), rfl, rfl⟩) ?_
  rintro ⟨i, N⟩ ⟨i0, hc, hN⟩
  simp only at i0 hc hN
  have hm := Cy.mob_in N
  by_cases hi : i < L.length
  · obtain ⟨p, e, hr, hp, he, hlo, hc'⟩ := hc.row hi
    have hr' : L.getD (i : Int).toNat [] = [(p : Int), (e : Int)] := hr
    have r0 : (L.getD (i : Int).toNat []).length = 2 := by rw [hr']; rfl
    have r1 : geti (L.getD (i : Int).toNat []) ((Int.toNat 1 : Nat) : Int) = e := by rw [hr']; rfl
    by_cases h1e : 1 < e
    · have hz : mob n = 0 := by
        refine Cy.mob_sq hp n (by omega) (Nat.dvd_trans ?_ hc'.dvd)
        obtain ⟨f, rfl⟩ : ∃ f, e = f + 2 := ⟨e - 2, by omega⟩
        exact ⟨N * p ^ f, by rw [Nat.pow_add, show p ^ 2 = p * p by rw [Nat.pow_succ, Nat.pow_one]]; ac_rfl⟩
      repeat' (first | (apply AOps.nil; try simp only [List.nil_append, List.cons_append, List.set_cons_zero, List.set_cons_succ, List.length_cons, List.length_nil, Nat.reduceAdd, AV.sh, AV.sh1, AV.sh0, AO.sh, List.map_cons, List.map_nil, Nat.zero_add, Nat.add_zero, setAll]) | (apply w_move; exact rfl; exact rfl) | (apply w_assign; exact rfl; exact rfl) | apply AWp.seq | apply AWp.region | ((apply AWp.condP; exact rfl) <;> intro h) | apply AWp.block | apply AWp.ret | apply AWp.exit | apply AWp.skip | omega | ((first | apply w_lss | apply w_gtr | apply w_idx | apply w_ld); iterate 3 exact rfl) | (apply w_idxo; exact rfl; exact rfl; (exact .sls rfl); exact rfl) | ((first | apply w_idxr | apply w_ldr); iterate 4 exact rfl) | (apply w_ldls; iterate 4 exact rfl) | (apply w_ldrp; iterate 4 exact rfl))
      exact .int Try.results54 rfl hz.symm
    · have e1 : e = 1 := by omega
      subst e1
      have hs := mob_row hp (by omega) hlo
      rw [← Int.zero_sub] at hs
      repeat' (first | (apply AOps.nil; try simp only [List.nil_append, List.cons_append, List.set_cons_zero, List.set_cons_succ, List.length_cons, List.length_nil, Nat.reduceAdd, AV.sh, AV.sh1, AV.sh0, AO.sh, List.map_cons, List.map_nil, Nat.zero_add, Nat.add_zero, setAll]) | (apply w_move; exact rfl; exact rfl) | (apply w_assign; exact rfl; exact rfl) | apply AWp.seq | apply AWp.region | ((apply AWp.condP; exact rfl) <;> intro h) | apply AWp.block | apply AWp.ret | apply AWp.exit | apply AWp.skip | omega | ((first | apply w_lss | apply w_gtr | apply w_add | apply w_idx | apply w_ld); iterate 3 exact rfl) | ((apply w_neg); iterate 2 exact rfl) | (apply w_idxo; exact rfl; exact rfl; (exact .sls rfl); exact rfl) | ((first | apply w_idxr | apply w_ldr); iterate 4 exact rfl) | (apply w_ldls; iterate 4 exact rfl) | (apply w_ldrp; iterate 4 exact rfl) | (apply inI_of <;> omega))
      exact ⟨(i + 1, N * p ^ 1), ⟨by simp only; omega, hc', Nat.mul_pos (by omega) (Nat.pow_pos (by have := hp.1; omega))⟩, by simp only; omega, ⟨lee rfl (by (repeat (first | exact le_nil | refine le_eq rfl rfl ?_ | refine le_eq rfl (congrArg AV.i (hs.symm)) ?_))), by (repeat (first | exact lo_nil | refine lo_eq rfl ?_)), rfl, rfl⟩⟩
  · have ei : i = L.length := by omega
    subst ei
    rw [List.drop_length] at hc
    have e : N = n := hc
    subst e
    repeat' (first | (apply AOps.nil; try simp only [List.nil_append, List.cons_append, List.set_cons_zero, List.set_cons_succ, List.length_cons, List.length_nil, Nat.reduceAdd, AV.sh, AV.sh1, AV.sh0, AO.sh, List.map_cons, List.map_nil, Nat.zero_add, Nat.add_zero, setAll]) | (apply w_move; exact rfl; exact rfl) | (apply w_assign; exact rfl; exact rfl) | apply AWp.seq | apply AWp.region | ((apply AWp.condP; exact rfl) <;> intro h) | apply AWp.block | apply AWp.ret | apply AWp.exit | apply AWp.skip | omega | ((apply w_lss); iterate 3 exact rfl))
    exact .int Try.results54 rfl rfl
end Go.Proofs.Ytkcbihmpjkkccaa
/-
  The cyclotomic polynomial in the program. No condition but bounds.
-/
namespace Go.Proofs.Ytkcbihmpjkkccaa
open Go Go.RowKit
open Cy (prm gpf Upto mob tot Phi moL Fs Ser)
attribute [local irreducible] AWp AOps ResIs Ret1 QOp LOp COp AFnV AFn Imms LeE LeO
set_option maxHeartbeats 1000000
set_option linter.unusedSimpArgs false
set_option linter.unusedVariables false

/-- The coefficients of the cyclotomic polynomial, as int64 holds them. -/
noncomputable def phiW (n : Nat) : List Int := tab (tot n + 1) fun c => wr (Phi n c)
def dn (S : Nat) (f g : Ser) (i : Nat) : List Int := tab S fun c => if i < c then wr (g c) else wr (f c)
def up (S : Nat) (f g : Ser) (i : Nat) : List Int := tab S fun c => if c < i then wr (g c) else wr (f c)
theorem wr_small {x : Int} (h : -1 ≤ x ∧ x ≤ 1) : wr x = x := wr_of (by unfold inI; omega)
theorem phiW_one : phiW 1 = [-1, 1] := by
  unfold phiW
  rw [Cy.tot_one, Cy.Phi_one]
  show [wr (Cy.xp 1 0), wr (Cy.xp 1 1)] = [-1, 1]
  have e0 : Cy.xp 1 0 = -1 := by simp [Cy.xp, Cy.add, Cy.neg, Cy.sh, Cy.one]
  have e1 : Cy.xp 1 1 = 1 := by simp [Cy.xp, Cy.add, Cy.neg, Cy.sh, Cy.one]
  rw [e0, e1, wr_small (by omega), wr_small (by omega)]
theorem start_one (S : Nat) (h : 0 < S) : (List.replicate S (0 : Int)).set 0 1 = tab S fun c => wr (Cy.one c) := by
  rw [tab_rep, tab_set]
  refine tab_congr fun k _ => ?_
  unfold Cy.one
  by_cases e : k = 0
  · rw [if_pos e, wr_small (by omega)]
  · rw [if_neg e, wr_small (by omega)]
theorem mul_gi {d : Nat} (hd : 0 < d) (f : Ser) (n : Nat) : Cy.mul f (Cy.gi d) n = f n + (if n < d then 0 else Cy.mul f (Cy.gi d) (n - d)) := by
  have h := Cy.mul_xp d (Cy.mul f (Cy.gi d)) n
  rw [Cy.mul_assoc, Cy.xp_gi hd, Cy.mul_one] at h
  omega
theorem dn_all {S d : Nat} (f g : Ser) (h : ∀ c, c < d → g c = f c) {i : Nat} (hi : i < d) : dn S f g i = tab S fun c => wr (g c) := tab_congr fun c _ => by
  by_cases e : i < c
  · rw [if_pos e]
  · rw [if_neg e, h c (by omega)]
theorem dn_none {S : Nat} (f g : Ser) : (tab S fun c => wr (f c)) = dn S f g (S - 1) := tab_congr fun c hc => by rw [if_neg (by omega)]
theorem dn_step {S : Nat} (f g : Ser) {i : Nat} (h : 0 < i) : (dn S f g i).set i (wr (g i)) = dn S f g (i - 1) := by
  unfold dn
  rw [tab_set]
  refine tab_congr fun c _ => ?_
  by_cases e : c = i
  · subst e; rw [if_pos rfl, if_pos (by omega)]
  · rw [if_neg e]
    by_cases e2 : i < c
    · rw [if_pos e2, if_pos (by omega)]
    · rw [if_neg e2, if_neg (by omega)]
theorem up_none {S d : Nat} (f g : Ser) (h : ∀ c, c < d → g c = f c) : (tab S fun c => wr (f c)) = up S f g d := tab_congr fun c hc => by
  by_cases e : c < d
  · rw [if_pos e, h c e]
  · rw [if_neg e]
theorem up_step {S : Nat} (f g : Ser) (i : Nat) : (up S f g i).set i (wr (g i)) = up S f g (i + 1) := by
  unfold up
  rw [tab_set]
  refine tab_congr fun c _ => ?_
  by_cases e : c = i
  · subst e; rw [if_pos rfl, if_pos (by omega)]
  · rw [if_neg e]
    by_cases e2 : c < i
    · rw [if_pos e2, if_pos (by omega)]
    · rw [if_neg e2, if_neg (by omega)]
theorem up_all {S : Nat} (f g : Ser) {i : Nat} (h : S ≤ i) : up S f g i = tab S fun c => wr (g c) := tab_congr fun c hc => by rw [if_pos (by omega)]

set_option maxHeartbeats 16000000 in
theorem cyclotomic_c (n : Nat) (h1 : 1 ≤ n) (h2 : n ≤ 1000000) : AFn Try.prog 39 [.i n] (IsInts 2 (phiW n)) := by
  (refine AFn.start Try.func39 Try.ntmps39 rfl (by kernel_rfl) fun hk => ?_; simp only [Env.start, enumF, List.length_cons, List.length_nil, Nat.reduceAdd, Nat.reduceSub, List.cons_append, List.nil_append])
  by_cases hn1 : n = 1
  · subst hn1
    have e1 := phiW_one
    repeat' (first | (apply AOps.nil; try simp only [List.nil_append, List.cons_append, List.set_cons_zero, List.set_cons_succ, List.length_cons, List.length_nil, Nat.reduceAdd, AV.sh, AV.sh1, AV.sh0, AO.sh, List.map_cons, List.map_nil, Nat.zero_add, Nat.add_zero, setAll]) | (apply w_move; exact rfl; exact rfl) | (apply w_assign; exact rfl; exact rfl) | apply AWp.seq | apply AWp.region | ((apply AWp.condP; exact rfl) <;> intro h) | apply AWp.ret | apply AWp.skip | omega | ((first | apply w_eql | apply w_bs2); iterate 3 exact rfl) | (apply inI_of <;> omega))
    exact ⟨_, _, _, .v1 Try.results39 rfl, .sli rfl, rfl, by rw [e1]⟩
  have ht := totient_c n h1 h2
  have tp := tot_pos (n := n) (by omega)
  obtain ⟨S, hS⟩ : ∃ S, S = tot n + 1 := ⟨_, rfl⟩
  have hS' : ((tot n : Nat) : Int) + 1 = (S : Int) := by omega
  have hrl : (List.replicate (S : Int).toNat (0 : Int)).length = S := by simp
  have hrl2 : ((List.replicate (S : Int).toNat (0 : Int)).set (Int.toNat 0) 1).length = S := by simp
  have hst : (List.replicate (S : Int).toNat (0 : Int)).set (Int.toNat 0) 1 = tab S fun c => wr (moL n 0 c) := by
    rw [Int.toNat_natCast]; exact start_one S (by omega)
  repeat' (first | (apply AOps.nil; try simp only [List.nil_append, List.cons_append, List.set_cons_zero, List.set_cons_succ, List.length_cons, List.length_nil, Nat.reduceAdd, AV.sh, AV.sh1, AV.sh0, AO.sh, List.map_cons, List.map_nil, Nat.zero_add, Nat.add_zero, setAll]) | (apply w_move; exact rfl; exact rfl) | (apply w_assign; exact rfl; exact rfl) | apply AWp.seq | apply AWp.region | ((apply AWp.condP; exact rfl) <;> intro h) | apply AWp.block | apply AWp.skip | (apply w_len; exact rfl; exact rfl; first | exact .ints _ | exact .intss _ | exact .sli rfl | exact .sls rfl | exact .slr rfl | exact .orow rfl | exact .nil) | (apply w_call (ht); exact rfl; exact rfl; focus ((repeat (first | exact im_nil | refine im_cons rfl (.val _) ?_)); done)) | (rw [hS']) | omega | ((first | apply w_eql | apply w_add | apply w_idx); iterate 3 exact rfl) | (apply w_idxo; exact rfl; exact rfl; (exact .sli rfl); exact rfl) | (apply w_mki; exact rfl; exact rfl; rotate_left 3; exact rfl; rotate_left 1) | (apply w_sti; exact rfl; exact rfl; rotate_left 1; exact rfl; rotate_left 2) | (apply inI_of <;> omega))
  refine AWp.loop (ι := Nat) (fun k => ⟨74, [(0, .i n), (3, .own 0), (4, .i S), (5, .i ((k : Int) + 1))]⟩) (fun k => [.sli 2 (tab S fun c => wr (moL n k c))]) (fun k => k ≤ n) (fun k => n - k) 0 (by omega) ⟨lee rfl (by (repeat (first | exact le_nil | refine le_eq rfl rfl ?_ | refine le_eq rfl (congrArg AV.i (by omega)) ?_))), by (repeat (first | exact lo_nil | refine lo_eq (congrArg (AO.sli _) (hst)) ?_)), rfl, rfl⟩ ?_
  rintro k k0
  by_cases hk : k < n
  · have hcast : ((n % (k + 1) : Nat) : Int) = (n : Int) % ((k : Int) + 1) := Int.natCast_emod n (k + 1)
    have hcast2 : ((n / (k + 1) : Nat) : Int) = (n : Int) / ((k : Int) + 1) := Int.natCast_ediv n (k + 1)
    have hml : moL n (k + 1) = if (k + 1) ∣ n then Cy.mul (moL n k) (Fs (k + 1) (mob (n / (k + 1)))) else moL n k := rfl
    have htl : (tab S fun c => wr (moL n k c)).length = S := tab_len _ _
    by_cases hd : n % (k + 1) = 0
    · have hdv : (k + 1) ∣ n := Nat.dvd_of_mod_eq_zero hd
      rw [if_pos hdv] at hml
      have q1 : 1 ≤ n / (k + 1) := Nat.div_pos (Nat.le_of_dvd (by omega) hdv) (by omega)
      have q2 : n / (k + 1) ≤ n := Nat.div_le_self _ _
      have hmb := mobius_c (n / (k + 1)) q1 (by omega)
      rw [hcast2] at hmb
      have hbd : 0 ≤ (n : Int) / ((k : Int) + 1) ∧ (n : Int) / ((k : Int) + 1) ≤ 1000000 := by omega
      rcases Cy.mob_in (n / (k + 1)) with e | e | e
      · rw [e] at hmb hml
        have hg : ∀ c, moL n (k + 1) c = moL n k c - (if c < k + 1 then 0 else moL n k (c - (k + 1))) := fun c => by
          rw [hml]
          have e1 : Fs (k + 1) 1 = Cy.neg (Cy.xp (k + 1)) := by simp [Fs]
          rw [e1, Cy.mul_xp]
        have hlo : ∀ c, c < k + 1 → moL n (k + 1) c = moL n k c := fun c hc => by rw [hg, if_pos hc]; omega
        have hs0 : (tab S fun c => wr (moL n k c)) = dn S (moL n k) (moL n (k + 1)) (S - 1) := dn_none _ _
        repeat' (first | (apply AOps.nil; try simp only [List.nil_append, List.cons_append, List.set_cons_zero, List.set_cons_succ, List.length_cons, List.length_nil, Nat.reduceAdd, AV.sh, AV.sh1, AV.sh0, AO.sh, List.map_cons, List.map_nil, Nat.zero_add, Nat.add_zero, setAll]) | (apply w_move; exact rfl; exact rfl) | (apply w_assign; exact rfl; exact rfl) | apply AWp.seq | apply AWp.region | ((apply AWp.condP; exact rfl) <;> intro h) | apply AWp.block | apply AWp.ret | apply AWp.exit | apply AWp.skip | (apply w_call (hmb); exact rfl; exact rfl; focus ((repeat (first | exact im_nil | refine im_cons rfl (.val _) ?_)); done)) | (exact False.elim (‹¬True› True.intro)) | omega | ((first | apply w_leq | apply w_eql | apply w_neq | apply w_sub); iterate 3 exact rfl) | (apply w_rem; exact rfl; exact rfl; exact rfl; (focus (omega; done)); (focus (omega; done))) | (apply w_quo; exact rfl; exact rfl; exact rfl; (focus (omega; done)); (focus (omega; done))) | (apply inI_of <;> omega))
        refine AWp.loop (ι := Nat) (fun i => ⟨74, [(0, .i n), (3, .own 0), (4, .i S), (5, .i ((k : Int) + 1)), (6, .i i)]⟩) (fun i => [.sli 2 (dn S (moL n k) (moL n (k + 1)) i)]) (fun i => i < S ∧ (k ≤ i ∨ i = S - 1)) (fun i => i) (S - 1) ⟨by omega, by omega⟩ ⟨lee rfl (by (repeat (first | exact le_nil | refine le_eq rfl rfl ?_ | refine le_eq rfl (congrArg AV.i (by omega)) ?_))), by (repeat (first | exact lo_nil | refine lo_eq (congrArg (AO.sli _) (hs0)) ?_)), rfl, rfl⟩ ?_
        rintro i ⟨i1, i2⟩
        have hdl : (dn S (moL n k) (moL n (k + 1)) i).length = S := tab_len _ _
        by_cases hi : k + 1 ≤ i
        · have r1 : geti (dn S (moL n k) (moL n (k + 1)) i) (((i : Int).toNat : Nat) : Int) = wr (moL n k i) := by
            rw [Int.toNat_natCast]; unfold dn; rw [tab_get _ i1, if_neg (by omega)]
          have r2 : geti (dn S (moL n k) (moL n (k + 1)) i) ((((i : Int) - ((k : Int) + 1)).toNat : Nat) : Int) = wr (moL n k (i - (k + 1))) := by
            rw [show ((i : Int) - ((k : Int) + 1)).toNat = i - (k + 1) by omega]; unfold dn; rw [tab_get _ (by omega), if_neg (by omega)]
          have hs : (dn S (moL n k) (moL n (k + 1)) i).set (i : Int).toNat (wr (geti (dn S (moL n k) (moL n (k + 1)) i) (((i : Int).toNat : Nat) : Int) - geti (dn S (moL n k) (moL n (k + 1)) i) ((((i : Int) - ((k : Int) + 1)).toNat : Nat) : Int))) = dn S (moL n k) (moL n (k + 1)) (i - 1) := by
            have e2 := hg i
            rw [if_neg (by omega)] at e2
            rw [r1, r2, wr_sub, ← e2, Int.toNat_natCast]
            exact dn_step _ _ (by omega)
          repeat' (first | (apply AOps.nil; try simp only [List.nil_append, List.cons_append, List.set_cons_zero, List.set_cons_succ, List.length_cons, List.length_nil, Nat.reduceAdd, AV.sh, AV.sh1, AV.sh0, AO.sh, List.map_cons, List.map_nil, Nat.zero_add, Nat.add_zero, setAll]) | (apply w_move; exact rfl; exact rfl) | apply AWp.seq | apply AWp.region | ((apply AWp.condP; exact rfl) <;> intro h) | apply AWp.block | apply AWp.exit | apply AWp.skip | omega | ((apply w_geq); iterate 3 exact rfl))
          refine AWp.regionA (by kernel_rfl) (envC := ⟨74, [(0, .i n), (3, .own 0), (4, .i S), (5, .i ((k : Int) + 1)), (6, .i i)]⟩) (osC := [.sli 2 (dn S (moL n k) (moL n (k + 1)) (i - 1))]) rfl rfl ?_ ?_
          · rw [← hs]
            repeat' (first | (apply AOps.nil; try simp only [List.nil_append, List.cons_append, List.set_cons_zero, List.set_cons_succ, List.length_cons, List.length_nil, Nat.reduceAdd, AV.sh, AV.sh1, AV.sh0, AO.sh, List.map_cons, List.map_nil, Nat.zero_add, Nat.add_zero, setAll]) | (apply w_move; exact rfl; exact rfl) | ((apply w_subw (d := 51)); exact rfl; exact rfl; exact rfl) | exact wr_in _ | omega | ((first | apply w_sub | apply w_idx | apply w_ld); iterate 3 exact rfl) | (apply w_idxo; exact rfl; exact rfl; (exact .sli rfl); exact rfl) | (apply w_ldo; iterate 4 exact rfl) | (apply w_sti; exact rfl; exact rfl; rotate_left 1; exact rfl; rotate_left 2) | apply AllOf.nil | (apply AllOf.cons; exact rfl) | (apply AAny.take; exact rfl; exact rfl; kernel_rfl; kernel_rfl) | (apply AAny.all; exact rfl) | (apply AAny.done; exact rfl) | (apply inI_of <;> omega))
            all_goals (apply Or.inl; refine ⟨lee rfl ?_, ?_, rfl, rfl⟩; (focus ((repeat (first | exact le_nil | refine le_eq rfl rfl ?_)); done)); (focus ((repeat (first | exact lo_nil | refine lo_eq rfl ?_)); done)))
          repeat' (first | (apply AOps.nil; try simp only [List.nil_append, List.cons_append, List.set_cons_zero, List.set_cons_succ, List.length_cons, List.length_nil, Nat.reduceAdd, AV.sh, AV.sh1, AV.sh0, AO.sh, List.map_cons, List.map_nil, Nat.zero_add, Nat.add_zero, setAll]) | (apply w_move; exact rfl; exact rfl) | (apply w_assign; exact rfl; exact rfl) | apply AWp.region | ((apply w_sub); iterate 3 exact rfl) | (apply inI_of <;> omega))
          exact ⟨i - 1, ⟨by omega, by omega⟩, by omega, ⟨lee rfl (by (repeat (first | exact le_nil | refine le_eq rfl rfl ?_ | refine le_eq rfl (congrArg AV.i (by omega)) ?_))), by (repeat (first | exact lo_nil | refine lo_eq rfl ?_)), rfl, rfl⟩⟩
        · have hend : dn S (moL n k) (moL n (k + 1)) i = tab S fun c => wr (moL n (k + 1) c) := dn_all _ _ hlo (by omega)
          repeat' (first | (apply AOps.nil; try simp only [List.nil_append, List.cons_append, List.set_cons_zero, List.set_cons_succ, List.length_cons, List.length_nil, Nat.reduceAdd, AV.sh, AV.sh1, AV.sh0, AO.sh, List.map_cons, List.map_nil, Nat.zero_add, Nat.add_zero, setAll]) | (apply w_move; exact rfl; exact rfl) | (apply w_assign; exact rfl; exact rfl) | apply AWp.seq | apply AWp.region | ((apply AWp.condP; exact rfl) <;> intro h) | apply AWp.block | apply AWp.exit | apply AWp.skip | omega | ((first | apply w_geq | apply w_add); iterate 3 exact rfl) | (apply inI_of <;> omega))
          exact ⟨k + 1, hk, by omega, ⟨lee rfl (by (repeat (first | exact le_nil | refine le_eq rfl rfl ?_))), by (repeat (first | exact lo_nil | refine lo_eq (congrArg (AO.sli _) (hend)) ?_)), rfl, rfl⟩⟩
      · rw [e] at hmb hml
        have hz : moL n (k + 1) = moL n k := by rw [hml, Cy.Fs_zero, Cy.mul_one]
        repeat' (first | (apply AOps.nil; try simp only [List.nil_append, List.cons_append, List.set_cons_zero, List.set_cons_succ, List.length_cons, List.length_nil, Nat.reduceAdd, AV.sh, AV.sh1, AV.sh0, AO.sh, List.map_cons, List.map_nil, Nat.zero_add, Nat.add_zero, setAll]) | (apply w_move; exact rfl; exact rfl) | (apply w_assign; exact rfl; exact rfl) | apply AWp.seq | apply AWp.region | ((apply AWp.condP; exact rfl) <;> intro h) | apply AWp.block | apply AWp.ret | apply AWp.exit | apply AWp.skip | (apply w_call (hmb); exact rfl; exact rfl; focus ((repeat (first | exact im_nil | refine im_cons rfl (.val _) ?_)); done)) | omega | ((first | apply w_leq | apply w_eql | apply w_neq | apply w_add); iterate 3 exact rfl) | (apply w_rem; exact rfl; exact rfl; exact rfl; (focus (omega; done)); (focus (omega; done))) | (apply w_quo; exact rfl; exact rfl; exact rfl; (focus (omega; done)); (focus (omega; done))) | (apply inI_of <;> omega))
        exact ⟨k + 1, hk, by omega, by rw [hz]; exact ⟨lee rfl (by (repeat (first | exact le_nil | refine le_eq rfl rfl ?_))), by (repeat (first | exact lo_nil | refine lo_eq rfl ?_)), rfl, rfl⟩⟩
      · rw [e] at hmb hml
        have hg : ∀ c, moL n (k + 1) c = moL n k c + (if c < k + 1 then 0 else moL n (k + 1) (c - (k + 1))) := fun c => by
          rw [hml]
          have e1 : Fs (k + 1) (-1) = Cy.gi (k + 1) := by simp [Fs]
          rw [e1]
          exact mul_gi (by omega) _ c
        have hlo : ∀ c, c < k + 1 → moL n (k + 1) c = moL n k c := fun c hc => by rw [hg, if_pos hc]; omega
        have hs0 : (tab S fun c => wr (moL n k c)) = up S (moL n k) (moL n (k + 1)) (k + 1) := up_none _ _ hlo
        repeat' (first | (apply AOps.nil; try simp only [List.nil_append, List.cons_append, List.set_cons_zero, List.set_cons_succ, List.length_cons, List.length_nil, Nat.reduceAdd, AV.sh, AV.sh1, AV.sh0, AO.sh, List.map_cons, List.map_nil, Nat.zero_add, Nat.add_zero, setAll]) | (apply w_move; exact rfl; exact rfl) | (apply w_assign; exact rfl; exact rfl) | apply AWp.seq | apply AWp.region | ((apply AWp.condP; exact rfl) <;> intro h) | apply AWp.block | apply AWp.ret | apply AWp.exit | apply AWp.skip | (apply w_call (hmb); exact rfl; exact rfl; focus ((repeat (first | exact im_nil | refine im_cons rfl (.val _) ?_)); done)) | (exact False.elim (‹¬True› True.intro)) | omega | ((first | apply w_leq | apply w_eql | apply w_neq); iterate 3 exact rfl) | (apply w_rem; exact rfl; exact rfl; exact rfl; (focus (omega; done)); (focus (omega; done))) | (apply w_quo; exact rfl; exact rfl; exact rfl; (focus (omega; done)); (focus (omega; done))) | (apply inI_of <;> omega))
        refine AWp.loop (ι := Nat) (fun i => ⟨74, [(0, .i n), (3, .own 0), (4, .i S), (5, .i ((k : Int) + 1)), (7, .i i)]⟩) (fun i => [.sli 2 (up S (moL n k) (moL n (k + 1)) i)]) (fun i => k + 1 ≤ i ∧ (i ≤ S ∨ i = k + 1)) (fun i => S - i) (k + 1) ⟨by omega, by omega⟩ ⟨lee rfl (by (repeat (first | exact le_nil | refine le_eq rfl rfl ?_))), by (repeat (first | exact lo_nil | refine lo_eq (congrArg (AO.sli _) (hs0)) ?_)), rfl, rfl⟩ ?_
        rintro i ⟨i1, i2⟩
        have hdl : (up S (moL n k) (moL n (k + 1)) i).length = S := tab_len _ _
        by_cases hi : i < S
        · have r1 : geti (up S (moL n k) (moL n (k + 1)) i) (((i : Int).toNat : Nat) : Int) = wr (moL n k i) := by
            rw [Int.toNat_natCast]; unfold up; rw [tab_get _ hi, if_neg (by omega)]
          have r2 : geti (up S (moL n k) (moL n (k + 1)) i) ((((i : Int) - ((k : Int) + 1)).toNat : Nat) : Int) = wr (moL n (k + 1) (i - (k + 1))) := by
            rw [show ((i : Int) - ((k : Int) + 1)).toNat = i - (k + 1) by omega]; unfold up; rw [tab_get _ (by omega), if_pos (by omega)]
          have hs : (up S (moL n k) (moL n (k + 1)) i).set (i : Int).toNat (wr (geti (up S (moL n k) (moL n (k + 1)) i) (((i : Int).toNat : Nat) : Int) + geti (up S (moL n k) (moL n (k + 1)) i) ((((i : Int) - ((k : Int) + 1)).toNat : Nat) : Int))) = up S (moL n k) (moL n (k + 1)) (i + 1) := by
            have e2 := hg i
            rw [if_neg (by omega)] at e2
            rw [r1, r2, wr_add, ← e2, Int.toNat_natCast]
            exact up_step _ _ i
          repeat' (first | (apply AOps.nil; try simp only [List.nil_append, List.cons_append, List.set_cons_zero, List.set_cons_succ, List.length_cons, List.length_nil, Nat.reduceAdd, AV.sh, AV.sh1, AV.sh0, AO.sh, List.map_cons, List.map_nil, Nat.zero_add, Nat.add_zero, setAll]) | (apply w_move; exact rfl; exact rfl) | apply AWp.seq | apply AWp.region | ((apply AWp.condP; exact rfl) <;> intro h) | apply AWp.block | apply AWp.exit | apply AWp.skip | omega | ((apply w_lss); iterate 3 exact rfl))
          refine AWp.regionA (by kernel_rfl) (envC := ⟨74, [(0, .i n), (3, .own 0), (4, .i S), (5, .i ((k : Int) + 1)), (7, .i i)]⟩) (osC := [.sli 2 (up S (moL n k) (moL n (k + 1)) (i + 1))]) rfl rfl ?_ ?_
          · rw [← hs]
            repeat' (first | (apply AOps.nil; try simp only [List.nil_append, List.cons_append, List.set_cons_zero, List.set_cons_succ, List.length_cons, List.length_nil, Nat.reduceAdd, AV.sh, AV.sh1, AV.sh0, AO.sh, List.map_cons, List.map_nil, Nat.zero_add, Nat.add_zero, setAll]) | (apply w_move; exact rfl; exact rfl) | ((apply w_addw (d := 71)); exact rfl; exact rfl; exact rfl) | exact wr_in _ | omega | ((first | apply w_sub | apply w_idx | apply w_ld); iterate 3 exact rfl) | (apply w_idxo; exact rfl; exact rfl; (exact .sli rfl); exact rfl) | (apply w_ldo; iterate 4 exact rfl) | (apply w_sti; exact rfl; exact rfl; rotate_left 1; exact rfl; rotate_left 2) | apply AllOf.nil | (apply AllOf.cons; exact rfl) | (apply AAny.take; exact rfl; exact rfl; kernel_rfl; kernel_rfl) | (apply AAny.all; exact rfl) | (apply AAny.done; exact rfl) | (apply inI_of <;> omega))
            all_goals (apply Or.inl; refine ⟨lee rfl ?_, ?_, rfl, rfl⟩; (focus ((repeat (first | exact le_nil | refine le_eq rfl rfl ?_)); done)); (focus ((repeat (first | exact lo_nil | refine lo_eq rfl ?_)); done)))
          repeat' (first | (apply AOps.nil; try simp only [List.nil_append, List.cons_append, List.set_cons_zero, List.set_cons_succ, List.length_cons, List.length_nil, Nat.reduceAdd, AV.sh, AV.sh1, AV.sh0, AO.sh, List.map_cons, List.map_nil, Nat.zero_add, Nat.add_zero, setAll]) | (apply w_move; exact rfl; exact rfl) | (apply w_assign; exact rfl; exact rfl) | apply AWp.region | ((apply w_add); iterate 3 exact rfl) | (apply inI_of <;> omega))
          exact ⟨i + 1, ⟨by omega, by omega⟩, by omega, ⟨lee rfl (by (repeat (first | exact le_nil | refine le_eq rfl rfl ?_))), by (repeat (first | exact lo_nil | refine lo_eq rfl ?_)), rfl, rfl⟩⟩
        · have hend : up S (moL n k) (moL n (k + 1)) i = tab S fun c => wr (moL n (k + 1) c) := up_all _ _ (by omega)
          repeat' (first | (apply AOps.nil; try simp only [List.nil_append, List.cons_append, List.set_cons_zero, List.set_cons_succ, List.length_cons, List.length_nil, Nat.reduceAdd, AV.sh, AV.sh1, AV.sh0, AO.sh, List.map_cons, List.map_nil, Nat.zero_add, Nat.add_zero, setAll]) | (apply w_move; exact rfl; exact rfl) | (apply w_assign; exact rfl; exact rfl) | apply AWp.seq | apply AWp.region | ((apply AWp.condP; exact rfl) <;> intro h) | apply AWp.block | apply AWp.exit | apply AWp.skip | omega | ((first | apply w_lss | apply w_add); iterate 3 exact rfl) | (apply inI_of <;> omega))
          exact ⟨k + 1, hk, by omega, ⟨lee rfl (by (repeat (first | exact le_nil | refine le_eq rfl rfl ?_))), by (repeat (first | exact lo_nil | refine lo_eq (congrArg (AO.sli _) (hend)) ?_)), rfl, rfl⟩⟩
    · have hz : moL n (k + 1) = moL n k := by rw [hml, if_neg (fun h => hd (Nat.mod_eq_zero_of_dvd h))]
      repeat' (first | (apply AOps.nil; try simp only [List.nil_append, List.cons_append, List.set_cons_zero, List.set_cons_succ, List.length_cons, List.length_nil, Nat.reduceAdd, AV.sh, AV.sh1, AV.sh0, AO.sh, List.map_cons, List.map_nil, Nat.zero_add, Nat.add_zero, setAll]) | (apply w_move; exact rfl; exact rfl) | (apply w_assign; exact rfl; exact rfl) | apply AWp.seq | apply AWp.region | ((apply AWp.condP; exact rfl) <;> intro h) | apply AWp.block | apply AWp.ret | apply AWp.exit | apply AWp.skip | omega | ((first | apply w_leq | apply w_neq | apply w_add); iterate 3 exact rfl) | (apply w_rem; exact rfl; exact rfl; exact rfl; (focus (omega; done)); (focus (omega; done))) | (apply inI_of <;> omega))
      exact ⟨k + 1, hk, by omega, by rw [hz]; exact ⟨lee rfl (by (repeat (first | exact le_nil | refine le_eq rfl rfl ?_))), by (repeat (first | exact lo_nil | refine lo_eq rfl ?_)), rfl, rfl⟩⟩
  · have e : k = n := by omega
    subst e
    repeat' (first | (apply AOps.nil; try simp only [List.nil_append, List.cons_append, List.set_cons_zero, List.set_cons_succ, List.length_cons, List.length_nil, Nat.reduceAdd, AV.sh, AV.sh1, AV.sh0, AO.sh, List.map_cons, List.map_nil, Nat.zero_add, Nat.add_zero, setAll]) | (apply w_move; exact rfl; exact rfl) | (apply w_assign; exact rfl; exact rfl) | apply AWp.seq | apply AWp.region | ((apply AWp.condP; exact rfl) <;> intro h) | apply AWp.block | apply AWp.ret | apply AWp.exit | apply AWp.skip | omega | ((apply w_leq); iterate 3 exact rfl))
    refine ⟨_, _, _, .v1 Try.results39 rfl, .sli rfl, rfl, ?_⟩
    unfold phiW
    rw [Cy.moL_all (by omega), hS]
end Go.Proofs.Ytkcbihmpjkkccaa
