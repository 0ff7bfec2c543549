/-
  A struct of one own slice of rows behind a pointer, as one object; functions that write to it in its place. No condition.
-/
import Derived.Test.YtpllbdjobmgikaaAmMore10
import Derived.Test.YtpllbdjobmgikaaAmMore18
import Derived.Test.YtpllbdjobmgikaaAmMore20
namespace Go.Proofs.Ytpllbdjobmgikaa
open Go Go.RowKit
set_option linter.unusedVariables false

def CntP (T e e2 : TypeId) (L : List (List Int)) (base : Nat) (w : World) (g : Gh) : Prop :=
  ∃ p : Gh, w.heap[g.b]? = some (.cells #[p.v] T (0, 0)) ∧ base ≤ g.b ∧ g.v = .pointer (some ⟨g.b, 0, none⟩) ∧ PartP e e2 L base w p ∧ g.bl = g.b :: p.bl ∧ g.b ∉ p.bl
def cntOb (T e e2 : TypeId) (L : List (List Int)) : Ob where
  p := CntP T e e2 L
  up {base w w' g} hb h := by
    obtain ⟨p, a1, a2, a3, a4, a5, a6⟩ := h
    exact ⟨p, by rw [hb g.b (by rw [a5]; simp)]; exact a1, a2, a3, a4.up fun b hbb => hb b (by rw [a5]; simp [hbb]), a5, a6⟩
  lower hl h := by
    obtain ⟨p, a1, a2, a3, a4, a5, a6⟩ := h
    exact ⟨p, a1, Nat.le_trans hl a2, a3, a4.lower hl, a5, a6⟩
  one h := by
    obtain ⟨p, a1, a2, a3, _⟩ := h
    rw [a3]; exact ⟨rfl, rfl⟩

theorem RO.via {base : Nat} {w : World} {ok ok' : Nat → Prop} {gs gs' : List Gh} {x : Gh} {z : AO} {h : Nat} (hz : RO base w ok gs x z) (kp : Keeps ok ok' w w) (sv : SameV h gs gs') : RO base w ok' gs' x (z.via (AV.noRow h) h) := by
  cases z with
  | ob q => exact hz
  | dead => trivial
  | sli e xs => exact hz
  | sls e e2 xss => exact hz
  | bx T avs =>
    obtain ⟨cs, h1, h2, h3, h4, h5, h6, h7⟩ := hz
    exact ⟨cs, h1, h2, h3, h4, by simpa using h5, h6, fun j => by rw [getD_map_f _ rfl]; exact (h7 j).noRow kp sv⟩
  | slr e avs =>
    obtain ⟨vs, h1, h2, h3, h4⟩ := hz
    exact ⟨vs, h1, by simpa using h2, fun j => by rw [getD_map_f _ rfl]; exact (h3 j).noRow kp sv, h4⟩
  | keep n K =>
    obtain ⟨h1, h2, h3⟩ := hz
    simp only [AO.via]
    split
    · exact ⟨h1, rfl, fun i x hx => by simp at hx⟩
    · refine ⟨h1, h2, fun i y hy => ?_⟩
      have := (List.getElem?_eq_some_iff.1 hy).1
      exact sv.other i y (by omega) (h3 i y hy)

set_option maxHeartbeats 1000000 in
theorem Turns.split {env : Env} {os : List AO} {h m : Nat} {T e e2 : TypeId} {L : List (List Int)} (hs : os[h]? = some (.ob (cntOb T e e2 L))) (hm : os.length = m) :
    Turns env os (env.mp (AV.noRow h)) (((os.map (AO.via (AV.noRow h) h)).set h (.bx T [.own m])) ++ [.sls e e2 L]) := by
  subst hm
  intro base w gs tm hr
  have hlt : h < os.length := (List.getElem?_eq_some_iff.1 hs).1
  have hgl : h < gs.length := by rw [hr.hl]; exact hlt
  obtain ⟨gh, hg⟩ : ∃ x, gs[h]? = some x := ⟨_, List.getElem?_eq_getElem hgl⟩
  obtain ⟨p, a1, a2, a3, a4, a5, a6⟩ := hr.ho _ _ _ hg hs
  let g' : Gh := ⟨gh.v, gh.b, [gh.b], []⟩
  have hgn := hr.hn _ _ _ hg hs (by simp)
  have sub1 : ∀ b, b ∈ g'.bl → b ∈ gh.bl := fun b hb => by rw [a5]; simp [g'] at hb; simp [hb]
  have sub2 : ∀ b, b ∈ p.bl → b ∈ gh.bl := fun b hb => by rw [a5]; simp [hb]
  have sv : SameV h gs (gs.set h g' ++ [p]) := by
    refine ⟨fun j z hj hz => ?_, fun z hz => ⟨g', ?_, ?_⟩⟩
    · have := (List.getElem?_eq_some_iff.1 hz).1
      rw [List.getElem?_append_left (by rw [List.length_set]; exact this), List.getElem?_set, if_neg (fun e => hj e.symm)]; exact hz
    · rw [List.getElem?_append_left (by rw [List.length_set]; exact hgl), List.getElem?_set_self hgl]
    · rw [hg] at hz; cases hz; exact ⟨rfl, rfl⟩
  have gget : ∀ {i : Nat} {x : Gh}, (gs.set h g' ++ [p])[i]? = some x → (i = h ∧ x = g') ∨ (i ≠ h ∧ i < gs.length ∧ gs[i]? = some x) ∨ (i = gs.length ∧ x = p) := by
    intro i x hx
    rcases Nat.lt_or_ge i gs.length with hi | hi
    · rw [List.getElem?_append_left (by rw [List.length_set]; exact hi), List.getElem?_set] at hx
      split at hx
      · subst_vars; simp at hx; exact .inl ⟨rfl, hx.symm⟩
      · exact .inr (.inl ⟨fun e => by simp_all, hi, hx⟩)
    · have h2 := (List.getElem?_eq_some_iff.1 hx).1
      simp at h2
      have : i = gs.length := by omega
      subst this
      rw [List.getElem?_append_right (by simp)] at hx
      simp at hx
      exact .inr (.inr ⟨rfl, hx.symm⟩)
  have oget : ∀ {i : Nat} {y : AO}, (((os.map (AO.via (AV.noRow h) h)).set h (.bx T [.own os.length])) ++ [AO.sls e e2 L])[i]? = some y → (i = h ∧ y = .bx T [.own os.length]) ∨ (i ≠ h ∧ i < os.length ∧ ∃ z, os[i]? = some z ∧ y = z.via (AV.noRow h) h) ∨ (i = os.length ∧ y = .sls e e2 L) := by
    intro i y hy
    rcases Nat.lt_or_ge i os.length with hi | hi
    · rw [List.getElem?_append_left (by simpa using hi), List.getElem?_set] at hy
      split at hy
      · subst_vars; simp [hi] at hy; exact .inl ⟨rfl, hy.symm⟩
      · refine .inr (.inl ⟨fun e => by simp_all, hi, ?_⟩)
        rw [List.getElem?_map] at hy
        cases hz : os[i]? with
        | none => simp [hz] at hy
        | some z => simp [hz] at hy; exact ⟨z, rfl, hy.symm⟩
    · have h2 := (List.getElem?_eq_some_iff.1 hy).1
      simp at h2
      have : i = os.length := by omega
      subst this
      rw [List.getElem?_append_right (by simp)] at hy
      simp at hy
      exact .inr (.inr ⟨rfl, hy.symm⟩)
  have kp : Keeps (okOf gs os) (okOf (gs.set h g' ++ [p]) (((os.map (AO.via (AV.noRow h) h)).set h (.bx T [.own os.length])) ++ [AO.sls e e2 L])) w w := by
    intro b hb _
    refine ⟨fun i x y hx hy hny hm => ?_, rfl⟩
    rcases gget hx with ⟨_, rfl⟩ | ⟨h1, h2, h3⟩ | ⟨_, rfl⟩
    · exact hb h gh _ hg hs trivial (sub1 b hm)
    · rcases oget hy with ⟨h4, _⟩ | ⟨_, _, z, hz, rfl⟩ | ⟨h4, _⟩
      · exact h1 h4
      · exact hb i x z h3 hz (AO.via_live.1 hny) hm
      · rw [← hr.hl] at h4; omega
    · exact hb h gh _ hg hs trivial (sub2 b hm)
  have hl := hr.hl
  refine ⟨gs.set h g' ++ [p], hr.hb, by simp [hl], hr.hs, fun i => by rw [Env.lk_mp _ rfl]; exact (hr.he i).noRow kp sv, ?_, ?_, ?_⟩
  · intro i x y hx hy
    rcases oget hy with ⟨rfl, rfl⟩ | ⟨h1, h2, z, hz, rfl⟩ | ⟨rfl, rfl⟩
    · rcases gget hx with ⟨_, rfl⟩ | ⟨h1, _⟩ | ⟨h1, _⟩
      · refine ⟨[p.v], a1, a2, rfl, a3, rfl, fun c hc => by simp at hc; subst hc; exact a4.one.1, fun j => ?_⟩
        match j with
        | 0 => exact .own (by rw [← hl]; simp)
        | j + 1 => exact .any _
      · exact absurd rfl h1
      · omega
    · rcases gget hx with ⟨h4, _⟩ | ⟨_, _, h3⟩ | ⟨h4, _⟩
      · exact absurd h4 h1
      · exact RO.via (hr.ho i x z h3 hz) kp sv
      · omega
    · rcases gget hx with ⟨h4, _⟩ | ⟨_, h4, _⟩ | ⟨_, rfl⟩
      · omega
      · omega
      · exact a4.ro
  · intro i j x y o1 o2 hij hx hy ho1 ho2 hn1 hn2 b hb1 hb2
    have olive : ∀ {i : Nat} {y : AO}, i ≠ h → i < gs.length → (((os.map (AO.via (AV.noRow h) h)).set h (.bx T [.own os.length])) ++ [AO.sls e e2 L])[i]? = some y → y ≠ .dead → ∃ z, os[i]? = some z ∧ z ≠ .dead := by
      intro i y h1 h2 hy hny
      rcases oget hy with ⟨h4, _⟩ | ⟨_, _, z, hz, rfl⟩ | ⟨h4, _⟩
      · exact absurd h4 h1
      · exact ⟨z, hz, fun e => hny (AO.via_dead.2 e)⟩
      · omega
    rcases gget hx with ⟨rfl, rfl⟩ | ⟨h1, h2, h3⟩ | ⟨rfl, rfl⟩
    · rcases gget hy with ⟨rfl, rfl⟩ | ⟨k1, k2, k3⟩ | ⟨rfl, rfl⟩
      · exact hij rfl
      · obtain ⟨z, hz, hzn⟩ := olive k1 k2 ho2 hn2
        exact hr.hd _ _ gh y _ z (fun e => k1 e.symm) hg k3 hs hz (by simp) hzn b (sub1 b hb1) hb2
      · simp [g'] at hb1; subst hb1; exact a6 hb2
    · obtain ⟨z, hz, hzn⟩ := olive h1 h2 ho1 hn1
      rcases gget hy with ⟨rfl, rfl⟩ | ⟨k1, k2, k3⟩ | ⟨rfl, rfl⟩
      · exact hr.hd _ _ x gh z _ h1 h3 hg hz hs hzn (by simp) b hb1 (sub1 b hb2)
      · obtain ⟨z2, hz2, hzn2⟩ := olive k1 k2 ho2 hn2
        exact hr.hd i j x y z z2 hij h3 k3 hz hz2 hzn hzn2 b hb1 hb2
      · exact hr.hd _ _ x gh z _ h1 h3 hg hz hs hzn (by simp) b hb1 (sub2 b hb2)
    · rcases gget hy with ⟨rfl, rfl⟩ | ⟨k1, k2, k3⟩ | ⟨rfl, rfl⟩
      · simp [g'] at hb2; subst hb2; exact a6 hb1
      · obtain ⟨z, hz, hzn⟩ := olive k1 k2 ho2 hn2
        exact hr.hd _ _ gh y _ z (fun e => k1 e.symm) hg k3 hs hz (by simp) hzn b (sub2 b hb1) hb2
      · exact hij rfl
  · intro i x y hx hy hny b hb
    rcases gget hx with ⟨rfl, rfl⟩ | ⟨h1, h2, h3⟩ | ⟨rfl, rfl⟩
    · exact hgn b (sub1 b hb)
    · rcases oget hy with ⟨h4, _⟩ | ⟨_, _, z, hz, rfl⟩ | ⟨h4, _⟩
      · exact absurd h4 h1
      · exact hr.hn i x z h3 hz (fun e => hny (AO.via_dead.2 e)) b hb
      · omega
    · exact hgn b (sub2 b hb)

theorem Turns.join {env : Env} {os : List AO} {h k : Nat} {T e e2 : TypeId} {L : List (List Int)} (hs : os[h]? = some (.bx T [.own k])) (hk : os[k]? = some (.sls e e2 L)) (hhk : (h == k) = false) :
    Turns env os (env.mp (AV.noRow h)) (((os.map (AO.via (AV.noRow h) h)).set h (.ob (cntOb T e e2 L))).set k .dead) := by
  have hne : h ≠ k := by simpa using hhk
  intro base w gs tm hr
  have hgl : h < gs.length := by rw [hr.hl]; exact (List.getElem?_eq_some_iff.1 hs).1
  have hkl : k < gs.length := by rw [hr.hl]; exact (List.getElem?_eq_some_iff.1 hk).1
  obtain ⟨gh, hg⟩ : ∃ x, gs[h]? = some x := ⟨_, List.getElem?_eq_getElem hgl⟩
  obtain ⟨gk, hgk⟩ : ∃ x, gs[k]? = some x := ⟨_, List.getElem?_eq_getElem hkl⟩
  obtain ⟨cs, c1, c2, c3, c4, c5, c6, c7⟩ := hr.ho _ _ _ hg hs
  have hpk : PartP e e2 L base w gk := PartP.of (hr.ho _ _ _ hgk hk)
  match cs, c5 with
  | [c0], _ =>
  have h0 := c7 0
  simp only [List.getD_cons_zero] at h0
  have e0 : c0 = gk.v := by
    cases h0 with
    | own hh => rw [hgk] at hh; cases hh; rfl
  subst e0
  let g' : Gh := ⟨gh.v, gh.b, gh.b :: gk.bl, []⟩
  have hbn := hr.hn _ _ _ hg hs (by simp)
  have hkn := hr.hn _ _ _ hgk hk (by simp)
  have sv : SameV h gs (gs.set h g') := by
    refine ⟨fun j z hj hz => ?_, fun z hz => ⟨g', by simp [hgl], ?_⟩⟩
    · rw [List.getElem?_set, if_neg (fun e => hj e.symm)]; exact hz
    · rw [hg] at hz; cases hz; exact ⟨rfl, rfl⟩
  refine ⟨gs.set h g', hr.absorb hg hs trivial hgk hk trivial hne g' _ (AV.noRow h) rfl (fun _ _ _ => rfl) (Nat.le_refl _) ?_ (fun kp hv => hv.noRow kp sv) (fun _ => ?_)⟩
  · intro b hb
    simp only [g', List.mem_cons] at hb
    rcases hb with rfl | hb
    · have : gh.b ∈ gh.bl := by rw [c3]; simp
      exact ⟨.inl this, (hbn _ this).2⟩
    · exact ⟨.inr (.inl hb), (hkn b hb).2⟩
  · refine ⟨gk, c1, c2, c4, hpk, rfl, fun hm => ?_⟩
    exact hr.hd k h gk gh _ _ (fun e => hne e.symm) hgk hg hk hs (by simp) (by simp) gh.b hm (by rw [c3]; simp)
theorem Turns.joinNil {env : Env} {os : List AO} {h : Nat} {T : TypeId} (e e2 : TypeId) (hs : os[h]? = some (.bx T [.val (.slice none 0 0)])) : Turns env os env (os.set h (.ob (cntOb T e e2 []))) := by
  intro base w gs tm hr
  have hgl : h < gs.length := by rw [hr.hl]; exact (List.getElem?_eq_some_iff.1 hs).1
  obtain ⟨gh, hg⟩ : ∃ x, gs[h]? = some x := ⟨_, List.getElem?_eq_getElem hgl⟩
  obtain ⟨cs, c1, c2, c3, c4, c5, c6, c7⟩ := hr.ho _ _ _ hg hs
  match cs, c5 with
  | [c0], _ =>
  have h0 := c7 0
  simp only [List.getD_cons_zero] at h0
  have e0 : c0 = .slice none 0 0 := by cases h0; rfl
  subst e0
  refine ⟨gs, hr.upd hg hs trivial _ trivial (fun _ _ _ => rfl) (Nat.le_refl _) fun _ => ?_⟩
  exact ⟨⟨.slice none 0 0, 0, [], []⟩, c1, c2, c4, ⟨[], [], [], World.ownsRow_nil _ _ _ _, rfl, rfl, rfl, fun i u hu => by simp at hu, .inl ⟨rfl, rfl⟩, rfl, by simp⟩, c3, by simp⟩
theorem AWp.turns {P : Program} {c : Code} {N : APost} {X : Nat → APost} {R : APost} {env env' : Env} {os os' : List AO} (ht : Turns env os env' os') (h : AWp P c N X R env' os') : AWp P c N X R env os := by
  intro base w0 w gs tm hr hb
  obtain ⟨gs', hr'⟩ := ht _ _ _ _ hr
  exact h base w0 w gs' tm hr' hb
theorem AOps.turns {P : Program} {l rest : List Oper} {K : APost} {env env' : Env} {os os' : List AO} (ht : Turns env os env' os') (h : AOps P .seq l rest K env' os') : AOps P .seq l rest K env os := by
  intro base w0 w gs tm hr hb X Rt
  obtain ⟨gs', hr'⟩ := ht _ _ _ _ hr
  exact h base w0 w gs' tm hr' hb X Rt

/-! ### Functions that are handed the pointer -/
def AFnP (P : Program) (f : FuncId) (as0 : List Value) (T e e2 : TypeId) (L L' : List (List Int)) (v : Value) : Prop :=
  HasBody P f ∧ ∀ base w g, base ≤ w.heap.size → CntP T e e2 L base w g → (∀ b, b ∈ g.bl → base ≤ b ∧ b < w.heap.size) →
    Calls P f (g.v :: as0).toArray w fun ev w' => ∃ g' : Gh, ev = .returned v ∧ g'.v = g.v ∧ g'.b = g.b ∧ CntP T e e2 L' base w' g' ∧ (∀ b, b ∈ g'.bl → (b ∈ g.bl ∨ w.heap.size ≤ b) ∧ b < w'.heap.size) ∧ Below base w w' ∧ ∀ b, b < w.heap.size → b ∉ g.bl → w'.heap[b]? = w.heap[b]?
/-- What stands at the end. -/
def CntEnd (P : Program) (fn : Func) (T e e2 : TypeId) (L' : List (List Int)) (v : Value) (K : Kp) (env : Env) (os : List AO) : Prop :=
  ∃ k : Nat, ResIs P fn env os (.val v) ∧ os[1]? = some (.bx T [.own k]) ∧ os[k]? = some (.sls e e2 L') ∧ (1 == k) = false ∧ os[0]? = some (.keep 2 K)

set_option maxHeartbeats 1000000 in
theorem AFnP.of {P : Program} {f : FuncId} {fn : Func} {c : Code} {as0 : List Value} {args' : List AV} {T e e2 : TypeId} {L L' : List (List Int)} {v : Value} {n : Nat} (hf : P.funcs[f]? = some fn) (hb : fn.body = some c) (hnm : (fn.name == "runtime.NumGoroutine") = false) (hn : fn.ntmps - (as0.length + 1) = n) (ha : args' = .optr 1 0 :: as0.map AV.val)
    (h : ∀ K, AWp P c (CntEnd P fn T e e2 L' v K) (fun _ _ _ => False) (CntEnd P fn T e e2 L' v K) (Env.start args' n) [.keep 2 K, .bx T [.own 2], .sls e e2 L]) :
    AFnP P f as0 T e e2 L L' v := by
  refine ⟨⟨fn, c, hf, hnm, hb⟩, fun base w g hbase hC hgn => calls_of_wp hf hb ?_⟩
  have hvs : ((g.v :: as0).toArray).size = as0.length + 1 := by simp
  rw [show fn.ntmps - ((g.v :: as0).toArray).size = n by rw [hvs]; exact hn]
  obtain ⟨p, a1, a2, a3, a4, a5, a6⟩ := hC
  let bl : List Nat := (List.range w.heap.size).filter fun b => decide (base ≤ b) && !g.bl.contains b
  let gk : Gh := ⟨undef, 0, bl, []⟩
  let gb : Gh := ⟨g.v, g.b, [g.b], []⟩
  let K : Kp := ⟨fun b => w.heap[b]?, [gk, gb]⟩
  have hbl : ∀ b, b ∈ bl ↔ b < w.heap.size ∧ base ≤ b ∧ b ∉ g.bl := by
    intro b
    simp only [bl, List.mem_filter, List.mem_range, Bool.and_eq_true, decide_eq_true_eq, Bool.not_eq_true', List.contains_eq_mem, decide_eq_false_iff_not]
  have subB : ∀ b, b ∈ gb.bl → b ∈ g.bl := fun b hb => by rw [a5]; simp [gb] at hb; simp [hb]
  have subP : ∀ b, b ∈ p.bl → b ∈ g.bl := fun b hb => by rw [a5]; simp [hb]
  have gg : ∀ {i : Nat} {x : Gh}, [gk, gb, p][i]? = some x → (i = 0 ∧ x = gk) ∨ (i = 1 ∧ x = gb) ∨ (i = 2 ∧ x = p) := by
    intro i x hx
    match i with
    | 0 => simp at hx; exact .inl ⟨rfl, hx.symm⟩
    | 1 => simp at hx; exact .inr (.inl ⟨rfl, hx.symm⟩)
    | 2 => simp at hx; exact .inr (.inr ⟨rfl, hx.symm⟩)
    | i + 3 => simp at hx
  have go : ∀ {i : Nat} {x : AO}, [AO.keep 2 K, .bx T [.own 2], .sls e e2 L][i]? = some x → (i = 0 ∧ x = .keep 2 K) ∨ (i = 1 ∧ x = .bx T [.own 2]) ∨ (i = 2 ∧ x = .sls e e2 L) := by
    intro i x hx
    match i with
    | 0 => simp at hx; exact .inl ⟨rfl, hx.symm⟩
    | 1 => simp at hx; exact .inr (.inl ⟨rfl, hx.symm⟩)
    | 2 => simp at hx; exact .inr (.inr ⟨rfl, hx.symm⟩)
    | i + 3 => simp at hx
  have hrel : Rel base w [gk, gb, p] (Env.start args' n) [.keep 2 K, .bx T [.own 2], .sls e e2 L] ((g.v :: as0).toArray ++ Array.replicate n undef) := by
    refine ⟨hbase, rfl, by simp [Env.start, ha], fun i => start_rv args' n _ (fun i => ?_) i, ?_, ?_, ?_⟩
    · rw [ha]
      match i with
      | 0 =>
        have : RV w (okOf [gk, gb, p] [.keep 2 K, .bx T [.own 2], .sls e e2 L]) [gk, gb, p] (.pointer (some ⟨gb.b, 0, none⟩)) (.optr 1 0) := .optr (by simp)
        simpa [a3, gb] using this
      | i + 1 =>
        simp only [Array.getD_eq_getD_getElem?, List.getElem?_toArray, List.getElem?_cons_succ, List.getD_eq_getElem?_getD, List.getElem?_map]
        cases as0[i]? with
        | none => exact .any _
        | some u => exact .val _
    · intro i x y hx hy
      rcases gg hx with ⟨rfl, rfl⟩ | ⟨rfl, rfl⟩ | ⟨rfl, rfl⟩
      · rcases go hy with ⟨_, rfl⟩ | ⟨h0, _⟩ | ⟨h0, _⟩
        · exact ⟨fun b _ => rfl, rfl, fun i x h => by
            match i with
            | 0 => exact h
            | 1 => exact h
            | i + 2 => simp [K] at h⟩
        · omega
        · omega
      · rcases go hy with ⟨h0, _⟩ | ⟨_, rfl⟩ | ⟨h0, _⟩
        · omega
        · refine ⟨[p.v], a1, a2, rfl, a3, rfl, fun c hc => by simp at hc; subst hc; exact a4.one.1, fun j => ?_⟩
          match j with
          | 0 => exact .own (by simp)
          | j + 1 => exact .any _
        · omega
      · rcases go hy with ⟨h0, _⟩ | ⟨h0, _⟩ | ⟨_, rfl⟩
        · omega
        · omega
        · exact a4.ro
    · intro i j g1 g2 o1 o2 hij hg1 hg2 ho1 ho2 _ _ b hb1 hb2
      rcases gg hg1 with ⟨rfl, rfl⟩ | ⟨rfl, rfl⟩ | ⟨rfl, rfl⟩
      · rcases gg hg2 with ⟨rfl, rfl⟩ | ⟨rfl, rfl⟩ | ⟨rfl, rfl⟩
        · exact hij rfl
        · exact ((hbl b).1 hb1).2.2 (subB b hb2)
        · exact ((hbl b).1 hb1).2.2 (subP b hb2)
      · rcases gg hg2 with ⟨rfl, rfl⟩ | ⟨rfl, rfl⟩ | ⟨rfl, rfl⟩
        · exact ((hbl b).1 hb2).2.2 (subB b hb1)
        · exact hij rfl
        · simp [gb] at hb1; subst hb1; exact a6 hb2
      · rcases gg hg2 with ⟨rfl, rfl⟩ | ⟨rfl, rfl⟩ | ⟨rfl, rfl⟩
        · exact ((hbl b).1 hb2).2.2 (subP b hb1)
        · simp [gb] at hb2; subst hb2; exact a6 hb1
        · exact hij rfl
    · intro i x y hx hy _ b hb
      rcases gg hx with ⟨rfl, rfl⟩ | ⟨rfl, rfl⟩ | ⟨rfl, rfl⟩
      · exact ⟨((hbl b).1 hb).2.1, ((hbl b).1 hb).1⟩
      · exact hgn b (subB b hb)
      · exact hgn b (subP b hb)
  have fin : ∀ {env : Env} {os1 : List AO} {gs2 : List Gh} {a : Act} {w' : World}, Rel base w' gs2 env os1 a.tmps → Below base w w' → CntEnd P fn T e e2 L' v K env os1 →
      ∃ u, (results fn a.tmps).run P w' = .ok u w' ∧ ∃ g' : Gh, Exit.ret = Exit.ret ∧ u = v ∧ g'.v = g.v ∧ g'.b = g.b ∧ CntP T e e2 L' base w' g' ∧ (∀ b, b ∈ g'.bl → (b ∈ g.bl ∨ w.heap.size ≤ b) ∧ b < w'.heap.size) ∧ Below base w w' ∧ ∀ b, b < w.heap.size → b ∉ g.bl → w'.heap[b]? = w.heap[b]? := by
    intro env os1 gs2 a w' hr hbel ⟨k, hres, hbx, hok, hk1, hkp⟩
    obtain ⟨u, hu, hv⟩ := hres _ _ _ _ hr
    cases hv
    have hgt : ∀ {i : Nat} {o : AO}, os1[i]? = some o → ∃ x, gs2[i]? = some x := fun {i o} hi => by
      have : i < gs2.length := by rw [hr.hl]; exact (List.getElem?_eq_some_iff.1 hi).1
      exact ⟨_, List.getElem?_eq_getElem this⟩
    obtain ⟨g0, hg0⟩ := hgt hkp
    obtain ⟨g1, hg1⟩ := hgt hbx
    obtain ⟨gx, hgx⟩ := hgt hok
    obtain ⟨r1, r2, r3⟩ := hr.ho _ _ _ hg0 hkp
    have e0 : g0 = gk := by have := r3 0 gk rfl; rw [hg0] at this; exact Option.some.inj this
    have e1 : g1 = gb := by have := r3 1 gb rfl; rw [hg1] at this; exact Option.some.inj this
    subst e0 e1
    have hk0 : k ≠ 0 := fun e => by subst e; rw [hkp] at hok; cases hok
    have hk1' : k ≠ 1 := fun e => by subst e; simp at hk1
    obtain ⟨cs, c1, c2, c3, c4, c5, c6, c7⟩ := hr.ho _ _ _ hg1 hbx
    match cs, c5 with
    | [c0], _ =>
    have h0 := c7 0
    simp only [List.getD_cons_zero] at h0
    have ec : c0 = gx.v := by
      cases h0 with
      | own hh => rw [hgx] at hh; cases hh; rfl
    subst ec
    have hpx : PartP e e2 L' base w' gx := PartP.of (hr.ho _ _ _ hgx hok)
    have hxn := hr.hn _ _ _ hgx hok (by simp)
    have hbn := hr.hn _ _ _ hg1 hbx (by simp)
    refine ⟨v, hu, ⟨g.v, g.b, g.b :: gx.bl, []⟩, rfl, rfl, rfl, rfl, ⟨gx, c1, c2, a3, hpx, rfl, fun hm => ?_⟩, fun b hb => ?_, hbel, fun b hb hnot => ?_⟩
    · exact hr.hd k 1 gx gb _ _ hk1' hgx hg1 hok hbx (by simp) (by simp) g.b hm (by simp [gb])
    · simp only [List.mem_cons] at hb
      rcases hb with rfl | hb
      · exact ⟨.inl (subB _ (by simp [gb])), (hbn _ (by simp [gb])).2⟩
      · have hbn2 := hxn b hb
        refine ⟨?_, hbn2.2⟩
        by_cases hbw : b < w.heap.size
        · left
          apply Classical.byContradiction
          intro hnb
          exact hr.hd k 0 gx gk _ _ hk0 hgx hg0 hok hkp (by simp) (by simp) b hb ((hbl b).2 ⟨hbw, hbn2.1, hnb⟩)
        · right; omega
    · rcases Nat.lt_or_ge b base with h6 | h6
      · exact hbel.block b h6
      · exact r1 b ((hbl b).2 ⟨hb, h6, hnot⟩)
  refine wp_mono (h K base w w _ _ hrel (Below.refl _ _)) ?_
  intro ev a w' hq
  cases ev with
  | normal =>
    obtain ⟨env, os1, gs1, hr, hd, hbel, hx⟩ := hq
    obtain ⟨u, hu, g', _, rfl, r⟩ := fin hr hbel hx
    exact ⟨hd, _, hu, g', rfl, r⟩
  | exit j => obtain ⟨_, _, _, _, _, _, hx⟩ := hq; exact hx.elim
  | ret =>
    obtain ⟨env, os1, gs1, hr, hd, hbel, hx⟩ := hq
    obtain ⟨u, hu, g', _, rfl, r⟩ := fin hr hbel hx
    exact ⟨hd, _, hu, g', rfl, r⟩
  | goto l => exact (hq : False).elim
  | panic ch => exact (hq : False).elim
  | outgrown => exact (hq : False).elim
theorem AFnP.start {P : Program} {f : FuncId} {fn : Func} {nt : Nat} {as0 : List Value} {T e e2 : TypeId} {L L' : List (List Int)} {v : Value} (hf : P.funcs[f]? = some fn) (hnt : fn.ntmps = nt) {c : Code} (hb : fn.body = some c) (hnm : (fn.name == "runtime.NumGoroutine") = false)
    (h : ∀ K, AWp P c (CntEnd P fn T e e2 L' v K) (fun _ _ _ => False) (CntEnd P fn T e e2 L' v K) (Env.start (.optr 1 0 :: as0.map AV.val) (nt - (as0.length + 1))) [.keep 2 K, .bx T [.own 2], .sls e e2 L]) :
    AFnP P f as0 T e e2 L L' v := AFnP.of hf hb hnm (by rw [hnt]) rfl h

section
variable {P : Program} {env : Env} {os : List AO} {d : Option Tmp} {ty : TypeId} {pos : String} {af : Array Edge} {g : Option (Nat × Bool)}
theorem c_callp {f : FuncId} {as0 : List Value} {T e e2 : TypeId} {L L' : List (List Int)} {v : Value} {h : Nat} (hc : AFnP P f as0 T e e2 L L' v) {x : Operand} {xs : List Operand} {ats : Array TypeId} (hx : AV.ev env x = .optr h 0) (hs : os[h]? = some (.ob (cntOb T e e2 L))) (hxs : xs.map (AV.ev env) = as0.map AV.val) :
    COp P ⟨d, .call { callee := .value (.func f), args := (x :: xs).toArray, argTypes := ats }, ty, pos, af, g⟩ env os (fun r en o => r = .val v ∧ en = env.mp (AV.noRow h) ∧ o = (((os ++ [AO.sli e2 []]).map (AO.via (AV.noRow h) h)).set h (.ob (cntOb T e e2 L'))).set os.length .dead) := by
  intro base w gs tm hr
  have hlt : h < os.length := (List.getElem?_eq_some_iff.1 hs).1
  have hgl : h < gs.length := by rw [hr.hl]; exact hlt
  obtain ⟨gh, hgh⟩ : ∃ x, gs[h]? = some x := ⟨_, List.getElem?_eq_getElem hgl⟩
  have hC : CntP T e e2 L base w gh := hr.ho _ _ _ hgh hs
  have hxv := hr.ev x
  rw [hx] at hxv
  have ev0 : Act.eval ⟨tm, []⟩ x = gh.v := by
    obtain ⟨p, _, _, a3, _⟩ := hC
    generalize Act.eval ⟨tm, []⟩ x = u at hxv
    cases hxv with
    | optr hg => rw [hgh] at hg; cases hg; rw [a3]
  have ev1 : xs.map (Act.eval ⟨tm, []⟩) = as0 := by
    have key : ∀ (xs : List Operand) (as0 : List Value), xs.map (AV.ev env) = as0.map AV.val → xs.map (Act.eval ⟨tm, []⟩) = as0 := by
      intro xs
      induction xs with
      | nil => intro as0 h; cases as0 with | nil => rfl | cons a t => simp at h
      | cons y ys ih =>
        intro as0 h
        cases as0 with
        | nil => simp at h
        | cons a t =>
          simp only [List.map_cons, List.cons.injEq] at h
          rw [List.map_cons, hr.evv h.1, ih t h.2]
    exact key xs as0 hxs
  refine ⟨f, _, run_call hc.1 (x :: xs) ats _ rfl w, ?_⟩
  rw [List.map_cons, ev0, ev1]
  refine (hc.2 base w gh hr.hb hC (hr.hn _ _ _ hgh hs (by simp))).mono ?_
  rintro en w' ⟨g', rfl, hgv, hgb, hC', hbl, hbel, hfr⟩
  let gd : Gh := ⟨.slice none 0 0, 0, [], []⟩
  have hr1 : Rel base w (gs ++ [gd]) env (os ++ [.sli e2 []]) tm := hr.new (Below.refl _ _) (.sli e2 []) gd (fun _ b hb => by simp [gd] at hb) ⟨World.ownsRow_nil w base e2 1, fun x hx => by simp at hx, .inl ⟨rfl, rfl⟩⟩
  have hg1 : (gs ++ [gd])[h]? = some gh := by rw [List.getElem?_append_left hgl]; exact hgh
  have hs1 : (os ++ [AO.sli e2 []])[h]? = some (.ob (cntOb T e e2 L)) := by rw [List.getElem?_append_left hlt]; exact hs
  have hgd : (gs ++ [gd])[os.length]? = some gd := by rw [← hr.hl]; simp
  have hod : (os ++ [AO.sli e2 []])[os.length]? = some (.sli e2 []) := by simp
  have sv : SameV h (gs ++ [gd]) ((gs ++ [gd]).set h g') := by
    refine ⟨fun j z hj hz => ?_, fun z hz => ⟨g', by rw [List.getElem?_set_self (by rw [List.length_append]; omega)], ?_⟩⟩
    · rw [List.getElem?_set, if_neg (fun e => hj e.symm)]; exact hz
    · rw [hg1] at hz; cases hz; exact ⟨hgv, hgb⟩
  refine ⟨v, .val v, _, _, (gs ++ [gd]).set h g', rfl, ⟨rfl, rfl, rfl⟩, hr1.absorb hg1 hs1 trivial hgd hod trivial (by omega) g' _ (AV.noRow h) rfl hfr hbel.size ?_ (fun kp hv => hv.noRow kp sv) (fun _ => hC'), .val _, hbel⟩
  intro b hb
  have := hbl b hb
  refine ⟨?_, this.2⟩
  rcases this.1 with h1 | h1
  · exact .inl h1
  · exact .inr (.inr h1)
end
section
variable {P : Program} {env : Env} {os : List AO} {d : Tmp} {ty : TypeId} {pos : String} {af : Array Edge} {g : Option (Nat × Bool)} {l rest : List Oper} {K : APost} {q : Md}
theorem w_callpn {f : FuncId} {as0 : List Value} {T e e2 : TypeId} {L L' : List (List Int)} {v : Value} {h : Nat} {x : Operand} {xs : List Operand} {ats : Array TypeId} {m : Nat} (hc : AFnP P f as0 T e e2 L L' v) (hx : evo env x = some (.optr h 0)) (hs : os[h]? = some (.ob (cntOb T e e2 L))) (hm : os.length = m) (hxs : xs.map (AV.ev env) = as0.map AV.val)
    (h' : AOps P .seq l rest K (env.mp (AV.noRow h)) ((((os ++ [AO.sli e2 []]).map (AO.via (AV.noRow h) h)).set h (.ob (cntOb T e e2 L'))).set m .dead)) :
    AOps P .seq l (⟨none, .call { callee := .value (.func f), args := (x :: xs).toArray, argTypes := ats }, ty, pos, af, none⟩ :: rest) K env os := by
  subst hm
  exact AOps.cas (c_callp hc (ev_of hx) hs hxs) fun r e o ⟨h1, h2, h3⟩ => by subst h1; subst h2; subst h3; exact h'
end
end Go.Proofs.Ytpllbdjobmgikaa
