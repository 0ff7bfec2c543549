/-
  Parts of the proof, one behind the other: contracts of functions and plain laws. No condition.
-/
import Derived.Test.YtdkociacaagcoaaPt2TorusPolynom
/-
  A struct of one own slice of rows behind a pointer, as one object; functions that write to it in its place. No condition.
-/
namespace Go.Proofs.Ytdkociacaagcoaa
open Go Go.RowKit
set_option linter.unusedVariables false

def CntP (T e e2 : TypeId) (L : List (List Int)) (base : Nat) (w : World) (g : Gh) : Prop :=
  ∃ p : Gh, w.heap[g.b]? = some (.cells #[p.v] T (0, 0)) ∧ base ≤ g.b ∧ g.v = .pointer (some ⟨g.b, 0, none⟩) ∧ PartP e e2 L base w p ∧ g.bl = g.b :: p.bl ∧ g.b ∉ p.bl
def cntOb (T e e2 : TypeId) (L : List (List Int)) : Ob where
  p := CntP T e e2 L
  up {base w w' g} hb h := by
    obtain ⟨p, a1, a2, a3, a4, a5, a6⟩ := h
    exact ⟨p, by rw [hb g.b (by rw [a5]; simp)]; exact a1, a2, a3, a4.up fun b hbb => hb b (by rw [a5]; simp [hbb]), a5, a6⟩
  lower hl h := by
    obtain ⟨p, a1, a2, a3, a4, a5, a6⟩ := h
    exact ⟨p, a1, Nat.le_trans hl a2, a3, a4.lower hl, a5, a6⟩
  one h := by
    obtain ⟨p, a1, a2, a3, _⟩ := h
    rw [a3]; exact ⟨rfl, rfl⟩

theorem RO.via {base : Nat} {w : World} {ok ok' : Nat → Prop} {gs gs' : List Gh} {x : Gh} {z : AO} {h : Nat} (hz : RO base w ok gs x z) (kp : Keeps ok ok' w w) (sv : SameV h gs gs') : RO base w ok' gs' x (z.via (AV.noRow h) h) := by
  cases z with
  | ob q => exact hz
  | dead => trivial
  | sli e xs => exact hz
  | sls e e2 xss => exact hz
  | bx T avs =>
    obtain ⟨cs, h1, h2, h3, h4, h5, h6, h7⟩ := hz
    exact ⟨cs, h1, h2, h3, h4, by simpa using h5, h6, fun j => by rw [getD_map_f _ rfl]; exact (h7 j).noRow kp sv⟩
  | slr e avs =>
    obtain ⟨vs, h1, h2, h3, h4⟩ := hz
    exact ⟨vs, h1, by simpa using h2, fun j => by rw [getD_map_f _ rfl]; exact (h3 j).noRow kp sv, h4⟩
  | keep n K =>
    obtain ⟨h1, h2, h3⟩ := hz
    simp only [AO.via]
    split
    · exact ⟨h1, rfl, fun i x hx => by simp at hx⟩
    · refine ⟨h1, h2, fun i y hy => ?_⟩
      have := (List.getElem?_eq_some_iff.1 hy).1
      exact sv.other i y (by omega) (h3 i y hy)

set_option maxHeartbeats 1000000 in
theorem Turns.split {env : Env} {os : List AO} {h m : Nat} {T e e2 : TypeId} {L : List (List Int)} (hs : os[h]? = some (.ob (cntOb T e e2 L))) (hm : os.length = m) :
    Turns env os (env.mp (AV.noRow h)) (((os.map (AO.via (AV.noRow h) h)).set h (.bx T [.own m])) ++ [.sls e e2 L]) := by
  subst hm
  intro base w gs tm hr
  have hlt : h < os.length := (List.getElem?_eq_some_iff.1 hs).1
  have hgl : h < gs.length := by rw [hr.hl]; exact hlt
  obtain ⟨gh, hg⟩ : ∃ x, gs[h]? = some x := ⟨_, List.getElem?_eq_getElem hgl⟩
  obtain ⟨p, a1, a2, a3, a4, a5, a6⟩ := hr.ho _ _ _ hg hs
  let g' : Gh := ⟨gh.v, gh.b, [gh.b], []⟩
  have hgn := hr.hn _ _ _ hg hs (by simp)
  have sub1 : ∀ b, b ∈ g'.bl → b ∈ gh.bl := fun b hb => by rw [a5]; simp [g'] at hb; simp [hb]
  have sub2 : ∀ b, b ∈ p.bl → b ∈ gh.bl := fun b hb => by rw [a5]; simp [hb]
  have sv : SameV h gs (gs.set h g' ++ [p]) := by
    refine ⟨fun j z hj hz => ?_, fun z hz => ⟨g', ?_, ?_⟩⟩
    · have := (List.getElem?_eq_some_iff.1 hz).1
      rw [List.getElem?_append_left (by rw [List.length_set]; exact this), List.getElem?_set, if_neg (fun e => hj e.symm)]; exact hz
    · rw [List.getElem?_append_left (by rw [List.length_set]; exact hgl), List.getElem?_set_self hgl]
    · rw [hg] at hz; cases hz; exact ⟨rfl, rfl⟩
  have gget : ∀ {i : Nat} {x : Gh}, (gs.set h g' ++ [p])[i]? = some x → (i = h ∧ x = g') ∨ (i ≠ h ∧ i < gs.length ∧ gs[i]? = some x) ∨ (i = gs.length ∧ x = p) := by
    intro i x hx
    rcases Nat.lt_or_ge i gs.length with hi | hi
    · rw [List.getElem?_append_left (by rw [List.length_set]; exact hi), List.getElem?_set] at hx
      split at hx
      · subst_vars; simp at hx; exact .inl ⟨rfl, hx.symm⟩
      · exact .inr (.inl ⟨fun e => by simp_all, hi, hx⟩)
    · have h2 := (List.getElem?_eq_some_iff.1 hx).1
      simp at h2
      have : i = gs.length := by omega
      subst this
      rw [List.getElem?_append_right (by simp)] at hx
      simp at hx
      exact .inr (.inr ⟨rfl, hx.symm⟩)
  have oget : ∀ {i : Nat} {y : AO}, (((os.map (AO.via (AV.noRow h) h)).set h (.bx T [.own os.length])) ++ [AO.sls e e2 L])[i]? = some y → (i = h ∧ y = .bx T [.own os.length]) ∨ (i ≠ h ∧ i < os.length ∧ ∃ z, os[i]? = some z ∧ y = z.via (AV.noRow h) h) ∨ (i = os.length ∧ y = .sls e e2 L) := by
    intro i y hy
    rcases Nat.lt_or_ge i os.length with hi | hi
    · rw [List.getElem?_append_left (by simpa using hi), List.getElem?_set] at hy
      split at hy
      · subst_vars; simp [hi] at hy; exact .inl ⟨rfl, hy.symm⟩
      · refine .inr (.inl ⟨fun e => by simp_all, hi, ?_⟩)
        rw [List.getElem?_map] at hy
        cases hz : os[i]? with
        | none => simp [hz] at hy
        | some z => simp [hz] at hy; exact ⟨z, rfl, hy.symm⟩
    · have h2 := (List.getElem?_eq_some_iff.1 hy).1
      simp at h2
      have : i = os.length := by omega
      subst this
      rw [List.getElem?_append_right (by simp)] at hy
      simp at hy
      exact .inr (.inr ⟨rfl, hy.symm⟩)
  have kp : Keeps (okOf gs os) (okOf (gs.set h g' ++ [p]) (((os.map (AO.via (AV.noRow h) h)).set h (.bx T [.own os.length])) ++ [AO.sls e e2 L])) w w := by
    intro b hb _
    refine ⟨fun i x y hx hy hny hm => ?_, rfl⟩
    rcases gget hx with ⟨_, rfl⟩ | ⟨h1, h2, h3⟩ | ⟨_, rfl⟩
    · exact hb h gh _ hg hs trivial (sub1 b hm)
    · rcases oget hy with ⟨h4, _⟩ | ⟨_, _, z, hz, rfl⟩ | ⟨h4, _⟩
      · exact h1 h4
      · exact hb i x z h3 hz (AO.via_live.1 hny) hm
      · rw [← hr.hl] at h4; omega
    · exact hb h gh _ hg hs trivial (sub2 b hm)
  have hl := hr.hl
  refine ⟨gs.set h g' ++ [p], hr.hb, by simp [hl], hr.hs, fun i => by rw [Env.lk_mp _ rfl]; exact (hr.he i).noRow kp sv, ?_, ?_, ?_⟩
  · intro i x y hx hy
    rcases oget hy with ⟨rfl, rfl⟩ | ⟨h1, h2, z, hz, rfl⟩ | ⟨rfl, rfl⟩
    · rcases gget hx with ⟨_, rfl⟩ | ⟨h1, _⟩ | ⟨h1, _⟩
      · refine ⟨[p.v], a1, a2, rfl, a3, rfl, fun c hc => by simp at hc; subst hc; exact a4.one.1, fun j => ?_⟩
        match j with
        | 0 => exact .own (by rw [← hl]; simp)
        | j + 1 => exact .any _
      · exact absurd rfl h1
      · omega
    · rcases gget hx with ⟨h4, _⟩ | ⟨_, _, h3⟩ | ⟨h4, _⟩
      · exact absurd h4 h1
      · exact RO.via (hr.ho i x z h3 hz) kp sv
      · omega
    · rcases gget hx with ⟨h4, _⟩ | ⟨_, h4, _⟩ | ⟨_, rfl⟩
      · omega
      · omega
      · exact a4.ro
  · intro i j x y o1 o2 hij hx hy ho1 ho2 hn1 hn2 b hb1 hb2
    have olive : ∀ {i : Nat} {y : AO}, i ≠ h → i < gs.length → (((os.map (AO.via (AV.noRow h) h)).set h (.bx T [.own os.length])) ++ [AO.sls e e2 L])[i]? = some y → y ≠ .dead → ∃ z, os[i]? = some z ∧ z ≠ .dead := by
      intro i y h1 h2 hy hny
      rcases oget hy with ⟨h4, _⟩ | ⟨_, _, z, hz, rfl⟩ | ⟨h4, _⟩
      · exact absurd h4 h1
      · exact ⟨z, hz, fun e => hny (AO.via_dead.2 e)⟩
      · omega
    rcases gget hx with ⟨rfl, rfl⟩ | ⟨h1, h2, h3⟩ | ⟨rfl, rfl⟩
    · rcases gget hy with ⟨rfl, rfl⟩ | ⟨k1, k2, k3⟩ | ⟨rfl, rfl⟩
      · exact hij rfl
      · obtain ⟨z, hz, hzn⟩ := olive k1 k2 ho2 hn2
        exact hr.hd _ _ gh y _ z (fun e => k1 e.symm) hg k3 hs hz (by simp) hzn b (sub1 b hb1) hb2
      · simp [g'] at hb1; subst hb1; exact a6 hb2
    · obtain ⟨z, hz, hzn⟩ := olive h1 h2 ho1 hn1
      rcases gget hy with ⟨rfl, rfl⟩ | ⟨k1, k2, k3⟩ | ⟨rfl, rfl⟩
      · exact hr.hd _ _ x gh z _ h1 h3 hg hz hs hzn (by simp) b hb1 (sub1 b hb2)
      · obtain ⟨z2, hz2, hzn2⟩ := olive k1 k2 ho2 hn2
        exact hr.hd i j x y z z2 hij h3 k3 hz hz2 hzn hzn2 b hb1 hb2
      · exact hr.hd _ _ x gh z _ h1 h3 hg hz hs hzn (by simp) b hb1 (sub2 b hb2)
    · rcases gget hy with ⟨rfl, rfl⟩ | ⟨k1, k2, k3⟩ | ⟨rfl, rfl⟩
      · simp [g'] at hb2; subst hb2; exact a6 hb1
      · obtain ⟨z, hz, hzn⟩ := olive k1 k2 ho2 hn2
        exact hr.hd _ _ gh y _ z (fun e => k1 e.symm) hg k3 hs hz (by simp) hzn b (sub2 b hb1) hb2
      · exact hij rfl
  · intro i x y hx hy hny b hb
    rcases gget hx with ⟨rfl, rfl⟩ | ⟨h1, h2, h3⟩ | ⟨rfl, rfl⟩
    · exact hgn b (sub1 b hb)
    · rcases oget hy with ⟨h4, _⟩ | ⟨_, _, z, hz, rfl⟩ | ⟨h4, _⟩
      · exact absurd h4 h1
      · exact hr.hn i x z h3 hz (fun e => hny (AO.via_dead.2 e)) b hb
      · omega
    · exact hgn b (sub2 b hb)

theorem Turns.join {env : Env} {os : List AO} {h k : Nat} {T e e2 : TypeId} {L : List (List Int)} (hs : os[h]? = some (.bx T [.own k])) (hk : os[k]? = some (.sls e e2 L)) (hhk : (h == k) = false) :
    Turns env os (env.mp (AV.noRow h)) (((os.map (AO.via (AV.noRow h) h)).set h (.ob (cntOb T e e2 L))).set k .dead) := by
  have hne : h ≠ k := by simpa using hhk
  intro base w gs tm hr
  have hgl : h < gs.length := by rw [hr.hl]; exact (List.getElem?_eq_some_iff.1 hs).1
  have hkl : k < gs.length := by rw [hr.hl]; exact (List.getElem?_eq_some_iff.1 hk).1
  obtain ⟨gh, hg⟩ : ∃ x, gs[h]? = some x := ⟨_, List.getElem?_eq_getElem hgl⟩
  obtain ⟨gk, hgk⟩ : ∃ x, gs[k]? = some x := ⟨_, List.getElem?_eq_getElem hkl⟩
  obtain ⟨cs, c1, c2, c3, c4, c5, c6, c7⟩ := hr.ho _ _ _ hg hs
  have hpk : PartP e e2 L base w gk := PartP.of (hr.ho _ _ _ hgk hk)
  match cs, c5 with
  | [c0], _ =>
  have h0 := c7 0
  simp only [List.getD_cons_zero] at h0
  have e0 : c0 = gk.v := by
    cases h0 with
    | own hh => rw [hgk] at hh; cases hh; rfl
  subst e0
  let g' : Gh := ⟨gh.v, gh.b, gh.b :: gk.bl, []⟩
  have hbn := hr.hn _ _ _ hg hs (by simp)
  have hkn := hr.hn _ _ _ hgk hk (by simp)
  have sv : SameV h gs (gs.set h g') := by
    refine ⟨fun j z hj hz => ?_, fun z hz => ⟨g', by simp [hgl], ?_⟩⟩
    · rw [List.getElem?_set, if_neg (fun e => hj e.symm)]; exact hz
    · rw [hg] at hz; cases hz; exact ⟨rfl, rfl⟩
  refine ⟨gs.set h g', hr.absorb hg hs trivial hgk hk trivial hne g' _ (AV.noRow h) rfl (fun _ _ _ => rfl) (Nat.le_refl _) ?_ (fun kp hv => hv.noRow kp sv) (fun _ => ?_)⟩
  · intro b hb
    simp only [g', List.mem_cons] at hb
    rcases hb with rfl | hb
    · have : gh.b ∈ gh.bl := by rw [c3]; simp
      exact ⟨.inl this, (hbn _ this).2⟩
    · exact ⟨.inr (.inl hb), (hkn b hb).2⟩
  · refine ⟨gk, c1, c2, c4, hpk, rfl, fun hm => ?_⟩
    exact hr.hd k h gk gh _ _ (fun e => hne e.symm) hgk hg hk hs (by simp) (by simp) gh.b hm (by rw [c3]; simp)
theorem AWp.turns {P : Program} {c : Code} {N : APost} {X : Nat → APost} {R : APost} {env env' : Env} {os os' : List AO} (ht : Turns env os env' os') (h : AWp P c N X R env' os') : AWp P c N X R env os := by
  intro base w0 w gs tm hr hb
  obtain ⟨gs', hr'⟩ := ht _ _ _ _ hr
  exact h base w0 w gs' tm hr' hb
theorem AOps.turns {P : Program} {l rest : List Oper} {K : APost} {env env' : Env} {os os' : List AO} (ht : Turns env os env' os') (h : AOps P .seq l rest K env' os') : AOps P .seq l rest K env os := by
  intro base w0 w gs tm hr hb X Rt
  obtain ⟨gs', hr'⟩ := ht _ _ _ _ hr
  exact h base w0 w gs' tm hr' hb X Rt

/-! ### Functions that are handed the pointer -/
def AFnP (P : Program) (f : FuncId) (as0 : List Value) (T e e2 : TypeId) (L L' : List (List Int)) (v : Value) : Prop :=
  HasBody P f ∧ ∀ base w g, base ≤ w.heap.size → CntP T e e2 L base w g → (∀ b, b ∈ g.bl → base ≤ b ∧ b < w.heap.size) →
    Calls P f (g.v :: as0).toArray w fun ev w' => ∃ g' : Gh, ev = .returned v ∧ g'.v = g.v ∧ g'.b = g.b ∧ CntP T e e2 L' base w' g' ∧ (∀ b, b ∈ g'.bl → (b ∈ g.bl ∨ w.heap.size ≤ b) ∧ b < w'.heap.size) ∧ Below base w w' ∧ ∀ b, b < w.heap.size → b ∉ g.bl → w'.heap[b]? = w.heap[b]?
/-- What stands at the end. -/
def CntEnd (P : Program) (fn : Func) (T e e2 : TypeId) (L' : List (List Int)) (v : Value) (K : Kp) (env : Env) (os : List AO) : Prop :=
  ∃ k : Nat, ResIs P fn env os (.val v) ∧ os[1]? = some (.bx T [.own k]) ∧ os[k]? = some (.sls e e2 L') ∧ (1 == k) = false ∧ os[0]? = some (.keep 2 K)

set_option maxHeartbeats 1000000 in
theorem AFnP.of {P : Program} {f : FuncId} {fn : Func} {c : Code} {as0 : List Value} {args' : List AV} {T e e2 : TypeId} {L L' : List (List Int)} {v : Value} {n : Nat} (hf : P.funcs[f]? = some fn) (hb : fn.body = some c) (hnm : (fn.name == "runtime.NumGoroutine") = false) (hn : fn.ntmps - (as0.length + 1) = n) (ha : args' = .optr 1 0 :: as0.map AV.val)
    (h : ∀ K, AWp P c (CntEnd P fn T e e2 L' v K) (fun _ _ _ => False) (CntEnd P fn T e e2 L' v K) (Env.start args' n) [.keep 2 K, .bx T [.own 2], .sls e e2 L]) :
    AFnP P f as0 T e e2 L L' v := by
  refine ⟨⟨fn, c, hf, hnm, hb⟩, fun base w g hbase hC hgn => calls_of_wp hf hb ?_⟩
  have hvs : ((g.v :: as0).toArray).size = as0.length + 1 := by simp
  rw [show fn.ntmps - ((g.v :: as0).toArray).size = n by rw [hvs]; exact hn]
  obtain ⟨p, a1, a2, a3, a4, a5, a6⟩ := hC
  let bl : List Nat := (List.range w.heap.size).filter fun b => decide (base ≤ b) && !g.bl.contains b
  let gk : Gh := ⟨undef, 0, bl, []⟩
  let gb : Gh := ⟨g.v, g.b, [g.b], []⟩
  let K : Kp := ⟨fun b => w.heap[b]?, [gk, gb]⟩
  have hbl : ∀ b, b ∈ bl ↔ b < w.heap.size ∧ base ≤ b ∧ b ∉ g.bl := by
    intro b
    simp only [bl, List.mem_filter, List.mem_range, Bool.and_eq_true, decide_eq_true_eq, Bool.not_eq_true', List.contains_eq_mem, decide_eq_false_iff_not]
  have subB : ∀ b, b ∈ gb.bl → b ∈ g.bl := fun b hb => by rw [a5]; simp [gb] at hb; simp [hb]
  have subP : ∀ b, b ∈ p.bl → b ∈ g.bl := fun b hb => by rw [a5]; simp [hb]
  have gg : ∀ {i : Nat} {x : Gh}, [gk, gb, p][i]? = some x → (i = 0 ∧ x = gk) ∨ (i = 1 ∧ x = gb) ∨ (i = 2 ∧ x = p) := by
    intro i x hx
    match i with
    | 0 => simp at hx; exact .inl ⟨rfl, hx.symm⟩
    | 1 => simp at hx; exact .inr (.inl ⟨rfl, hx.symm⟩)
    | 2 => simp at hx; exact .inr (.inr ⟨rfl, hx.symm⟩)
    | i + 3 => simp at hx
  have go : ∀ {i : Nat} {x : AO}, [AO.keep 2 K, .bx T [.own 2], .sls e e2 L][i]? = some x → (i = 0 ∧ x = .keep 2 K) ∨ (i = 1 ∧ x = .bx T [.own 2]) ∨ (i = 2 ∧ x = .sls e e2 L) := by
    intro i x hx
    match i with
    | 0 => simp at hx; exact .inl ⟨rfl, hx.symm⟩
    | 1 => simp at hx; exact .inr (.inl ⟨rfl, hx.symm⟩)
    | 2 => simp at hx; exact .inr (.inr ⟨rfl, hx.symm⟩)
    | i + 3 => simp at hx
  have hrel : Rel base w [gk, gb, p] (Env.start args' n) [.keep 2 K, .bx T [.own 2], .sls e e2 L] ((g.v :: as0).toArray ++ Array.replicate n undef) := by
    refine ⟨hbase, rfl, by simp [Env.start, ha], fun i => start_rv args' n _ (fun i => ?_) i, ?_, ?_, ?_⟩
    · rw [ha]
      match i with
      | 0 =>
        have : RV w (okOf [gk, gb, p] [.keep 2 K, .bx T [.own 2], .sls e e2 L]) [gk, gb, p] (.pointer (some ⟨gb.b, 0, none⟩)) (.optr 1 0) := .optr (by simp)
        simpa [a3, gb] using this
      | i + 1 =>
        simp only [Array.getD_eq_getD_getElem?, List.getElem?_toArray, List.getElem?_cons_succ, List.getD_eq_getElem?_getD, List.getElem?_map]
        cases as0[i]? with
        | none => exact .any _
        | some u => exact .val _
    · intro i x y hx hy
      rcases gg hx with ⟨rfl, rfl⟩ | ⟨rfl, rfl⟩ | ⟨rfl, rfl⟩
      · rcases go hy with ⟨_, rfl⟩ | ⟨h0, _⟩ | ⟨h0, _⟩
        · exact ⟨fun b _ => rfl, rfl, fun i x h => by
            match i with
            | 0 => exact h
            | 1 => exact h
            | i + 2 => simp [K] at h⟩
        · omega
        · omega
      · rcases go hy with ⟨h0, _⟩ | ⟨_, rfl⟩ | ⟨h0, _⟩
        · omega
        · refine ⟨[p.v], a1, a2, rfl, a3, rfl, fun c hc => by simp at hc; subst hc; exact a4.one.1, fun j => ?_⟩
          match j with
          | 0 => exact .own (by simp)
          | j + 1 => exact .any _
        · omega
      · rcases go hy with ⟨h0, _⟩ | ⟨h0, _⟩ | ⟨_, rfl⟩
        · omega
        · omega
        · exact a4.ro
    · intro i j g1 g2 o1 o2 hij hg1 hg2 ho1 ho2 _ _ b hb1 hb2
      rcases gg hg1 with ⟨rfl, rfl⟩ | ⟨rfl, rfl⟩ | ⟨rfl, rfl⟩
      · rcases gg hg2 with ⟨rfl, rfl⟩ | ⟨rfl, rfl⟩ | ⟨rfl, rfl⟩
        · exact hij rfl
        · exact ((hbl b).1 hb1).2.2 (subB b hb2)
        · exact ((hbl b).1 hb1).2.2 (subP b hb2)
      · rcases gg hg2 with ⟨rfl, rfl⟩ | ⟨rfl, rfl⟩ | ⟨rfl, rfl⟩
        · exact ((hbl b).1 hb2).2.2 (subB b hb1)
        · exact hij rfl
        · simp [gb] at hb1; subst hb1; exact a6 hb2
      · rcases gg hg2 with ⟨rfl, rfl⟩ | ⟨rfl, rfl⟩ | ⟨rfl, rfl⟩
        · exact ((hbl b).1 hb2).2.2 (subP b hb1)
        · simp [gb] at hb2; subst hb2; exact a6 hb1
        · exact hij rfl
    · intro i x y hx hy _ b hb
      rcases gg hx with ⟨rfl, rfl⟩ | ⟨rfl, rfl⟩ | ⟨rfl, rfl⟩
      · exact ⟨((hbl b).1 hb).2.1, ((hbl b).1 hb).1⟩
      · exact hgn b (subB b hb)
      · exact hgn b (subP b hb)
  have fin : ∀ {env : Env} {os1 : List AO} {gs2 : List Gh} {a : Act} {w' : World}, Rel base w' gs2 env os1 a.tmps → Below base w w' → CntEnd P fn T e e2 L' v K env os1 →
      ∃ u, (results fn a.tmps).run P w' = .ok u w' ∧ ∃ g' : Gh, Exit.ret = Exit.ret ∧ u = v ∧ g'.v = g.v ∧ g'.b = g.b ∧ CntP T e e2 L' base w' g' ∧ (∀ b, b ∈ g'.bl → (b ∈ g.bl ∨ w.heap.size ≤ b) ∧ b < w'.heap.size) ∧ Below base w w' ∧ ∀ b, b < w.heap.size → b ∉ g.bl → w'.heap[b]? = w.heap[b]? := by
    intro env os1 gs2 a w' hr hbel ⟨k, hres, hbx, hok, hk1, hkp⟩
    obtain ⟨u, hu, hv⟩ := hres _ _ _ _ hr
    cases hv
    have hgt : ∀ {i : Nat} {o : AO}, os1[i]? = some o → ∃ x, gs2[i]? = some x := fun {i o} hi => by
      have : i < gs2.length := by rw [hr.hl]; exact (List.getElem?_eq_some_iff.1 hi).1
      exact ⟨_, List.getElem?_eq_getElem this⟩
    obtain ⟨g0, hg0⟩ := hgt hkp
    obtain ⟨g1, hg1⟩ := hgt hbx
    obtain ⟨gx, hgx⟩ := hgt hok
    obtain ⟨r1, r2, r3⟩ := hr.ho _ _ _ hg0 hkp
    have e0 : g0 = gk := by have := r3 0 gk rfl; rw [hg0] at this; exact Option.some.inj this
    have e1 : g1 = gb := by have := r3 1 gb rfl; rw [hg1] at this; exact Option.some.inj this
    subst e0 e1
    have hk0 : k ≠ 0 := fun e => by subst e; rw [hkp] at hok; cases hok
    have hk1' : k ≠ 1 := fun e => by subst e; simp at hk1
    obtain ⟨cs, c1, c2, c3, c4, c5, c6, c7⟩ := hr.ho _ _ _ hg1 hbx
    match cs, c5 with
    | [c0], _ =>
    have h0 := c7 0
    simp only [List.getD_cons_zero] at h0
    have ec : c0 = gx.v := by
      cases h0 with
      | own hh => rw [hgx] at hh; cases hh; rfl
    subst ec
    have hpx : PartP e e2 L' base w' gx := PartP.of (hr.ho _ _ _ hgx hok)
    have hxn := hr.hn _ _ _ hgx hok (by simp)
    have hbn := hr.hn _ _ _ hg1 hbx (by simp)
    refine ⟨v, hu, ⟨g.v, g.b, g.b :: gx.bl, []⟩, rfl, rfl, rfl, rfl, ⟨gx, c1, c2, a3, hpx, rfl, fun hm => ?_⟩, fun b hb => ?_, hbel, fun b hb hnot => ?_⟩
    · exact hr.hd k 1 gx gb _ _ hk1' hgx hg1 hok hbx (by simp) (by simp) g.b hm (by simp [gb])
    · simp only [List.mem_cons] at hb
      rcases hb with rfl | hb
      · exact ⟨.inl (subB _ (by simp [gb])), (hbn _ (by simp [gb])).2⟩
      · have hbn2 := hxn b hb
        refine ⟨?_, hbn2.2⟩
        by_cases hbw : b < w.heap.size
        · left
          apply Classical.byContradiction
          intro hnb
          exact hr.hd k 0 gx gk _ _ hk0 hgx hg0 hok hkp (by simp) (by simp) b hb ((hbl b).2 ⟨hbw, hbn2.1, hnb⟩)
        · right; omega
    · rcases Nat.lt_or_ge b base with h6 | h6
      · exact hbel.block b h6
      · exact r1 b ((hbl b).2 ⟨hb, h6, hnot⟩)
  refine wp_mono (h K base w w _ _ hrel (Below.refl _ _)) ?_
  intro ev a w' hq
  cases ev with
  | normal =>
    obtain ⟨env, os1, gs1, hr, hd, hbel, hx⟩ := hq
    obtain ⟨u, hu, g', _, rfl, r⟩ := fin hr hbel hx
    exact ⟨hd, _, hu, g', rfl, r⟩
  | exit j => obtain ⟨_, _, _, _, _, _, hx⟩ := hq; exact hx.elim
  | ret =>
    obtain ⟨env, os1, gs1, hr, hd, hbel, hx⟩ := hq
    obtain ⟨u, hu, g', _, rfl, r⟩ := fin hr hbel hx
    exact ⟨hd, _, hu, g', rfl, r⟩
  | goto l => exact (hq : False).elim
  | panic ch => exact (hq : False).elim
  | outgrown => exact (hq : False).elim
theorem AFnP.start {P : Program} {f : FuncId} {fn : Func} {nt : Nat} {as0 : List Value} {T e e2 : TypeId} {L L' : List (List Int)} {v : Value} (hf : P.funcs[f]? = some fn) (hnt : fn.ntmps = nt) {c : Code} (hb : fn.body = some c) (hnm : (fn.name == "runtime.NumGoroutine") = false)
    (h : ∀ K, AWp P c (CntEnd P fn T e e2 L' v K) (fun _ _ _ => False) (CntEnd P fn T e e2 L' v K) (Env.start (.optr 1 0 :: as0.map AV.val) (nt - (as0.length + 1))) [.keep 2 K, .bx T [.own 2], .sls e e2 L]) :
    AFnP P f as0 T e e2 L L' v := AFnP.of hf hb hnm (by rw [hnt]) rfl h

section
variable {P : Program} {env : Env} {os : List AO} {d : Option Tmp} {ty : TypeId} {pos : String} {af : Array Edge} {g : Option (Nat × Bool)}
end
section
variable {P : Program} {env : Env} {os : List AO} {d : Tmp} {ty : TypeId} {pos : String} {af : Array Edge} {g : Option (Nat × Bool)} {l rest : List Oper} {K : APost} {q : Md}
end
end Go.Proofs.Ytdkociacaagcoaa
/-
  Functions that are handed a pointer to one object and things that are only read beside it; closures with such a pointer and a row. No condition.
-/
namespace Go.Proofs.Ytdkociacaagcoaa
open Go Go.RowKit
set_option linter.unusedVariables false

def pinOb (q : Ob) (B : Nat) (V : Value) : Ob where
  p base w g := q.p base w g ∧ g.b = B ∧ g.v = V
  up hb h := ⟨q.up hb h.1, h.2⟩
  lower hl h := ⟨q.lower hl h.1, h.2⟩
  one h := q.one h.1

/-- The function turns the object q that it is handed into q', and hands back v. -/
def AFnO (P : Program) (f : FuncId) (args : List AV) (q q' : Ob) (v : Value) : Prop :=
  HasBody P f ∧ ∀ base w g vs, base ≤ w.heap.size → q.p base w g → (∀ b, b ∈ g.bl → base ≤ b ∧ b < w.heap.size) → vs.size = args.length → (∀ i : Nat, RV w (okOf [g] [.ob q]) [g] (vs.getD i undef) (args.getD i .any)) →
    Calls P f vs w fun e w' => ∃ g' : Gh, e = .returned v ∧ g'.v = g.v ∧ g'.b = g.b ∧ q'.p base w' g' ∧ (∀ b, b ∈ g'.bl → (b ∈ g.bl ∨ w.heap.size ≤ b) ∧ b < w'.heap.size) ∧ Below base w w' ∧ ∀ b, b < w.heap.size → b ∉ g.bl → w'.heap[b]? = w.heap[b]?
theorem okOf_ob {g : Gh} {q q2 : Ob} : okOf [g] [.ob q] = okOf [g] [.ob q2] := by
  have key : ∀ {q q2 : Ob} {b : Nat}, okOf [g] [.ob q] b → okOf [g] [.ob q2] b := by
    intro q q2 b h i x y hx hy _
    match i with
    | 0 => exact h 0 x (.ob q) hx rfl trivial
    | i + 1 => simp at hx
  funext b
  exact propext ⟨key, key⟩
theorem AFnO.pin {P : Program} {f : FuncId} {args : List AV} {q q' : Ob} {v : Value} (h : AFnO P f args q q' v) (B : Nat) (V : Value) : AFnO P f args (pinOb q B V) (pinOb q' B V) v := by
  refine ⟨h.1, fun base w g vs hb hq hn hs hv => ?_⟩
  refine (h.2 base w g vs hb hq.1 hn hs fun i => ?_).mono ?_
  · rw [okOf_ob (q2 := pinOb q B V)]; exact hv i
  · rintro e w' ⟨g', h1, h2, h3, h4, h5⟩
    exact ⟨g', h1, h2, h3, ⟨h4, by rw [h3]; exact hq.2.1, by rw [h2]; exact hq.2.2⟩, h5⟩
theorem AFnO.drop {P : Program} {f : FuncId} {args : List AV} {q q' : Ob} {v : Value} {B : Nat} {V : Value} (h : AFnO P f args q (pinOb q' B V) v) : AFnO P f args q q' v := by
  refine ⟨h.1, fun base w g vs hb hq hn hs hv => (h.2 base w g vs hb hq hn hs hv).mono ?_⟩
  rintro e w' ⟨g', h1, h2, h3, h4, h5⟩
  exact ⟨g', h1, h2, h3, h4.1, h5⟩
theorem AFnO.of {P : Program} {f : FuncId} {fn : Func} {c : Code} {args args' : List AV} {q q' : Ob} {v : Value} {n : Nat} (hf : P.funcs[f]? = some fn) (hb : fn.body = some c) (hnm : (fn.name == "runtime.NumGoroutine") = false) (hn : fn.ntmps - args.length = n) (ha : args' = args.map (AV.sh 1))
    (h : ∀ K B V, AWp P c (fun env (os : List AO) => ∃ k : Nat, ResIs P fn env os (.val v) ∧ os[k]? = some (.ob (pinOb q' B V)) ∧ os[0]? = some (.keep 1 K)) (fun _ _ _ => False) (fun env (os : List AO) => ∃ k : Nat, ResIs P fn env os (.val v) ∧ os[k]? = some (.ob (pinOb q' B V)) ∧ os[0]? = some (.keep 1 K)) (Env.start args' n) [.keep 1 K, .ob (pinOb q B V)]) :
    AFnO P f args q q' v := by
  refine ⟨⟨fn, c, hf, hnm, hb⟩, fun base w g vs hbase hq hn0 hsz hvs => calls_of_wp hf hb ?_⟩
  rw [show fn.ntmps - vs.size = n by rw [hsz]; exact hn]
  have h := fun K => h K g.b g.v
  let bl : List Nat := (List.range w.heap.size).filter fun b => decide (base ≤ b) && !g.bl.contains b
  let gk : Gh := ⟨undef, 0, bl, []⟩
  let K : Kp := ⟨fun b => w.heap[b]?, [gk]⟩
  let oo : AO := .ob (pinOb q g.b g.v)
  have hbl : ∀ b, b ∈ bl ↔ b < w.heap.size ∧ base ≤ b ∧ b ∉ g.bl := by
    intro b
    simp only [bl, List.mem_filter, List.mem_range, Bool.and_eq_true, decide_eq_true_eq, Bool.not_eq_true', List.contains_eq_mem, decide_eq_false_iff_not]
  have gg : ∀ {i : Nat} {x : Gh}, [gk, g][i]? = some x → (i = 0 ∧ x = gk) ∨ (i = 1 ∧ x = g) := by
    intro i x hx
    match i with
    | 0 => simp at hx; exact .inl ⟨rfl, hx.symm⟩
    | 1 => simp at hx; exact .inr ⟨rfl, hx.symm⟩
    | i + 2 => simp at hx
  have go : ∀ {i : Nat} {x : AO}, [AO.keep 1 K, oo][i]? = some x → (i = 0 ∧ x = .keep 1 K) ∨ (i = 1 ∧ x = oo) := by
    intro i x hx
    match i with
    | 0 => simp at hx; exact .inl ⟨rfl, hx.symm⟩
    | 1 => simp at hx; exact .inr ⟨rfl, hx.symm⟩
    | i + 2 => simp at hx
  have hkeep : Keeps (okOf [g] [.ob q]) (okOf [gk, g] [.keep 1 K, oo]) w w := by
    intro b hbk _
    refine ⟨fun i x y hx hy hny hm => ?_, rfl⟩
    rcases gg hx with ⟨rfl, rfl⟩ | ⟨rfl, rfl⟩
    · rcases go hy with ⟨_, rfl⟩ | ⟨h0, _⟩
      · exact hny.elim
      · omega
    · rcases go hy with ⟨h0, _⟩ | ⟨_, rfl⟩
      · omega
      · exact hbk 0 _ _ rfl rfl trivial hm
  have hrel : Rel base w [gk, g] (Env.start args' n) [.keep 1 K, oo] (vs ++ Array.replicate n undef) := by
    refine ⟨hbase, rfl, by simp [Env.start, hsz, ha], fun i => start_rv args' n vs (fun i => ?_) i, ?_, ?_, ?_⟩
    · rw [ha, getD_map_any _ rfl]
      have := (hvs i).sh (gs0 := [gk]) hkeep
      exact this
    · intro i x y hx hy
      rcases gg hx with ⟨rfl, rfl⟩ | ⟨rfl, rfl⟩
      · rcases go hy with ⟨_, rfl⟩ | ⟨h0, _⟩
        · exact ⟨fun b _ => rfl, rfl, fun i x h => by
            match i with
            | 0 => exact h
            | i + 1 => simp [K] at h⟩
        · omega
      · rcases go hy with ⟨h0, _⟩ | ⟨_, rfl⟩
        · omega
        · exact ⟨hq, rfl, rfl⟩
    · intro i j g1 g2 o1 o2 hij hg1 hg2 ho1 ho2 _ _ b hb1 hb2
      rcases gg hg1 with ⟨rfl, rfl⟩ | ⟨rfl, rfl⟩
      · rcases gg hg2 with ⟨rfl, rfl⟩ | ⟨rfl, rfl⟩
        · exact hij rfl
        · exact ((hbl b).1 hb1).2.2 hb2
      · rcases gg hg2 with ⟨rfl, rfl⟩ | ⟨rfl, rfl⟩
        · exact ((hbl b).1 hb2).2.2 hb1
        · exact hij rfl
    · intro i x y hx hy _ b hb
      rcases gg hx with ⟨rfl, rfl⟩ | ⟨rfl, rfl⟩
      · exact ⟨((hbl b).1 hb).2.1, ((hbl b).1 hb).1⟩
      · exact hn0 b hb
  have fin : ∀ {env : Env} {os1 : List AO} {gs2 : List Gh} {a : Act} {w' : World}, Rel base w' gs2 env os1 a.tmps → Below base w w' → (∃ k : Nat, ResIs P fn env os1 (.val v) ∧ os1[k]? = some (AO.ob (pinOb q' g.b g.v)) ∧ os1[0]? = some (.keep 1 K)) →
      ∃ u, (results fn a.tmps).run P w' = .ok u w' ∧ ∃ g' : Gh, Exit.ret = Exit.ret ∧ u = v ∧ g'.v = g.v ∧ g'.b = g.b ∧ q'.p base w' g' ∧ (∀ b, b ∈ g'.bl → (b ∈ g.bl ∨ w.heap.size ≤ b) ∧ b < w'.heap.size) ∧ Below base w w' ∧ ∀ b, b < w.heap.size → b ∉ g.bl → w'.heap[b]? = w.heap[b]? := by
    intro env os1 gs2 a w' hr hbel ⟨k, hres, hok, hkp⟩
    obtain ⟨u, hu, hv⟩ := hres _ _ _ _ hr
    cases hv
    have hltk : k < gs2.length := by rw [hr.hl]; exact (List.getElem?_eq_some_iff.1 hok).1
    obtain ⟨g', hg'⟩ : ∃ g', gs2[k]? = some g' := ⟨_, List.getElem?_eq_getElem hltk⟩
    have hlt0 : 0 < gs2.length := by rw [hr.hl]; exact (List.getElem?_eq_some_iff.1 hkp).1
    obtain ⟨g0, hg0⟩ : ∃ g0, gs2[0]? = some g0 := ⟨_, List.getElem?_eq_getElem hlt0⟩
    obtain ⟨r1, r2, r3⟩ := hr.ho _ _ _ hg0 hkp
    have egk : g0 = gk := by
      have := r3 0 gk rfl
      rw [hg0] at this
      exact Option.some.inj this
    subst egk
    have hk0 : k ≠ 0 := fun e => by subst e; rw [hkp] at hok; cases hok
    obtain ⟨hro1, hro2, hro3⟩ := hr.ho _ _ _ hg' hok
    refine ⟨v, hu, g', rfl, rfl, hro3, hro2, hro1, fun b hb => ?_, hbel, fun b hb hnot => ?_⟩
    · have hbn := hr.hn _ _ _ hg' hok (by simp) b hb
      refine ⟨?_, hbn.2⟩
      by_cases hbw : b < w.heap.size
      · left
        apply Classical.byContradiction
        intro hnb
        exact hr.hd k 0 g' _ _ _ hk0 hg' hg0 hok hkp (by simp) (by simp) b hb ((hbl b).2 ⟨hbw, hbn.1, hnb⟩)
      · right; omega
    · rcases Nat.lt_or_ge b base with h6 | h6
      · exact hbel.block b h6
      · exact r1 b ((hbl b).2 ⟨hb, h6, hnot⟩)
  refine wp_mono (h K base w w _ _ hrel (Below.refl _ _)) ?_
  intro e a w' hq
  cases e with
  | normal =>
    obtain ⟨env, os1, gs1, hr, hd, hbel, hx⟩ := hq
    obtain ⟨u, hu, g', _, rfl, r⟩ := fin hr hbel hx
    exact ⟨hd, _, hu, g', rfl, r⟩
  | exit j => obtain ⟨_, _, _, _, _, _, hx⟩ := hq; exact hx.elim
  | ret =>
    obtain ⟨env, os1, gs1, hr, hd, hbel, hx⟩ := hq
    obtain ⟨u, hu, g', _, rfl, r⟩ := fin hr hbel hx
    exact ⟨hd, _, hu, g', rfl, r⟩
  | goto l => exact (hq : False).elim
  | panic ch => exact (hq : False).elim
  | outgrown => exact (hq : False).elim
theorem AFnO.start {P : Program} {f : FuncId} {fn : Func} {nt : Nat} {args : List AV} {q q' : Ob} {v : Value} (hf : P.funcs[f]? = some fn) (hnt : fn.ntmps = nt) {c : Code} (hb : fn.body = some c) (hnm : (fn.name == "runtime.NumGoroutine") = false)
    (h : ∀ K B V, AWp P c (fun env (os : List AO) => ∃ k : Nat, ResIs P fn env os (.val v) ∧ os[k]? = some (.ob (pinOb q' B V)) ∧ os[0]? = some (.keep 1 K)) (fun _ _ _ => False) (fun env (os : List AO) => ∃ k : Nat, ResIs P fn env os (.val v) ∧ os[k]? = some (.ob (pinOb q' B V)) ∧ os[0]? = some (.keep 1 K)) (Env.start (args.map (AV.sh 1)) (nt - args.length)) [.keep 1 K, .ob (pinOb q B V)]) :
    AFnO P f args q q' v := AFnO.of hf hb hnm (by rw [hnt]) rfl h

/-! ### Calls -/
def ImmO (os : List AO) (h : Nat) (a a' : AV) : Prop := (∃ i, a = .optr h i ∧ a' = .optr 0 i) ∨ ImmU os [h] a a'
def ImmOs (os : List AO) (h : Nat) : List AV → List AV → Prop
  | [], [] => True
  | a :: as0, b :: bs => ImmO os h a b ∧ ImmOs os h as0 bs
  | _, _ => False
theorem ImmOs.get {os : List AO} {h : Nat} : ∀ {l l' : List AV}, ImmOs os h l l' → l.length = l'.length ∧ ∀ i : Nat, ImmO os h (l.getD i .any) (l'.getD i .any)
  | [], [], _ => ⟨rfl, fun _ => .inr (.any _)⟩
  | a :: l, b :: l', hh => by
    obtain ⟨h1, h2⟩ := hh
    have ih := ImmOs.get h2
    refine ⟨by simp [ih.1], fun i => ?_⟩
    match i with
    | 0 => exact h1
    | i + 1 => exact ih.2 i
  | [], _ :: _, hh => hh.elim
  | _ :: _, [], hh => hh.elim

section
variable {P : Program} {env : Env} {os : List AO} {d : Option Tmp} {ty : TypeId} {pos : String} {af : Array Edge} {g : Option (Nat × Bool)}
/-- What a call of such a function leaves. -/
theorem AFnO.leaves {f : FuncId} {args : List AV} {q q' : Ob} {v : Value} (e2 : TypeId) (hc : AFnO P f args q q' v) {h : Nat} (hs : os[h]? = some (.ob q)) {base : Nat} {w : World} {gs : List Gh} {tm : Array Value} (hr : Rel base w gs env os tm) {gh : Gh} (hgh : gs[h]? = some gh) {vs : Array Value} (hsz : vs.size = args.length) (hvs : ∀ i : Nat, RV w (okOf [gh] [.ob q]) [gh] (vs.getD i undef) (args.getD i .any)) :
    Calls P f vs w fun e w' => ∃ v' r env' os' gs', e = .returned v' ∧ (r = .val v ∧ env' = env.mp (AV.noRow h) ∧ os' = (((os ++ [AO.sli e2 []]).map (AO.via (AV.noRow h) h)).set h (.ob q')).set os.length .dead) ∧ Rel base w' gs' env' os' tm ∧ RV w' (okOf gs' os') gs' v' r ∧ Below base w w' := by
  have hlt : h < os.length := (List.getElem?_eq_some_iff.1 hs).1
  have hgl : h < gs.length := by rw [hr.hl]; exact hlt
  have hq : q.p base w gh := hr.ho _ _ _ hgh hs
  refine (hc.2 base w gh vs hr.hb hq (hr.hn _ _ _ hgh hs (by simp)) hsz hvs).mono ?_
  rintro e w' ⟨g', rfl, hgv, hgb, hro, hbl, hbel, hfr⟩
  let gd : Gh := ⟨.slice none 0 0, 0, [], []⟩
  have hr1 : Rel base w (gs ++ [gd]) env (os ++ [.sli e2 []]) tm := hr.new (Below.refl _ _) (.sli e2 []) gd (fun _ b hb => by simp [gd] at hb) ⟨World.ownsRow_nil w base e2 1, fun x hx => by simp at hx, .inl ⟨rfl, rfl⟩⟩
  have hg1 : (gs ++ [gd])[h]? = some gh := by rw [List.getElem?_append_left hgl]; exact hgh
  have hs1 : (os ++ [AO.sli e2 []])[h]? = some (.ob q) := by rw [List.getElem?_append_left hlt]; exact hs
  have hgd : (gs ++ [gd])[os.length]? = some gd := by rw [← hr.hl]; simp
  have hod : (os ++ [AO.sli e2 []])[os.length]? = some (.sli e2 []) := by simp
  have sv : SameV h (gs ++ [gd]) ((gs ++ [gd]).set h g') := by
    refine ⟨fun j z hj hz => ?_, fun z hz => ⟨g', by rw [List.getElem?_set_self (by rw [List.length_append]; omega)], ?_⟩⟩
    · rw [List.getElem?_set, if_neg (fun e => hj e.symm)]; exact hz
    · rw [hg1] at hz; cases hz; exact ⟨hgv, hgb⟩
  refine ⟨v, .val v, _, _, (gs ++ [gd]).set h g', rfl, ⟨rfl, rfl, rfl⟩, hr1.absorb hg1 hs1 trivial hgd hod trivial (by omega) g' _ (AV.noRow h) rfl hfr hbel.size ?_ (fun kp hv => hv.noRow kp sv) (fun _ => hro), .val _, hbel⟩
  intro b hb
  have := hbl b hb
  refine ⟨?_, this.2⟩
  rcases this.1 with h1 | h1
  · exact .inl h1
  · exact .inr (.inr h1)
theorem ImmO.rv {q : Ob} {h : Nat} (hs : os[h]? = some (.ob q)) {base : Nat} {w : World} {gs : List Gh} {tm : Array Value} (hr : Rel base w gs env os tm) {gh : Gh} (hgh : gs[h]? = some gh) {a a' : AV} (hi : ImmO os h a a') {v : Value} (hv : RV w (okOf gs os) gs v a) : RV w (okOf [gh] [.ob q]) [gh] v a' := by
  have hh : Handed os [h] [.ob q] := handed1 hs True.intro
  have esel : selG gs [h] = [gh] := by simp [selG, hgh]
  rcases hi with ⟨i, rfl, rfl⟩ | hi
  · cases hv with
    | optr hg => rw [hgh] at hg; cases hg; exact .optr rfl
  · have := hi.rv hr hh hv
    rw [esel] at this
    exact this
/-! ### A closure that holds a pointer to the object and the place of a row -/
def cloRo (f0 : FuncId) (V : Value) (xs : List Int) : Ro where
  p w ok v := ∃ u, v = .func (.func f0) #[] #[V, eptr u 0] ∧ IntssAt w ok u [xs]
  up k h := by
    obtain ⟨u, h1, h2⟩ := h
    exact ⟨u, h1, h2.mono k⟩
end
section
variable {P : Program} {env : Env} {os : List AO} {l rest : List Oper} {K : APost}
/-- The object's place has a name, from now on. -/
theorem AOps.pin (h : Nat) {q : Ob} (hs : os[h]? = some (.ob q)) (hqv : ∀ base w g, q.p base w g → g.v = .pointer (some ⟨g.b, 0, none⟩)) (h' : ∀ B V, V = .pointer (some ⟨B, 0, none⟩) → AOps P .seq l rest K env (os.set h (.ob (pinOb q B V)))) : AOps P .seq l rest K env os := by
  intro base w0 w gs tm hr hb X Rt
  have hgl : h < gs.length := by rw [hr.hl]; exact (List.getElem?_eq_some_iff.1 hs).1
  obtain ⟨gh, hg⟩ : ∃ x, gs[h]? = some x := ⟨_, List.getElem?_eq_getElem hgl⟩
  refine h' gh.b gh.v (hqv _ _ _ (hr.ho _ _ _ hg hs)) base w0 w gs tm ?_ hb X Rt
  exact hr.upd hg hs trivial _ trivial (fun _ _ _ => rfl) (Nat.le_refl _) fun _ => ⟨hr.ho _ _ _ hg hs, rfl, rfl⟩
end
section
variable {P : Program} {env : Env} {os : List AO} {d : Tmp} {ty : TypeId} {pos : String} {af : Array Edge} {l rest : List Oper} {K : APost}
end
end Go.Proofs.Ytdkociacaagcoaa
/-
  Arithmetic that may wrap; lists that a function tabulates. No condition.
-/
namespace Go.Proofs.Ytdkociacaagcoaa
open Go Go.RowKit
set_option linter.unusedSimpArgs false

/-- The number that int64 holds in place of x. -/
def wr (x : Int) : Int := IntKind.i64.wrap x
theorem wr_eq (x : Int) : ∃ k : Int, wr x = x + 18446744073709551616 * k := by
  unfold wr
  rw [IntKind.wrap_i64]
  exact ⟨-((x + 9223372036854775808) / 18446744073709551616), by omega⟩
theorem wr_in (x : Int) : inI (wr x) := by
  unfold wr inI
  rw [IntKind.wrap_i64]
  omega
theorem wr_of {x : Int} (h : inI x) : wr x = x := by
  unfold inI at h
  unfold wr
  rw [IntKind.wrap_i64]
  omega
theorem wr_cong {x y k : Int} (h : x = y + 18446744073709551616 * k) : wr x = wr y := by
  unfold wr
  rw [IntKind.wrap_i64, IntKind.wrap_i64, h]
  omega
theorem wr_wr (x : Int) : wr (wr x) = wr x := wr_of (wr_in x)
theorem wr_add (x y : Int) : wr (wr x + wr y) = wr (x + y) := by
  obtain ⟨a, ha⟩ := wr_eq x
  obtain ⟨b, hb⟩ := wr_eq y
  exact wr_cong (k := a + b) (by rw [ha, hb]; omega)
theorem wr_sub (x y : Int) : wr (wr x - wr y) = wr (x - y) := by
  obtain ⟨a, ha⟩ := wr_eq x
  obtain ⟨b, hb⟩ := wr_eq y
  exact wr_cong (k := a - b) (by rw [ha, hb]; omega)
theorem wr_mul (x y : Int) : wr (wr x * wr y) = wr (x * y) := by
  obtain ⟨a, ha⟩ := wr_eq x
  obtain ⟨b, hb⟩ := wr_eq y
  refine wr_cong (k := x * b + a * y + 18446744073709551616 * (a * b)) ?_
  rw [ha, hb]
  grind

section
variable {P : Program} {wl : Bool} {env : Env} {os : List AO} {d : Option Tmp} {ty : TypeId} {pos : String} {af : Array Edge} {g : Option (Nat × Bool)}
variable {xt yt : TypeId} {x y : Operand} {a b : Int}
theorem q_addw (ha : AV.ev env x = .i a) (hb : AV.ev env y = .i b) : QOp P wl ⟨d, .binOp .add xt x y yt, ty, pos, af, g⟩ env os (.i (wr (a + b))) :=
  q_bin ha hb (by simp [go_sem]) fun w => by simp [go_sem, wr]
theorem q_subw (ha : AV.ev env x = .i a) (hb : AV.ev env y = .i b) : QOp P wl ⟨d, .binOp .sub xt x y yt, ty, pos, af, g⟩ env os (.i (wr (a - b))) :=
  q_bin ha hb (by simp [go_sem]) fun w => by simp [go_sem, wr]
theorem q_mulw (ha : AV.ev env x = .i a) (hb : AV.ev env y = .i b) : QOp P wl ⟨d, .binOp .mul xt x y yt, ty, pos, af, g⟩ env os (.i (wr (a * b))) :=
  q_bin ha hb (by simp [go_sem]) fun w => by simp [go_sem, wr]
end
section
variable {P : Program} {env : Env} {os : List AO} {d : Tmp} {ty : TypeId} {pos : String} {af : Array Edge} {g : Option (Nat × Bool)} {l rest : List Oper} {K : APost} {q : Md} {xt yt : TypeId} {x y : Operand} {a b : Int}
theorem w_addw (hw : wantedA l env ⟨some d, .binOp .add xt x y yt, ty, pos, af, g⟩ = some true) (ha : evo env x = some (.i a)) (hb : evo env y = some (.i b)) (h' : AOps P q l rest K (env.up d (.i (wr (a + b)))) os) : AOps P q l (⟨some d, .binOp .add xt x y yt, ty, pos, af, g⟩ :: rest) K env os := AOps.qo hw (q_addw (ev_of ha) (ev_of hb)) h'
theorem w_subw (hw : wantedA l env ⟨some d, .binOp .sub xt x y yt, ty, pos, af, g⟩ = some true) (ha : evo env x = some (.i a)) (hb : evo env y = some (.i b)) (h' : AOps P q l rest K (env.up d (.i (wr (a - b)))) os) : AOps P q l (⟨some d, .binOp .sub xt x y yt, ty, pos, af, g⟩ :: rest) K env os := AOps.qo hw (q_subw (ev_of ha) (ev_of hb)) h'
theorem w_mulw (hw : wantedA l env ⟨some d, .binOp .mul xt x y yt, ty, pos, af, g⟩ = some true) (ha : evo env x = some (.i a)) (hb : evo env y = some (.i b)) (h' : AOps P q l rest K (env.up d (.i (wr (a * b)))) os) : AOps P q l (⟨some d, .binOp .mul xt x y yt, ty, pos, af, g⟩ :: rest) K env os := AOps.qo hw (q_mulw (ev_of ha) (ev_of hb)) h'
end

/-! ### Tabulated lists -/
def tab (n : Nat) (F : Nat → Int) : List Int := (List.range n).map F
theorem tab_len (n : Nat) (F : Nat → Int) : (tab n F).length = n := by simp [tab]
theorem tab_get {n : Nat} (F : Nat → Int) {i : Nat} (h : i < n) : geti (tab n F) (i : Nat) = F i := by simp [tab, geti, h]
theorem tab_set {n : Nat} (F : Nat → Int) (i : Nat) (v : Int) : (tab n F).set i v = tab n fun k => if k = i then v else F k := by
  apply List.ext_getElem
  · simp [tab]
  · intro k h1 h2
    simp only [tab, List.length_set, List.length_map, List.length_range] at h1 h2
    simp only [List.getElem_set, tab, List.getElem_map, List.getElem_range]
    by_cases e : i = k
    · subst e; simp
    · rw [if_neg e, if_neg (fun h => e h.symm)]
theorem tab_congr {n : Nat} {F G : Nat → Int} (h : ∀ k, k < n → F k = G k) : tab n F = tab n G := by
  unfold tab
  apply List.map_congr_left
  intro k hk
  exact h k (List.mem_range.1 hk)
theorem tab_rep (n : Nat) (c : Int) : List.replicate n c = tab n fun _ => c := by
  apply List.ext_getElem
  · simp [tab]
  · intro k h1 h2; simp [tab]
end Go.Proofs.Ytdkociacaagcoaa
/-
  Prime factors, the totient and the Mobius number in the program. No condition but bounds.
-/
namespace Go.Proofs.Ytdkociacaagcoaa
open Go Go.RowKit
open Cy (prm gpf Upto mob tot)
attribute [local irreducible] AWp AOps ResIs Ret1 QOp LOp COp AFnV AFn Imms LeE LeO
set_option maxHeartbeats 1000000
set_option linter.unusedSimpArgs false
set_option linter.unusedVariables false

theorem prm_pow {q P : Nat} (hq : prm q) : ∀ e : Nat, q ∣ P ^ e → q ∣ P
  | 0, h => by rw [Nat.pow_zero] at h; have := Nat.le_of_dvd (by omega) h; have := hq.1; omega
  | e + 1, h => by
    rw [Nat.pow_succ] at h
    rcases Cy.prm_mul hq h with k | k
    · exact prm_pow hq e k
    · exact k
/-- Rows of primes in ascending order with exponents lead from one product to another. -/
def Chain : Nat → List (List Int) → Nat → Prop
  | N, [], n => N = n
  | N, r :: l, n => ∃ p e : Nat, r = [(p : Int), (e : Int)] ∧ prm p ∧ 1 ≤ e ∧ (∀ q, prm q → q ∣ N → q < p) ∧ Chain (N * p ^ e) l n
theorem Chain.app {l l' : List (List Int)} : ∀ {N M n : Nat}, Chain N l M → Chain M l' n → Chain N (l ++ l') n := by
  induction l with
  | nil => intro N M n h h'; cases h; exact h'
  | cons r l ih =>
    intro N M n h h'
    obtain ⟨p, e, h1, h2, h3, h4, h5⟩ := h
    exact ⟨p, e, h1, h2, h3, h4, ih h5 h'⟩
theorem least_prm {p n : Nat} (h2 : 2 ≤ p) (h : ∀ q, prm q → q ∣ n → p ≤ q) (hd : p ∣ n) : prm p := by
  obtain ⟨q, hq, hqp⟩ := Cy.prm_ex p h2
  have h1 := h q hq (Nat.dvd_trans hqp hd)
  have h3 := Nat.le_of_dvd (by omega) hqp
  have : q = p := by omega
  exact this ▸ hq
structure FcI (n m p N : Nat) (L : List (List Int)) : Prop where
  pr : N * m = n
  m0 : 1 ≤ m
  p2 : 2 ≤ p
  lo : ∀ q, prm q → q ∣ m → p ≤ q
  hi : ∀ q, prm q → q ∣ N → q < p
  ch : Chain 1 L N
  ln : L.length < N
theorem FcI.le {n m p N : Nat} {L : List (List Int)} (h : FcI n m p N L) (hm : 1 < m) : p ≤ m := by
  obtain ⟨q, hq, hd⟩ := Cy.prm_ex m hm
  have := h.lo q hq hd
  have := Nat.le_of_dvd (by omega) hd
  omega
/-- What the inner loop leaves. -/
theorem FcI.next {n m p N : Nat} {L : List (List Int)} (h : FcI n m p N L) {P m' e : Nat} (hp : p ≤ P) (hge : ∀ q, prm q → q ∣ m → q = P ∨ P + 1 ≤ q) (hm : m = m' * P ^ e) (hnd : ¬ P ∣ m') (hpr : P ∣ m → prm P) (m1 : 1 ≤ m') :
    (e = 0 → FcI n m' (P + 1) N L) ∧ (0 < e → FcI n m' (P + 1) (N * P ^ e) (L ++ [[(P : Int), (e : Int)]])) := by
  have lo : ∀ q, prm q → q ∣ m' → P + 1 ≤ q := fun q hq hd => by
    rcases hge q hq (by rw [hm]; exact Nat.dvd_trans hd ⟨_, rfl⟩) with k | k
    · subst k; exact absurd hd hnd
    · exact k
  constructor
  · intro e0
    subst e0
    rw [Nat.pow_zero, Nat.mul_one] at hm
    exact ⟨by rw [← hm]; exact h.pr, m1, by have := h.p2; omega, lo, fun q hq hd => by have := h.hi q hq hd; omega, h.ch, h.ln⟩
  · intro e0
    have hPm : P ∣ m := by rw [hm]; exact Nat.dvd_trans (Nat.dvd_trans ⟨P ^ (e - 1), by rw [← Nat.pow_succ']; congr 1; omega⟩ (Nat.dvd_refl (P ^ e))) ⟨m', Nat.mul_comm _ _⟩
    have hP := hpr hPm
    have hN : 1 ≤ N := by have := h.ln; omega
    refine ⟨?_, m1, by have := h.p2; omega, lo, fun q hq hd => ?_, h.ch.app ⟨P, e, rfl, hP, e0, fun q hq hd => by have := h.hi q hq hd; omega, rfl⟩, ?_⟩
    · rw [← h.pr, hm, Nat.mul_assoc, Nat.mul_comm (P ^ e)]
    · rcases Cy.prm_mul hq hd with k | k
      · have := h.hi q hq k; omega
      · have := Cy.prm_dvd hq hP (prm_pow hq e k); omega
    · have h2 : 2 ≤ P ^ e := by
        obtain ⟨k, rfl⟩ : ∃ k, e = k + 1 := ⟨e - 1, by omega⟩
        rw [Nat.pow_succ]
        have a := hP.1
        have b : 1 ≤ P ^ k := Nat.pow_pos (by omega)
        have := Nat.mul_le_mul b a
        omega
      have := Nat.mul_le_mul_left N h2
      have := h.ln
      simp
      omega
end Go.Proofs.Ytdkociacaagcoaa
/-
  The totient and the Mobius number in the program. No condition but bounds.
-/
namespace Go.Proofs.Ytdkociacaagcoaa
open Go Go.RowKit
open Cy (prm gpf Upto mob tot)
attribute [local irreducible] AWp AOps ResIs Ret1 QOp LOp COp AFnV AFn Imms LeE LeO
set_option maxHeartbeats 1000000
set_option linter.unusedSimpArgs false
set_option linter.unusedVariables false

theorem Chain.dvd {l : List (List Int)} : ∀ {N n : Nat}, Chain N l n → N ∣ n := by
  induction l with
  | nil => intro N n h; cases h; exact Nat.dvd_refl _
  | cons r l ih =>
    intro N n h
    obtain ⟨p, e, _, _, _, _, h5⟩ := h
    exact Nat.dvd_trans ⟨_, rfl⟩ (ih h5)
theorem tot_pos {n : Nat} (h : 0 < n) : 1 ≤ tot n ∧ tot n ≤ n := (Cy.phi_deg n h).2.2
/-- The next row. -/
theorem Chain.row {L : List (List Int)} {N n i : Nat} (h : Chain N (L.drop i) n) (hi : i < L.length) : ∃ p e : Nat, L.getD i [] = [(p : Int), (e : Int)] ∧ prm p ∧ 1 ≤ e ∧ (∀ q, prm q → q ∣ N → q < p) ∧ Chain (N * p ^ e) (L.drop (i + 1)) n := by
  rw [List.drop_eq_getElem_cons hi] at h
  obtain ⟨p, e, h1, h2⟩ := h
  exact ⟨p, e, by rw [List.getD_eq_getElem?_getD, List.getElem?_eq_getElem hi]; exact h1, h2⟩

end Go.Proofs.Ytdkociacaagcoaa
/-
  The cyclotomic polynomial in the program. No condition but bounds.
-/
namespace Go.Proofs.Ytdkociacaagcoaa
open Go Go.RowKit
open Cy (prm gpf Upto mob tot Phi moL Fs Ser)
attribute [local irreducible] AWp AOps ResIs Ret1 QOp LOp COp AFnV AFn Imms LeE LeO
set_option maxHeartbeats 1000000
set_option linter.unusedSimpArgs false
set_option linter.unusedVariables false

/-- The coefficients of the cyclotomic polynomial, as int64 holds them. -/
noncomputable def phiW (n : Nat) : List Int := tab (tot n + 1) fun c => wr (Phi n c)
def up (S : Nat) (f g : Ser) (i : Nat) : List Int := tab S fun c => if c < i then wr (g c) else wr (f c)
theorem wr_small {x : Int} (h : -1 ≤ x ∧ x ≤ 1) : wr x = x := wr_of (by unfold inI; omega)
theorem phiW_one : phiW 1 = [-1, 1] := by
  unfold phiW
  rw [Cy.tot_one, Cy.Phi_one]
  show [wr (Cy.xp 1 0), wr (Cy.xp 1 1)] = [-1, 1]
  have e0 : Cy.xp 1 0 = -1 := by simp [Cy.xp, Cy.add, Cy.neg, Cy.sh, Cy.one]
  have e1 : Cy.xp 1 1 = 1 := by simp [Cy.xp, Cy.add, Cy.neg, Cy.sh, Cy.one]
  rw [e0, e1, wr_small (by omega), wr_small (by omega)]
end Go.Proofs.Ytdkociacaagcoaa
/-
  A copy of a list. No condition but a bound on the size.
-/
namespace Go.Proofs.Ytdkociacaagcoaa
open Go Go.RowKit
attribute [local irreducible] AWp AOps ResIs Ret1 QOp LOp COp AFnV AFn Imms LeE LeO
set_option maxHeartbeats 1000000
set_option linter.unusedSimpArgs false
set_option linter.unusedVariables false

theorem l01Own_c (xs : List Int) (h2 : xs.length ≤ 1048576) : AFn Try.prog 73 [.ints xs] (IsInts 2 xs) := by
  (refine AFn.start Try.func73 Try.ntmps73 rfl (by kernel_rfl) fun hk => ?_; simp only [Env.start, enumF, List.length_cons, List.length_nil, Nat.reduceAdd, Nat.reduceSub, List.cons_append, List.nil_append])
  repeat' (first
  | (apply AOps.nil; try simp only [List.nil_append, List.cons_append, List.set_cons_zero, List.set_cons_succ, List.length_cons, List.length_nil, Nat.reduceAdd, AV.sh, AV.sh1, AV.sh0, AO.sh, List.map_cons, List.map_nil, Nat.zero_add, Nat.add_zero, setAll])
  | ((apply AOps.splitP; exact rfl; exact rfl) <;> intro h)
  | ((apply AOps.splitN; exact rfl; exact rfl) <;> intro h)
  | (apply w_move; exact rfl; exact rfl)
  | (apply w_assign; exact rfl; exact rfl)
  | apply AWp.seq
  | apply AWp.region
  | ((apply AWp.condP; exact rfl) <;> intro h)
  | ((apply AWp.condN; exact rfl) <;> intro h)
  | (apply AWp.condT; exact rfl)
  | (apply AWp.condF; exact rfl)
  | ((apply AWp.condB; exact rfl) <;> intro h)
  | apply AWp.block
  | apply AWp.ret
  | apply AWp.exit
  | apply AWp.skip
  | (apply AWp.regionQ; kernel_rfl; kernel_rfl)
  | (apply if_pos'; exact rfl)
  | (apply if_neg'; decide)
  | (apply w_skip; exact rfl)
  | (apply w_pickT; exact rfl; exact rfl; exact rfl)
  | (apply w_pickF; exact rfl; exact rfl; exact rfl)
  | (apply w_len; exact rfl; exact rfl; first | exact .ints _ | exact .intss _ | exact .sli rfl | exact .sls rfl | exact .slr rfl | exact .orow rfl | exact .nil)
  | ((first | apply w_lss | apply w_leq | apply w_gtr | apply w_geq | apply w_eql | apply w_neq | apply w_add | apply w_sub | apply w_mul | apply w_idx | apply w_ld | apply w_fld | apply w_fa | apply w_extv | apply w_min | apply w_max | apply w_slhi | apply w_sllo | apply w_bs2); iterate 3 exact rfl)
  | ((first | apply w_eqlb | apply w_neqb | apply w_idxs | apply w_lds | apply w_ext); iterate 3 exact rfl)
  | (apply w_rem; exact rfl; exact rfl; exact rfl; (focus (omega; done)); (focus (omega; done)))
  | (apply w_quo; exact rfl; exact rfl; exact rfl; (focus (omega; done)); (focus (omega; done)))
  | (apply w_remT; exact rfl; exact rfl; exact rfl)
  | (apply w_quoT; exact rfl; exact rfl; exact rfl)
  | ((first | apply w_not | apply w_neg | apply w_conv | apply w_build0 | apply w_bs1 | apply w_boxa); iterate 2 exact rfl)
  | (apply w_idxo; exact rfl; exact rfl; (first | exact .sli rfl | exact .sls rfl | exact .slr rfl); exact rfl)
  | ((first | apply w_idxr | apply w_ldr); iterate 4 exact rfl)
  | (apply w_ldo; iterate 4 exact rfl)
  | (apply w_ldls; iterate 4 exact rfl)
  | (apply w_ldrp; iterate 4 exact rfl)
  | (apply w_ldb; iterate 5 exact rfl)
  | (apply w_ldst; iterate 5 exact rfl)
  | ((first | apply w_sllh | apply w_stbi); iterate 4 exact rfl)
  | ((first | apply w_oslo | apply w_oshi | apply w_stbii); iterate 4 exact rfl)
  | (apply w_copy; exact rfl; (first | exact .own rfl rfl rfl | exact .osub); exact rfl; rotate_left 1; exact rfl; (first | exact .ints _ | exact .sli rfl | exact .orow rfl | exact .nil | exact .osub rfl (by simp; omega)))
  | (apply w_build1; exact rfl; exact rfl; (first | exact one_val rfl rfl | exact one_ints | exact one_intss | exact one_own rfl True.intro))
  | (apply w_build2; exact rfl; exact rfl; exact rfl; (first | exact one_val rfl rfl | exact one_ints | exact one_intss | exact one_own rfl True.intro); (first | exact one_val rfl rfl | exact one_ints | exact one_intss | exact one_own rfl True.intro))
  | (apply w_bs0; iterate 1 exact rfl)
  | (apply w_appn; exact rfl; exact rfl; (first | exact .ints _ | exact .sli rfl | exact .orow rfl | exact .nil | exact .osub rfl (by simp; omega)); exact rfl)
  | (apply w_app; exact rfl; exact rfl; exact rfl; exact rfl; (first | exact .ints _ | exact .sli rfl | exact .orow rfl | exact .nil | exact .osub rfl (by simp; omega)); rotate_left 1; simp only [Env.mp, List.map_cons, List.map_nil, List.set_cons_zero, List.set_cons_succ, AV.kill, AV.kill1, AO.kill, AV.noRow, AV.noRow1, AO.via, reduceIte, Nat.reduceEqDiff, Nat.reduceLT, Env.up, Nat.zero_ne_one, Nat.one_ne_zero, Nat.reduceAdd, List.cons_append, List.nil_append]; rotate_left 1)
  | (apply w_alst; iterate 2 exact rfl)
  | (apply w_alone; iterate 3 exact rfl)
  | (apply w_mki; exact rfl; exact rfl; rotate_left 3; exact rfl; rotate_left 1)
  | (apply w_mkr; exact rfl; exact rfl; rotate_left 3; exact rfl; rotate_left 1)
  | (apply w_strow; exact rfl; exact rfl; rotate_left 1; exact rfl; exact rfl; exact rfl; exact rfl; simp only [Env.mp, List.map_cons, List.map_nil, List.set_cons_zero, List.set_cons_succ, AV.kill, AV.kill1, AO.kill, AV.noRow, AV.noRow1, AO.via, reduceIte, Nat.reduceEqDiff, Nat.reduceLT, Env.up, Nat.zero_ne_one, Nat.one_ne_zero, Nat.reduceAdd, List.cons_append, List.nil_append]; rotate_left 1)
  | (apply w_sti; exact rfl; exact rfl; rotate_left 1; exact rfl; rotate_left 2)
  | (apply w_stst; iterate 5 exact rfl)
  | (apply w_stbv; iterate 6 exact rfl)
  | (apply w_stbo; exact rfl; exact rfl; exact rfl; exact rfl; exact rfl; exact True.intro)
  | ((apply AOps.splitB; exact rfl; exact rfl) <;> intro h)
  | apply AllOf.nil
  | (apply AllOf.cons; exact rfl)
  | (apply AAny.take; exact rfl; exact rfl; kernel_rfl; kernel_rfl)
  | (apply AAny.all; exact rfl)
  | (apply AAny.done; exact rfl)
  | (apply inI_of <;> omega)
  | omega
  | (simp <;> omega))
  all_goals exact ⟨_, _, _, .v1 Try.results73 rfl, .sli rfl, rfl, rfl⟩
theorem clone_c (xs : List Int) (h1 : 0 < xs.length) (h2 : xs.length ≤ 1048576) : AFn Try.prog 52 [.ints xs] (IsInts 2 xs) := by
  (refine AFn.start Try.func52 Try.ntmps52 rfl (by kernel_rfl) fun hk => ?_; simp only [Env.start, enumF, List.length_cons, List.length_nil, Nat.reduceAdd, Nat.reduceSub, List.cons_append, List.nil_append])
  repeat' (first
  | (apply AOps.nil; try simp only [List.nil_append, List.cons_append, List.set_cons_zero, List.set_cons_succ, List.length_cons, List.length_nil, Nat.reduceAdd, AV.sh, AV.sh1, AV.sh0, AO.sh, List.map_cons, List.map_nil, Nat.zero_add, Nat.add_zero, setAll])
  | ((apply AOps.splitP; exact rfl; exact rfl) <;> intro h)
  | ((apply AOps.splitN; exact rfl; exact rfl) <;> intro h)
  | (apply w_move; exact rfl; exact rfl)
  | (apply w_assign; exact rfl; exact rfl)
  | apply AWp.seq
  | apply AWp.region
  | ((apply AWp.condP; exact rfl) <;> intro h)
  | ((apply AWp.condN; exact rfl) <;> intro h)
  | (apply AWp.condT; exact rfl)
  | (apply AWp.condF; exact rfl)
  | ((apply AWp.condB; exact rfl) <;> intro h)
  | apply AWp.block
  | apply AWp.ret
  | apply AWp.exit
  | apply AWp.skip
  | (apply AWp.regionQ; kernel_rfl; kernel_rfl)
  | (apply if_pos'; exact rfl)
  | (apply if_neg'; decide)
  | (apply w_skip; exact rfl)
  | (apply w_pickT; exact rfl; exact rfl; exact rfl)
  | (apply w_pickF; exact rfl; exact rfl; exact rfl)
  | (apply w_len; exact rfl; exact rfl; first | exact .ints _ | exact .intss _ | exact .sli rfl | exact .sls rfl | exact .slr rfl | exact .orow rfl | exact .nil)
  | ((first | apply w_lenos | apply w_not | apply w_neg | apply w_conv | apply w_build0 | apply w_bs1 | apply w_boxa); iterate 2 exact rfl)
  | (apply w_idxos; iterate 3 exact rfl)
  | ((first | apply w_osubhi | apply w_alone); iterate 3 exact rfl)
  | (apply w_eqnil; iterate 2 exact rfl)
  | ((first | apply w_lss | apply w_leq | apply w_gtr | apply w_geq | apply w_eql | apply w_neq | apply w_add | apply w_sub | apply w_mul | apply w_idx | apply w_ld | apply w_fld | apply w_fa | apply w_extv | apply w_min | apply w_max | apply w_slhi | apply w_sllo | apply w_bs2); iterate 3 exact rfl)
  | ((first | apply w_eqlb | apply w_neqb | apply w_idxs | apply w_lds | apply w_ext); iterate 3 exact rfl)
  | (apply w_rem; exact rfl; exact rfl; exact rfl; (focus (omega; done)); (focus (omega; done)))
  | (apply w_quo; exact rfl; exact rfl; exact rfl; (focus (omega; done)); (focus (omega; done)))
  | (apply w_remT; exact rfl; exact rfl; exact rfl)
  | (apply w_quoT; exact rfl; exact rfl; exact rfl)
  | (apply w_idxo; exact rfl; exact rfl; (first | exact .sli rfl | exact .sls rfl | exact .slr rfl); exact rfl)
  | ((first | apply w_idxr | apply w_ldr); iterate 4 exact rfl)
  | (apply w_ldo; iterate 4 exact rfl)
  | (apply w_ldls; iterate 4 exact rfl)
  | (apply w_ldrp; iterate 4 exact rfl)
  | (apply w_ldb; iterate 5 exact rfl)
  | (apply w_ldst; iterate 5 exact rfl)
  | ((first | apply w_sllh | apply w_stbi); iterate 4 exact rfl)
  | ((first | apply w_oslo | apply w_oshi | apply w_stbii); iterate 4 exact rfl)
  | (apply w_copy; exact rfl; (first | exact .own rfl rfl rfl | exact .osub); exact rfl; rotate_left 1; exact rfl; (first | exact .ints _ | exact .sli rfl | exact .orow rfl | exact .nil | exact .osub rfl (by simp; omega)))
  | (apply w_build1; exact rfl; exact rfl; (first | exact one_val rfl rfl | exact one_ints | exact one_intss | exact one_own rfl True.intro))
  | (apply w_build2; exact rfl; exact rfl; exact rfl; (first | exact one_val rfl rfl | exact one_ints | exact one_intss | exact one_own rfl True.intro); (first | exact one_val rfl rfl | exact one_ints | exact one_intss | exact one_own rfl True.intro))
  | (apply w_bs0; iterate 1 exact rfl)
  | (apply w_appn; exact rfl; exact rfl; (first | exact .ints _ | exact .sli rfl | exact .orow rfl | exact .nil | exact .osub rfl (by simp; omega)); exact rfl)
  | (apply w_app; exact rfl; exact rfl; exact rfl; exact rfl; (first | exact .ints _ | exact .sli rfl | exact .orow rfl | exact .nil | exact .osub rfl (by simp; omega)); rotate_left 1; simp only [Env.mp, List.map_cons, List.map_nil, List.set_cons_zero, List.set_cons_succ, AV.kill, AV.kill1, AO.kill, AV.noRow, AV.noRow1, AO.via, reduceIte, Nat.reduceEqDiff, Nat.reduceLT, Env.up, Nat.zero_ne_one, Nat.one_ne_zero, Nat.reduceAdd, List.cons_append, List.nil_append]; rotate_left 1)
  | (apply w_alst; iterate 2 exact rfl)
  | (apply w_mki; exact rfl; exact rfl; rotate_left 3; exact rfl; rotate_left 1)
  | (apply w_mkr; exact rfl; exact rfl; rotate_left 3; exact rfl; rotate_left 1)
  | (apply w_strow; exact rfl; exact rfl; rotate_left 1; exact rfl; exact rfl; exact rfl; exact rfl; simp only [Env.mp, List.map_cons, List.map_nil, List.set_cons_zero, List.set_cons_succ, AV.kill, AV.kill1, AO.kill, AV.noRow, AV.noRow1, AO.via, reduceIte, Nat.reduceEqDiff, Nat.reduceLT, Env.up, Nat.zero_ne_one, Nat.one_ne_zero, Nat.reduceAdd, List.cons_append, List.nil_append]; rotate_left 1)
  | (apply w_sti; exact rfl; exact rfl; rotate_left 1; exact rfl; rotate_left 2)
  | (apply w_stst; iterate 5 exact rfl)
  | (apply w_stbv; iterate 6 exact rfl)
  | (apply w_stbo; exact rfl; exact rfl; exact rfl; exact rfl; exact rfl; exact True.intro)
  | ((apply AOps.splitB; exact rfl; exact rfl) <;> intro h)
  | apply AllOf.nil
  | (apply AllOf.cons; exact rfl)
  | (apply AAny.take; exact rfl; exact rfl; kernel_rfl; kernel_rfl)
  | (apply AAny.all; exact rfl)
  | (apply AAny.done; exact rfl)
  | (apply inI_of <;> omega)
  | omega
  | (simp <;> omega))
  all_goals exact ⟨_, _, _, .v1 Try.results52 rfl, .sli rfl, rfl, rfl⟩
end Go.Proofs.Ytdkociacaagcoaa
/-
  The cyclotomic polynomial in the reference. No condition but bounds.
-/
namespace Go.Proofs.Ytdkociacaagcoaa
open Go Go.RowKit
open Cy (prm gpf Upto mob tot Phi Ser Pol)
attribute [local irreducible] AWp AOps ResIs Ret1 QOp LOp COp AFnV AFn Imms LeE LeO
set_option maxHeartbeats 1000000
set_option linter.unusedSimpArgs false
set_option linter.unusedVariables false

theorem wr_zero : wr 0 = 0 := wr_small (by omega)
/-- t ^ p in place of t. -/
def sprI (l : List Int) (p i : Nat) : List Int := tab ((l.length - 1) * p + 1) fun c => if c % p = 0 ∧ c / p < i then geti l ((c / p : Nat) : Int) else 0
theorem sprI_step (l : List Int) {p i : Nat} (hp : 0 < p) (hi : i < l.length) : (sprI l p i).set (i * p) (geti l (i : Nat)) = sprI l p (i + 1) := by
  unfold sprI
  rw [tab_set]
  refine tab_congr fun c _ => ?_
  by_cases e : c = i * p
  · subst e
    rw [if_pos rfl, Nat.mul_mod_left, Nat.mul_div_cancel _ hp, if_pos ⟨rfl, by omega⟩]
  · rw [if_neg e]
    by_cases h : c % p = 0
    · have hne : c / p ≠ i := fun k => e (by rw [← k, Nat.div_mul_cancel (Nat.dvd_of_mod_eq_zero h)])
      by_cases h2 : c / p < i
      · rw [if_pos ⟨h, h2⟩, if_pos ⟨h, by omega⟩]
      · rw [if_neg (fun k => h2 k.2), if_neg (fun k => by have := k.2; omega)]
    · rw [if_neg (fun k => h k.1), if_neg (fun k => h k.1)]
theorem sprI_none (l : List Int) (p : Nat) : List.replicate ((l.length - 1) * p + 1) (0 : Int) = sprI l p 0 := by
  rw [tab_rep]
  exact tab_congr fun c _ => by rw [if_neg (fun h => absurd h.2 (Nat.not_lt_zero _))]
theorem sprI_all {n p : Nat} (f : Ser) (hp : 0 < p) : sprI (tab (n + 1) fun c => wr (f c)) p (n + 1) = tab (n * p + 1) fun c => wr (Cy.sub p f c) := by
  unfold sprI
  rw [tab_len, Nat.add_sub_cancel]
  refine tab_congr fun c hc => ?_
  unfold Cy.sub
  have hlt : c / p < n + 1 := Nat.div_lt_of_lt_mul (by rw [Nat.mul_comm p, Nat.add_mul]; omega)
  by_cases h : c % p = 0
  · rw [if_pos ⟨h, hlt⟩, if_pos h, tab_get _ hlt]
  · rw [if_neg (fun k => h k.1), if_neg h, wr_zero]

set_option maxHeartbeats 8000000 in
theorem l02Spread_c (l : List Int) (p : Nat) (h0 : 0 < l.length) (hp : 0 < p) (hb : (l.length - 1) * p ≤ 100000000) (hl : l.length ≤ 100000000) (hp2 : p ≤ 100000000) (hin : ∀ x ∈ l, inI x) : AFn Try.prog 49 [.ints l, .i p] (IsInts 2 (sprI l p l.length)) := by
  have hN : (((l.length - 1) * p : Nat) : Int) = ((l.length : Int) - 1) * (p : Int) := by rw [Int.natCast_mul]; congr 1; omega
  have hN0 : 0 ≤ ((l.length : Int) - 1) * (p : Int) ∧ ((l.length : Int) - 1) * (p : Int) ≤ 100000000 := by omega
  have hrep : List.replicate (((l.length : Int) - 1) * (p : Int) + 1).toNat (0 : Int) = sprI l p 0 := by
    rw [← sprI_none]; congr 1; omega
  (refine AFn.start Try.func49 Try.ntmps49 rfl (by kernel_rfl) fun hk => ?_; simp only [Env.start, enumF, List.length_cons, List.length_nil, Nat.reduceAdd, Nat.reduceSub, List.cons_append, List.nil_append])
  repeat' (first
  | (apply AOps.nil; try simp only [List.nil_append, List.cons_append, List.set_cons_zero, List.set_cons_succ, List.length_cons, List.length_nil, Nat.reduceAdd, AV.sh, AV.sh1, AV.sh0, AO.sh, List.map_cons, List.map_nil, Nat.zero_add, Nat.add_zero, setAll])
  | ((apply AOps.splitP; exact rfl; exact rfl) <;> intro h)
  | ((apply AOps.splitN; exact rfl; exact rfl) <;> intro h)
  | (apply w_move; exact rfl; exact rfl)
  | (apply w_assign; exact rfl; exact rfl)
  | apply AWp.seq
  | apply AWp.region
  | ((apply AWp.condP; exact rfl) <;> intro h)
  | ((apply AWp.condN; exact rfl) <;> intro h)
  | (apply AWp.condT; exact rfl)
  | (apply AWp.condF; exact rfl)
  | ((apply AWp.condB; exact rfl) <;> intro h)
  | apply AWp.block
  | apply AWp.ret
  | apply AWp.exit
  | apply AWp.skip
  | (apply if_pos'; exact rfl)
  | (apply if_neg'; decide)
  | (apply w_skip; exact rfl)
  | (apply w_pickT; exact rfl; exact rfl; exact rfl)
  | (apply w_pickF; exact rfl; exact rfl; exact rfl)
  | (apply w_len; exact rfl; exact rfl; first | exact .ints _ | exact .intss _ | exact .sli rfl | exact .sls rfl | exact .slr rfl | exact .orow rfl | exact .nil)
  | omega
  | ((first | apply w_lss | apply w_leq | apply w_gtr | apply w_geq | apply w_eql | apply w_neq | apply w_add | apply w_sub | apply w_mul | apply w_idx | apply w_ld | apply w_fld | apply w_fa | apply w_extv | apply w_min | apply w_max | apply w_slhi | apply w_sllo | apply w_bs2); iterate 3 exact rfl)
  | ((first | apply w_eqlb | apply w_neqb | apply w_idxs | apply w_lds | apply w_ext); iterate 3 exact rfl)
  | (apply w_rem; exact rfl; exact rfl; exact rfl; (focus (omega; done)); (focus (omega; done)))
  | (apply w_quo; exact rfl; exact rfl; exact rfl; (focus (omega; done)); (focus (omega; done)))
  | (apply w_remT; exact rfl; exact rfl; exact rfl)
  | (apply w_quoT; exact rfl; exact rfl; exact rfl)
  | ((first | apply w_not | apply w_neg | apply w_conv | apply w_build0 | apply w_bs1 | apply w_boxa); iterate 2 exact rfl)
  | (apply w_idxo; exact rfl; exact rfl; (first | exact .sli rfl | exact .sls rfl | exact .slr rfl); exact rfl)
  | ((first | apply w_idxr | apply w_ldr); iterate 4 exact rfl)
  | (apply w_ldo; iterate 4 exact rfl)
  | (apply w_ldls; iterate 4 exact rfl)
  | (apply w_ldrp; iterate 4 exact rfl)
  | (apply w_ldb; iterate 5 exact rfl)
  | (apply w_ldst; iterate 5 exact rfl)
  | ((first | apply w_sllh | apply w_stbi); iterate 4 exact rfl)
  | ((first | apply w_oslo | apply w_oshi | apply w_stbii); iterate 4 exact rfl)
  | (apply w_build1; exact rfl; exact rfl; (first | exact one_val rfl rfl | exact one_ints | exact one_intss | exact one_own rfl True.intro))
  | (apply w_build2; exact rfl; exact rfl; exact rfl; (first | exact one_val rfl rfl | exact one_ints | exact one_intss | exact one_own rfl True.intro); (first | exact one_val rfl rfl | exact one_ints | exact one_intss | exact one_own rfl True.intro))
  | (apply w_bs0; iterate 1 exact rfl)
  | (apply w_appn; exact rfl; exact rfl; (first | exact .ints _ | exact .sli rfl | exact .orow rfl | exact .nil | exact .osub rfl (by simp; omega)); exact rfl)
  | (apply w_app; exact rfl; exact rfl; exact rfl; exact rfl; (first | exact .ints _ | exact .sli rfl | exact .orow rfl | exact .nil | exact .osub rfl (by simp; omega)); rotate_left 1; simp only [Env.mp, List.map_cons, List.map_nil, List.set_cons_zero, List.set_cons_succ, AV.kill, AV.kill1, AO.kill, AV.noRow, AV.noRow1, AO.via, reduceIte, Nat.reduceEqDiff, Nat.reduceLT, Env.up, Nat.zero_ne_one, Nat.one_ne_zero, Nat.reduceAdd, List.cons_append, List.nil_append]; rotate_left 1)
  | (apply w_alst; iterate 2 exact rfl)
  | (apply w_alone; iterate 3 exact rfl)
  | (apply w_mki; exact rfl; exact rfl; rotate_left 3; exact rfl; rotate_left 1)
  | (apply w_sti; exact rfl; exact rfl; rotate_left 1; exact rfl; rotate_left 2)
  | (apply w_stst; iterate 5 exact rfl)
  | (apply w_stbv; iterate 6 exact rfl)
  | (apply w_stbo; exact rfl; exact rfl; exact rfl; exact rfl; exact rfl; exact True.intro)
  | ((apply AOps.splitB; exact rfl; exact rfl) <;> intro h)
  | apply AllOf.nil
  | (apply AllOf.cons; exact rfl)
  | (apply AAny.take; exact rfl; exact rfl; kernel_rfl; kernel_rfl)
  | (apply AAny.all; exact rfl)
  | (apply AAny.done; exact rfl)
  | (apply inI_of <;> omega)
  | omega
  | (simp <;> omega))
  refine AWp.loop (ι := Nat) (fun i => ⟨34, [(0, .ints l), (1, .i p), (5, .own 0), (6, .i i)]⟩) (fun i => [.sli 2 (sprI l p i)]) (fun i => i ≤ l.length) (fun i => l.length - i) 0 (by omega) ⟨lee rfl (by (repeat (first | exact le_nil | refine le_eq rfl rfl ?_ | refine le_eq rfl (congrArg AV.i (by omega)) ?_ | refine le_eq rfl (congrArg AV.i (hrep)) ?_))), by (repeat (first | exact lo_nil | refine lo_dead ?_ | refine lo_eq rfl ?_ | refine lo_eq (congrArg (AO.sli _) (hrep)) ?_ | refine lo_eq (congrArg (AO.sls _ _) (hrep)) ?_)), rfl, rfl⟩ ?_
  rintro i i0
  have hsl : (sprI l p i).length = (l.length - 1) * p + 1 := tab_len _ _
  by_cases hi : i < l.length
  · have hip : i * p ≤ (l.length - 1) * p := Nat.mul_le_mul_right _ (by omega)
    have hc : ((i * p : Nat) : Int) = (i : Int) * (p : Int) := Int.natCast_mul i p
    have hs : (sprI l p i).set ((i : Int) * (p : Int)).toNat (geti l (i : Nat)) = sprI l p (i + 1) := by
      rw [← hc, Int.toNat_natCast]; exact sprI_step l hp hi
    have hxin : inI (geti l (i : Nat)) := by
      have : geti l (i : Nat) = l[i] := by simp [geti, hi]
      rw [this]; exact hin _ (List.getElem_mem hi)
    repeat' (first
  | (apply AOps.nil; try simp only [List.nil_append, List.cons_append, List.set_cons_zero, List.set_cons_succ, List.length_cons, List.length_nil, Nat.reduceAdd, AV.sh, AV.sh1, AV.sh0, AO.sh, List.map_cons, List.map_nil, Nat.zero_add, Nat.add_zero, setAll])
  | ((apply AOps.splitP; exact rfl; exact rfl) <;> intro h)
  | ((apply AOps.splitN; exact rfl; exact rfl) <;> intro h)
  | (apply w_move; exact rfl; exact rfl)
  | (apply w_assign; exact rfl; exact rfl)
  | apply AWp.seq
  | apply AWp.region
  | ((apply AWp.condP; exact rfl) <;> intro h)
  | ((apply AWp.condN; exact rfl) <;> intro h)
  | (apply AWp.condT; exact rfl)
  | (apply AWp.condF; exact rfl)
  | ((apply AWp.condB; exact rfl) <;> intro h)
  | apply AWp.block
  | apply AWp.ret
  | apply AWp.exit
  | apply AWp.skip
  | (apply if_pos'; exact rfl)
  | (apply if_neg'; decide)
  | (apply w_skip; exact rfl)
  | (apply w_pickT; exact rfl; exact rfl; exact rfl)
  | (apply w_pickF; exact rfl; exact rfl; exact rfl)
  | (apply w_len; exact rfl; exact rfl; first | exact .ints _ | exact .intss _ | exact .sli rfl | exact .sls rfl | exact .slr rfl | exact .orow rfl | exact .nil)
  | omega
  | exact hxin
  | ((first | apply w_lss | apply w_leq | apply w_gtr | apply w_geq | apply w_eql | apply w_neq | apply w_add | apply w_sub | apply w_mul | apply w_idx | apply w_ld | apply w_fld | apply w_fa | apply w_extv | apply w_min | apply w_max | apply w_slhi | apply w_sllo | apply w_bs2); iterate 3 exact rfl)
  | ((first | apply w_eqlb | apply w_neqb | apply w_idxs | apply w_lds | apply w_ext); iterate 3 exact rfl)
  | (apply w_rem; exact rfl; exact rfl; exact rfl; (focus (omega; done)); (focus (omega; done)))
  | (apply w_quo; exact rfl; exact rfl; exact rfl; (focus (omega; done)); (focus (omega; done)))
  | (apply w_remT; exact rfl; exact rfl; exact rfl)
  | (apply w_quoT; exact rfl; exact rfl; exact rfl)
  | ((first | apply w_not | apply w_neg | apply w_conv | apply w_build0 | apply w_bs1 | apply w_boxa); iterate 2 exact rfl)
  | (apply w_idxo; exact rfl; exact rfl; (first | exact .sli rfl | exact .sls rfl | exact .slr rfl); exact rfl)
  | ((first | apply w_idxr | apply w_ldr); iterate 4 exact rfl)
  | (apply w_ldo; iterate 4 exact rfl)
  | (apply w_ldls; iterate 4 exact rfl)
  | (apply w_ldrp; iterate 4 exact rfl)
  | (apply w_ldb; iterate 5 exact rfl)
  | (apply w_ldst; iterate 5 exact rfl)
  | ((first | apply w_sllh | apply w_stbi); iterate 4 exact rfl)
  | ((first | apply w_oslo | apply w_oshi | apply w_stbii); iterate 4 exact rfl)
  | (apply w_build1; exact rfl; exact rfl; (first | exact one_val rfl rfl | exact one_ints | exact one_intss | exact one_own rfl True.intro))
  | (apply w_build2; exact rfl; exact rfl; exact rfl; (first | exact one_val rfl rfl | exact one_ints | exact one_intss | exact one_own rfl True.intro); (first | exact one_val rfl rfl | exact one_ints | exact one_intss | exact one_own rfl True.intro))
  | (apply w_bs0; iterate 1 exact rfl)
  | (apply w_appn; exact rfl; exact rfl; (first | exact .ints _ | exact .sli rfl | exact .orow rfl | exact .nil | exact .osub rfl (by simp; omega)); exact rfl)
  | (apply w_app; exact rfl; exact rfl; exact rfl; exact rfl; (first | exact .ints _ | exact .sli rfl | exact .orow rfl | exact .nil | exact .osub rfl (by simp; omega)); rotate_left 1; simp only [Env.mp, List.map_cons, List.map_nil, List.set_cons_zero, List.set_cons_succ, AV.kill, AV.kill1, AO.kill, AV.noRow, AV.noRow1, AO.via, reduceIte, Nat.reduceEqDiff, Nat.reduceLT, Env.up, Nat.zero_ne_one, Nat.one_ne_zero, Nat.reduceAdd, List.cons_append, List.nil_append]; rotate_left 1)
  | (apply w_alst; iterate 2 exact rfl)
  | (apply w_alone; iterate 3 exact rfl)
  | (apply w_mki; exact rfl; exact rfl; rotate_left 3; exact rfl; rotate_left 1)
  | (apply w_sti; exact rfl; exact rfl; rotate_left 1; exact rfl; rotate_left 2)
  | (apply w_stst; iterate 5 exact rfl)
  | (apply w_stbv; iterate 6 exact rfl)
  | (apply w_stbo; exact rfl; exact rfl; exact rfl; exact rfl; exact rfl; exact True.intro)
  | ((apply AOps.splitB; exact rfl; exact rfl) <;> intro h)
  | apply AllOf.nil
  | (apply AllOf.cons; exact rfl)
  | (apply AAny.take; exact rfl; exact rfl; kernel_rfl; kernel_rfl)
  | (apply AAny.all; exact rfl)
  | (apply AAny.done; exact rfl)
  | (apply inI_of <;> omega)
  | omega
  | (simp <;> omega))
    exact ⟨i + 1, hi, by omega, ⟨lee rfl (by (repeat (first | exact le_nil | refine le_eq rfl rfl ?_ | refine le_eq rfl (congrArg AV.i (by omega)) ?_ | refine le_eq rfl (congrArg AV.i (hs)) ?_))), by (repeat (first | exact lo_nil | refine lo_dead ?_ | refine lo_eq rfl ?_ | refine lo_eq (congrArg (AO.sli _) (hs)) ?_ | refine lo_eq (congrArg (AO.sls _ _) (hs)) ?_)), rfl, rfl⟩⟩
  · have e : i = l.length := by omega
    subst e
    repeat' (first
  | (apply AOps.nil; try simp only [List.nil_append, List.cons_append, List.set_cons_zero, List.set_cons_succ, List.length_cons, List.length_nil, Nat.reduceAdd, AV.sh, AV.sh1, AV.sh0, AO.sh, List.map_cons, List.map_nil, Nat.zero_add, Nat.add_zero, setAll])
  | ((apply AOps.splitP; exact rfl; exact rfl) <;> intro h)
  | ((apply AOps.splitN; exact rfl; exact rfl) <;> intro h)
  | (apply w_move; exact rfl; exact rfl)
  | (apply w_assign; exact rfl; exact rfl)
  | apply AWp.seq
  | apply AWp.region
  | ((apply AWp.condP; exact rfl) <;> intro h)
  | ((apply AWp.condN; exact rfl) <;> intro h)
  | (apply AWp.condT; exact rfl)
  | (apply AWp.condF; exact rfl)
  | ((apply AWp.condB; exact rfl) <;> intro h)
  | apply AWp.block
  | apply AWp.ret
  | apply AWp.exit
  | apply AWp.skip
  | (apply if_pos'; exact rfl)
  | (apply if_neg'; decide)
  | (apply w_skip; exact rfl)
  | (apply w_pickT; exact rfl; exact rfl; exact rfl)
  | (apply w_pickF; exact rfl; exact rfl; exact rfl)
  | (apply w_len; exact rfl; exact rfl; first | exact .ints _ | exact .intss _ | exact .sli rfl | exact .sls rfl | exact .slr rfl | exact .orow rfl | exact .nil)
  | omega
  | ((first | apply w_lss | apply w_leq | apply w_gtr | apply w_geq | apply w_eql | apply w_neq | apply w_add | apply w_sub | apply w_mul | apply w_idx | apply w_ld | apply w_fld | apply w_fa | apply w_extv | apply w_min | apply w_max | apply w_slhi | apply w_sllo | apply w_bs2); iterate 3 exact rfl)
  | ((first | apply w_eqlb | apply w_neqb | apply w_idxs | apply w_lds | apply w_ext); iterate 3 exact rfl)
  | (apply w_rem; exact rfl; exact rfl; exact rfl; (focus (omega; done)); (focus (omega; done)))
  | (apply w_quo; exact rfl; exact rfl; exact rfl; (focus (omega; done)); (focus (omega; done)))
  | (apply w_remT; exact rfl; exact rfl; exact rfl)
  | (apply w_quoT; exact rfl; exact rfl; exact rfl)
  | ((first | apply w_not | apply w_neg | apply w_conv | apply w_build0 | apply w_bs1 | apply w_boxa); iterate 2 exact rfl)
  | (apply w_idxo; exact rfl; exact rfl; (first | exact .sli rfl | exact .sls rfl | exact .slr rfl); exact rfl)
  | ((first | apply w_idxr | apply w_ldr); iterate 4 exact rfl)
  | (apply w_ldo; iterate 4 exact rfl)
  | (apply w_ldls; iterate 4 exact rfl)
  | (apply w_ldrp; iterate 4 exact rfl)
  | (apply w_ldb; iterate 5 exact rfl)
  | (apply w_ldst; iterate 5 exact rfl)
  | ((first | apply w_sllh | apply w_stbi); iterate 4 exact rfl)
  | ((first | apply w_oslo | apply w_oshi | apply w_stbii); iterate 4 exact rfl)
  | (apply w_build1; exact rfl; exact rfl; (first | exact one_val rfl rfl | exact one_ints | exact one_intss | exact one_own rfl True.intro))
  | (apply w_build2; exact rfl; exact rfl; exact rfl; (first | exact one_val rfl rfl | exact one_ints | exact one_intss | exact one_own rfl True.intro); (first | exact one_val rfl rfl | exact one_ints | exact one_intss | exact one_own rfl True.intro))
  | (apply w_bs0; iterate 1 exact rfl)
  | (apply w_appn; exact rfl; exact rfl; (first | exact .ints _ | exact .sli rfl | exact .orow rfl | exact .nil | exact .osub rfl (by simp; omega)); exact rfl)
  | (apply w_app; exact rfl; exact rfl; exact rfl; exact rfl; (first | exact .ints _ | exact .sli rfl | exact .orow rfl | exact .nil | exact .osub rfl (by simp; omega)); rotate_left 1; simp only [Env.mp, List.map_cons, List.map_nil, List.set_cons_zero, List.set_cons_succ, AV.kill, AV.kill1, AO.kill, AV.noRow, AV.noRow1, AO.via, reduceIte, Nat.reduceEqDiff, Nat.reduceLT, Env.up, Nat.zero_ne_one, Nat.one_ne_zero, Nat.reduceAdd, List.cons_append, List.nil_append]; rotate_left 1)
  | (apply w_alst; iterate 2 exact rfl)
  | (apply w_alone; iterate 3 exact rfl)
  | (apply w_mki; exact rfl; exact rfl; rotate_left 3; exact rfl; rotate_left 1)
  | (apply w_sti; exact rfl; exact rfl; rotate_left 1; exact rfl; rotate_left 2)
  | (apply w_stst; iterate 5 exact rfl)
  | (apply w_stbv; iterate 6 exact rfl)
  | (apply w_stbo; exact rfl; exact rfl; exact rfl; exact rfl; exact rfl; exact True.intro)
  | ((apply AOps.splitB; exact rfl; exact rfl) <;> intro h)
  | apply AllOf.nil
  | (apply AllOf.cons; exact rfl)
  | (apply AAny.take; exact rfl; exact rfl; kernel_rfl; kernel_rfl)
  | (apply AAny.all; exact rfl)
  | (apply AAny.done; exact rfl)
  | (apply inI_of <;> omega)
  | omega
  | (simp <;> omega))
    exact ⟨_, _, _, .v1 Try.results49 rfl, .sli rfl, rfl, rfl⟩
/-! ### The quotient -/
def trF (f : Ser) (j : Nat) : Ser := fun n => if n < j then f n else 0
theorem trF_pol (f : Ser) (i : Nat) : Pol i (trF f (i + 1)) := fun n hn => by unfold trF; rw [if_neg (by omega)]
theorem trF_zero (f : Ser) : trF f 0 = Cy.zero := by funext n; unfold trF Cy.zero; rw [if_neg (by omega)]
theorem trF_all {f : Ser} {d j : Nat} (h : Pol d f) (hj : d < j) : trF f j = f := by
  funext n
  unfold trF
  by_cases e : n < j
  · rw [if_pos e]
  · rw [if_neg e, h n (by omega)]
theorem trF_step (f : Ser) (i : Nat) : trF f (i + 1) = Cy.add (trF f i) (Cy.sc (f i) (Cy.sh i Cy.one)) := by
  funext n
  simp only [trF, Cy.add, Cy.sc, Cy.sh, Cy.one]
  by_cases h1 : n < i
  · simp [h1]; omega
  · by_cases h2 : n = i
    · subst h2; simp
    · have h3 : ¬ n < i + 1 := by omega
      have h4 : n - i ≠ 0 := by omega
      simp [h1, h3, h4]
theorem trF_mul (f g : Ser) (i c : Nat) : Cy.mul (trF f (i + 1)) g c = Cy.mul (trF f i) g c + f i * (if c < i then 0 else g (c - i)) := by
  rw [trF_step, Cy.add_mul, Cy.sc_mul, Cy.sh_mul, Cy.one_mul]
  rfl
def rsI (a : Nat) (f g : Ser) (i k : Nat) : List Int := tab (a + 1) fun c => if i ≤ c ∧ c < i + k then wr (Cy.mul (trF f i) g c) else wr (Cy.mul (trF f (i + 1)) g c)
def rsO (a : Nat) (f g : Ser) (j : Nat) : List Int := tab (a + 1) fun c => wr (Cy.mul (trF f j) g c)
def otI (d : Nat) (f : Ser) (j : Nat) : List Int := tab (d + 1) fun c => if j ≤ c then wr (f c) else 0
theorem rsI_none (a : Nat) (f g : Ser) (i : Nat) : rsO a f g (i + 1) = rsI a f g i 0 := tab_congr fun c _ => by rw [if_neg (by omega)]
theorem rsI_all {b : Nat} (a : Nat) (f g : Ser) (i : Nat) (hg : Pol b g) : rsI a f g i (b + 1) = rsO a f g i := tab_congr fun c _ => by
  by_cases h : i ≤ c ∧ c < i + (b + 1)
  · rw [if_pos h]
  · rw [if_neg h, trF_mul]
    by_cases h2 : c < i
    · rw [if_pos h2]; simp
    · rw [if_neg h2, hg (c - i) (by omega)]; simp
theorem rsI_step (a : Nat) (f g : Ser) (i k : Nat) : (rsI a f g i k).set (i + k) (wr (Cy.mul (trF f i) g (i + k))) = rsI a f g i (k + 1) := by
  unfold rsI
  rw [tab_set]
  refine tab_congr fun c _ => ?_
  by_cases e : c = i + k
  · subst e; rw [if_pos rfl, if_pos (by omega)]
  · rw [if_neg e]
    by_cases h : i ≤ c ∧ c < i + k
    · rw [if_pos h, if_pos (by omega)]
    · rw [if_neg h, if_neg (by omega)]
theorem otI_step (d : Nat) (f : Ser) (i : Nat) : (otI d f (i + 1)).set i (wr (f i)) = otI d f i := by
  unfold otI
  rw [tab_set]
  refine tab_congr fun c _ => ?_
  by_cases e : c = i
  · subst e; rw [if_pos rfl, if_pos (by omega)]
  · rw [if_neg e]
    by_cases h : i + 1 ≤ c
    · rw [if_pos h, if_pos (by omega)]
    · rw [if_neg h, if_neg (by omega)]
theorem otI_none (d : Nat) (f : Ser) : List.replicate (d + 1) (0 : Int) = otI d f (d + 1) := by
  rw [tab_rep]; exact tab_congr fun c hc => by rw [if_neg (by omega)]
theorem otI_all (d : Nat) (f : Ser) : otI d f 0 = tab (d + 1) fun c => wr (f c) := tab_congr fun c _ => by rw [if_pos (by omega)]
theorem rsO_zero (a : Nat) (f g : Ser) : rsO a f g 0 = tab (a + 1) fun _ => 0 := tab_congr fun c _ => by rw [trF_zero, Cy.zero_mul]; exact wr_zero
/-- A list, and that there is one. -/
def IsIntsB (T : TypeId) (xs : List Int) (r : AV) (os : List AO) : Prop := r = .tup [.own 0, .b true] ∧ os = [.sli T xs]

set_option maxHeartbeats 16000000 in
theorem l02Quotient_c (f g h : Ser) (a b : Nat) (hm : Cy.mul f g = h) (hg : Pol b g) (g1 : g b = 1) (hf : Pol (a - b) f) (hab : b ≤ a) (ha : a ≤ 1000000) :
    AFn Try.prog 50 [.ints (tab (a + 1) fun c => wr (h c)), .ints (tab (b + 1) fun c => wr (g c))] (IsIntsB 2 (tab (a - b + 1) fun c => wr (f c))) := by
  obtain ⟨P, hP⟩ : ∃ P, P = tab (a + 1) fun c => wr (h c) := ⟨_, rfl⟩
  obtain ⟨Q, hQ⟩ : ∃ Q, Q = tab (b + 1) fun c => wr (g c) := ⟨_, rfl⟩
  have lP : P.length = a + 1 := by rw [hP]; exact tab_len _ _
  have lQ : Q.length = b + 1 := by rw [hQ]; exact tab_len _ _
  obtain ⟨d, hd⟩ : ∃ d, d = a - b := ⟨_, rfl⟩
  have had : a = d + b := by omega
  rw [← hP, ← hQ, ← hd]
  rw [← hd] at hf
  have hown := l01Own_c P (by omega)
  have hr0 : P = rsO a f g (d + 1) := by
    rw [hP, ← hm]
    unfold rsO
    rw [trF_all hf (by omega)]
  have ho0 : List.replicate ((P.length : Int) - (Q.length : Int) + 1).toNat (0 : Int) = otI d f (d + 1) := by
    rw [← otI_none]; congr 1; omega
  (refine AFn.start Try.func50 Try.ntmps50 rfl (by kernel_rfl) fun hk => ?_; simp only [Env.start, enumF, List.length_cons, List.length_nil, Nat.reduceAdd, Nat.reduceSub, List.cons_append, List.nil_append])
  repeat' (first
  | (apply AOps.nil; try simp only [List.nil_append, List.cons_append, List.set_cons_zero, List.set_cons_succ, List.length_cons, List.length_nil, Nat.reduceAdd, AV.sh, AV.sh1, AV.sh0, AO.sh, List.map_cons, List.map_nil, Nat.zero_add, Nat.add_zero, setAll])
  | ((apply AOps.splitP; exact rfl; exact rfl) <;> intro h)
  | ((apply AOps.splitN; exact rfl; exact rfl) <;> intro h)
  | (apply w_move; exact rfl; exact rfl)
  | (apply w_assign; exact rfl; exact rfl)
  | apply AWp.seq
  | apply AWp.region
  | ((apply AWp.condP; exact rfl) <;> intro h)
  | ((apply AWp.condN; exact rfl) <;> intro h)
  | (apply AWp.condT; exact rfl)
  | (apply AWp.condF; exact rfl)
  | ((apply AWp.condB; exact rfl) <;> intro h)
  | apply AWp.block
  | apply AWp.ret
  | apply AWp.exit
  | apply AWp.skip
  | (apply if_pos'; exact rfl)
  | (apply if_neg'; decide)
  | (apply w_skip; exact rfl)
  | (apply w_pickT; exact rfl; exact rfl; exact rfl)
  | (apply w_pickF; exact rfl; exact rfl; exact rfl)
  | (apply w_len; exact rfl; exact rfl; first | exact .ints _ | exact .intss _ | exact .sli rfl | exact .sls rfl | exact .slr rfl | exact .orow rfl | exact .nil)
  | omega
  | ((first | apply w_lss | apply w_leq | apply w_gtr | apply w_geq | apply w_eql | apply w_neq | apply w_add | apply w_sub | apply w_mul | apply w_idx | apply w_ld | apply w_fld | apply w_fa | apply w_extv | apply w_min | apply w_max | apply w_slhi | apply w_sllo | apply w_bs2); iterate 3 exact rfl)
  | ((first | apply w_eqlb | apply w_neqb | apply w_idxs | apply w_lds | apply w_ext); iterate 3 exact rfl)
  | (apply w_rem; exact rfl; exact rfl; exact rfl; (focus (omega; done)); (focus (omega; done)))
  | (apply w_quo; exact rfl; exact rfl; exact rfl; (focus (omega; done)); (focus (omega; done)))
  | (apply w_remT; exact rfl; exact rfl; exact rfl)
  | (apply w_quoT; exact rfl; exact rfl; exact rfl)
  | ((first | apply w_not | apply w_neg | apply w_conv | apply w_build0 | apply w_bs1 | apply w_boxa); iterate 2 exact rfl)
  | (apply w_idxo; exact rfl; exact rfl; (first | exact .sli rfl | exact .sls rfl | exact .slr rfl); exact rfl)
  | ((first | apply w_idxr | apply w_ldr); iterate 4 exact rfl)
  | (apply w_ldo; iterate 4 exact rfl)
  | (apply w_ldls; iterate 4 exact rfl)
  | (apply w_ldrp; iterate 4 exact rfl)
  | (apply w_ldb; iterate 5 exact rfl)
  | (apply w_ldst; iterate 5 exact rfl)
  | ((first | apply w_sllh | apply w_stbi); iterate 4 exact rfl)
  | ((first | apply w_oslo | apply w_oshi | apply w_stbii); iterate 4 exact rfl)
  | (apply w_build1; exact rfl; exact rfl; (first | exact one_val rfl rfl | exact one_ints | exact one_intss | exact one_own rfl True.intro))
  | (apply w_build2; exact rfl; exact rfl; exact rfl; (first | exact one_val rfl rfl | exact one_ints | exact one_intss | exact one_own rfl True.intro); (first | exact one_val rfl rfl | exact one_ints | exact one_intss | exact one_own rfl True.intro))
  | (apply w_bs0; iterate 1 exact rfl)
  | (apply w_appn; exact rfl; exact rfl; (first | exact .ints _ | exact .sli rfl | exact .orow rfl | exact .nil | exact .osub rfl (by simp; omega)); exact rfl)
  | (apply w_app; exact rfl; exact rfl; exact rfl; exact rfl; (first | exact .ints _ | exact .sli rfl | exact .orow rfl | exact .nil | exact .osub rfl (by simp; omega)); rotate_left 1; simp only [Env.mp, List.map_cons, List.map_nil, List.set_cons_zero, List.set_cons_succ, AV.kill, AV.kill1, AO.kill, AV.noRow, AV.noRow1, AO.via, reduceIte, Nat.reduceEqDiff, Nat.reduceLT, Env.up, Nat.zero_ne_one, Nat.one_ne_zero, Nat.reduceAdd, List.cons_append, List.nil_append]; rotate_left 1)
  | (apply w_alst; iterate 2 exact rfl)
  | (apply w_alone; iterate 3 exact rfl)
  | (apply w_mki; exact rfl; exact rfl; rotate_left 3; exact rfl; rotate_left 1)
  | (apply w_sti; exact rfl; exact rfl; rotate_left 1; exact rfl; rotate_left 2)
  | (apply w_stst; iterate 5 exact rfl)
  | (apply w_stbv; iterate 6 exact rfl)
  | (apply w_stbo; exact rfl; exact rfl; exact rfl; exact rfl; exact rfl; exact True.intro)
  | ((apply AOps.splitB; exact rfl; exact rfl) <;> intro h)
  | apply AllOf.nil
  | (apply AllOf.cons; exact rfl)
  | (apply AAny.take; exact rfl; exact rfl; kernel_rfl; kernel_rfl)
  | (apply AAny.all; exact rfl)
  | (apply AAny.done; exact rfl)
  | (apply inI_of <;> omega)
  | omega
  | (simp <;> omega))
  refine AWp.regionA (by kernel_rfl) (envC := ⟨82, [(0, .ints P), (1, .ints Q), (6, .own 0), (7, .own 1)]⟩) (osC := [.sli 2 P, .sli 2 (List.replicate ((P.length : Int) - (Q.length : Int) + 1).toNat (0 : Int))]) rfl rfl ?_ ?_
  · repeat' (first
  | (apply AOps.nil; try simp only [List.nil_append, List.cons_append, List.set_cons_zero, List.set_cons_succ, List.length_cons, List.length_nil, Nat.reduceAdd, AV.sh, AV.sh1, AV.sh0, AO.sh, List.map_cons, List.map_nil, Nat.zero_add, Nat.add_zero, setAll])
  | ((apply AOps.splitP; exact rfl; exact rfl) <;> intro h)
  | ((apply AOps.splitN; exact rfl; exact rfl) <;> intro h)
  | (apply w_move; exact rfl; exact rfl)
  | (apply w_assign; exact rfl; exact rfl)
  | apply AWp.seq
  | apply AWp.region
  | ((apply AWp.condP; exact rfl) <;> intro h)
  | ((apply AWp.condN; exact rfl) <;> intro h)
  | (apply AWp.condT; exact rfl)
  | (apply AWp.condF; exact rfl)
  | ((apply AWp.condB; exact rfl) <;> intro h)
  | apply AWp.block
  | apply AWp.ret
  | apply AWp.exit
  | apply AWp.skip
  | (apply AWp.regionQ; kernel_rfl; kernel_rfl)
  | (apply if_pos'; exact rfl)
  | (apply if_neg'; decide)
  | (apply w_skip; exact rfl)
  | (apply w_pickT; exact rfl; exact rfl; exact rfl)
  | (apply w_pickF; exact rfl; exact rfl; exact rfl)
  | (apply w_len; exact rfl; exact rfl; first | exact .ints _ | exact .intss _ | exact .sli rfl | exact .sls rfl | exact .slr rfl | exact .orow rfl | exact .nil)
  | (apply w_callm (hown); (focus ((repeat (first | exact im_nil | refine im_cons rfl (.val _) ?_ | refine im_cons rfl (.ints _) ?_ | refine im_cons rfl (.intss _) ?_ | refine im_cons rfl (.sli rfl) ?_ | refine im_cons rfl (.sls rfl) ?_ | refine im_cons rfl (.orow rfl) ?_ | refine im_cons rfl (.osub rfl (by simp; omega)) ?_ | refine im_cons rfl (.nil) ?_ | refine im_cons rfl (.nils) ?_ | refine im_cons rfl (im_agg2 (.val _) (.ints _)) ?_ | refine im_cons rfl (im_agg2 (.val _) (.sli rfl)) ?_ | refine im_cons rfl (im_agg2 (.val _) (.nil)) ?_ | refine im_cons rfl (im_agg2 (.ints _) (.intss _)) ?_ | refine im_cons rfl (im_agg2 (.ints _) (.sls rfl)) ?_ | refine im_cons rfl (im_agg2 (.sli rfl) (.intss _)) ?_ | refine im_cons rfl (im_agg2 (.sli rfl) (.sls rfl)) ?_ | refine im_cons rfl (im_agg1 (.ints _)) ?_ | refine im_cons rfl (im_agg1 (.sli rfl)) ?_ | refine im_cons rfl (im_agg1 (.intss _)) ?_ | refine im_cons rfl (im_agg1 (.sls rfl)) ?_ | refine im_cons rfl (im_agg1 (.nil)) ?_ | refine im_cons rfl (im_agg1 (.nils)) ?_)); done)); rintro r os0 ⟨rfl, rfl⟩; try simp only [List.nil_append, List.cons_append, List.set_cons_zero, List.set_cons_succ, List.length_cons, List.length_nil, Nat.reduceAdd, AV.sh, AV.sh1, AV.sh0, AO.sh, List.map_cons, List.map_nil, Nat.zero_add, Nat.add_zero, setAll])
  | omega
  | ((first | apply w_lss | apply w_leq | apply w_gtr | apply w_geq | apply w_eql | apply w_neq | apply w_add | apply w_sub | apply w_mul | apply w_idx | apply w_ld | apply w_fld | apply w_fa | apply w_extv | apply w_min | apply w_max | apply w_slhi | apply w_sllo | apply w_bs2); iterate 3 exact rfl)
  | ((first | apply w_eqlb | apply w_neqb | apply w_idxs | apply w_lds | apply w_ext); iterate 3 exact rfl)
  | (apply w_rem; exact rfl; exact rfl; exact rfl; (focus (omega; done)); (focus (omega; done)))
  | (apply w_quo; exact rfl; exact rfl; exact rfl; (focus (omega; done)); (focus (omega; done)))
  | (apply w_remT; exact rfl; exact rfl; exact rfl)
  | (apply w_quoT; exact rfl; exact rfl; exact rfl)
  | ((first | apply w_not | apply w_neg | apply w_conv | apply w_build0 | apply w_bs1 | apply w_boxa); iterate 2 exact rfl)
  | (apply w_idxo; exact rfl; exact rfl; (first | exact .sli rfl | exact .sls rfl | exact .slr rfl); exact rfl)
  | ((first | apply w_idxr | apply w_ldr); iterate 4 exact rfl)
  | (apply w_ldo; iterate 4 exact rfl)
  | (apply w_ldls; iterate 4 exact rfl)
  | (apply w_ldrp; iterate 4 exact rfl)
  | (apply w_ldb; iterate 5 exact rfl)
  | (apply w_ldst; iterate 5 exact rfl)
  | ((first | apply w_sllh | apply w_stbi); iterate 4 exact rfl)
  | ((first | apply w_oslo | apply w_oshi | apply w_stbii); iterate 4 exact rfl)
  | (apply w_build1; exact rfl; exact rfl; (first | exact one_val rfl rfl | exact one_ints | exact one_intss | exact one_own rfl True.intro))
  | (apply w_build2; exact rfl; exact rfl; exact rfl; (first | exact one_val rfl rfl | exact one_ints | exact one_intss | exact one_own rfl True.intro); (first | exact one_val rfl rfl | exact one_ints | exact one_intss | exact one_own rfl True.intro))
  | (apply w_bs0; iterate 1 exact rfl)
  | (apply w_appn; exact rfl; exact rfl; (first | exact .ints _ | exact .sli rfl | exact .orow rfl | exact .nil | exact .osub rfl (by simp; omega)); exact rfl)
  | (apply w_app; exact rfl; exact rfl; exact rfl; exact rfl; (first | exact .ints _ | exact .sli rfl | exact .orow rfl | exact .nil | exact .osub rfl (by simp; omega)); rotate_left 1; simp only [Env.mp, List.map_cons, List.map_nil, List.set_cons_zero, List.set_cons_succ, AV.kill, AV.kill1, AO.kill, AV.noRow, AV.noRow1, AO.via, reduceIte, Nat.reduceEqDiff, Nat.reduceLT, Env.up, Nat.zero_ne_one, Nat.one_ne_zero, Nat.reduceAdd, List.cons_append, List.nil_append]; rotate_left 1)
  | (apply w_alst; iterate 2 exact rfl)
  | (apply w_alone; iterate 3 exact rfl)
  | (apply w_mki; exact rfl; exact rfl; rotate_left 3; exact rfl; rotate_left 1)
  | (apply w_sti; exact rfl; exact rfl; rotate_left 1; exact rfl; rotate_left 2)
  | (apply w_stst; iterate 5 exact rfl)
  | (apply w_stbv; iterate 6 exact rfl)
  | (apply w_stbo; exact rfl; exact rfl; exact rfl; exact rfl; exact rfl; exact True.intro)
  | ((apply AOps.splitB; exact rfl; exact rfl) <;> intro h)
  | apply AllOf.nil
  | (apply AllOf.cons; exact rfl)
  | (apply AAny.take; exact rfl; exact rfl; kernel_rfl; kernel_rfl)
  | (apply AAny.all; exact rfl)
  | (apply AAny.done; exact rfl)
  | (apply inI_of <;> omega)
  | omega
  | (simp <;> omega))
    all_goals (first | (apply Or.inl; refine ⟨lee rfl ?_, ?_, rfl, rfl⟩; (focus ((repeat (first | exact le_nil | refine le_eq rfl rfl ?_ | (refine le_eq rfl (congrArg AV.i ?_) ?_; (focus (omega; done))))); done)); (focus ((repeat (first | exact lo_nil | refine lo_dead ?_ | refine lo_eq rfl ?_)); done))) | (apply Or.inr; refine ⟨[1, 0], ⟨by decide, fun x hx => Nat.lt_of_lt_of_le ((by decide : ∀ x ∈ ([1, 0] : List Nat), x < 2) x hx) (Nat.le_of_ble_eq_true rfl)⟩, lee rfl ?_, ?_, rfl, rfl⟩; (focus ((repeat (first | exact le_nil | refine le_eq rfl rfl ?_ | (refine le_eq rfl (congrArg AV.i ?_) ?_; (focus (omega; done))))); done)); (focus ((repeat (first | exact lo_nil | refine lo_dead ?_ | refine lo_eq rfl ?_)); done))))
  have lrep : (List.replicate ((P.length : Int) - (Q.length : Int) + 1).toNat (0 : Int)).length = d + 1 := by rw [ho0]; exact tab_len _ _
  repeat' (first
  | (apply AOps.nil; try simp only [List.nil_append, List.cons_append, List.set_cons_zero, List.set_cons_succ, List.length_cons, List.length_nil, Nat.reduceAdd, AV.sh, AV.sh1, AV.sh0, AO.sh, List.map_cons, List.map_nil, Nat.zero_add, Nat.add_zero, setAll])
  | ((apply AOps.splitP; exact rfl; exact rfl) <;> intro h)
  | ((apply AOps.splitN; exact rfl; exact rfl) <;> intro h)
  | (apply w_move; exact rfl; exact rfl)
  | (apply w_assign; exact rfl; exact rfl)
  | apply AWp.seq
  | apply AWp.region
  | ((apply AWp.condP; exact rfl) <;> intro h)
  | ((apply AWp.condN; exact rfl) <;> intro h)
  | (apply AWp.condT; exact rfl)
  | (apply AWp.condF; exact rfl)
  | ((apply AWp.condB; exact rfl) <;> intro h)
  | apply AWp.block
  | apply AWp.ret
  | apply AWp.exit
  | apply AWp.skip
  | (apply if_pos'; exact rfl)
  | (apply if_neg'; decide)
  | (apply w_skip; exact rfl)
  | (apply w_pickT; exact rfl; exact rfl; exact rfl)
  | (apply w_pickF; exact rfl; exact rfl; exact rfl)
  | (apply w_len; exact rfl; exact rfl; first | exact .ints _ | exact .intss _ | exact .sli rfl | exact .sls rfl | exact .slr rfl | exact .orow rfl | exact .nil)
  | omega
  | ((first | apply w_lss | apply w_leq | apply w_gtr | apply w_geq | apply w_eql | apply w_neq | apply w_add | apply w_sub | apply w_mul | apply w_idx | apply w_ld | apply w_fld | apply w_fa | apply w_extv | apply w_min | apply w_max | apply w_slhi | apply w_sllo | apply w_bs2); iterate 3 exact rfl)
  | ((first | apply w_eqlb | apply w_neqb | apply w_idxs | apply w_lds | apply w_ext); iterate 3 exact rfl)
  | (apply w_rem; exact rfl; exact rfl; exact rfl; (focus (omega; done)); (focus (omega; done)))
  | (apply w_quo; exact rfl; exact rfl; exact rfl; (focus (omega; done)); (focus (omega; done)))
  | (apply w_remT; exact rfl; exact rfl; exact rfl)
  | (apply w_quoT; exact rfl; exact rfl; exact rfl)
  | ((first | apply w_not | apply w_neg | apply w_conv | apply w_build0 | apply w_bs1 | apply w_boxa); iterate 2 exact rfl)
  | (apply w_idxo; exact rfl; exact rfl; (first | exact .sli rfl | exact .sls rfl | exact .slr rfl); exact rfl)
  | ((first | apply w_idxr | apply w_ldr); iterate 4 exact rfl)
  | (apply w_ldo; iterate 4 exact rfl)
  | (apply w_ldls; iterate 4 exact rfl)
  | (apply w_ldrp; iterate 4 exact rfl)
  | (apply w_ldb; iterate 5 exact rfl)
  | (apply w_ldst; iterate 5 exact rfl)
  | ((first | apply w_sllh | apply w_stbi); iterate 4 exact rfl)
  | ((first | apply w_oslo | apply w_oshi | apply w_stbii); iterate 4 exact rfl)
  | (apply w_build1; exact rfl; exact rfl; (first | exact one_val rfl rfl | exact one_ints | exact one_intss | exact one_own rfl True.intro))
  | (apply w_build2; exact rfl; exact rfl; exact rfl; (first | exact one_val rfl rfl | exact one_ints | exact one_intss | exact one_own rfl True.intro); (first | exact one_val rfl rfl | exact one_ints | exact one_intss | exact one_own rfl True.intro))
  | (apply w_bs0; iterate 1 exact rfl)
  | (apply w_appn; exact rfl; exact rfl; (first | exact .ints _ | exact .sli rfl | exact .orow rfl | exact .nil | exact .osub rfl (by simp; omega)); exact rfl)
  | (apply w_app; exact rfl; exact rfl; exact rfl; exact rfl; (first | exact .ints _ | exact .sli rfl | exact .orow rfl | exact .nil | exact .osub rfl (by simp; omega)); rotate_left 1; simp only [Env.mp, List.map_cons, List.map_nil, List.set_cons_zero, List.set_cons_succ, AV.kill, AV.kill1, AO.kill, AV.noRow, AV.noRow1, AO.via, reduceIte, Nat.reduceEqDiff, Nat.reduceLT, Env.up, Nat.zero_ne_one, Nat.one_ne_zero, Nat.reduceAdd, List.cons_append, List.nil_append]; rotate_left 1)
  | (apply w_alst; iterate 2 exact rfl)
  | (apply w_alone; iterate 3 exact rfl)
  | (apply w_mki; exact rfl; exact rfl; rotate_left 3; exact rfl; rotate_left 1)
  | (apply w_sti; exact rfl; exact rfl; rotate_left 1; exact rfl; rotate_left 2)
  | (apply w_stst; iterate 5 exact rfl)
  | (apply w_stbv; iterate 6 exact rfl)
  | (apply w_stbo; exact rfl; exact rfl; exact rfl; exact rfl; exact rfl; exact True.intro)
  | ((apply AOps.splitB; exact rfl; exact rfl) <;> intro h)
  | apply AllOf.nil
  | (apply AllOf.cons; exact rfl)
  | (apply AAny.take; exact rfl; exact rfl; kernel_rfl; kernel_rfl)
  | (apply AAny.all; exact rfl)
  | (apply AAny.done; exact rfl)
  | (apply inI_of <;> omega)
  | omega
  | (simp <;> omega))
  refine AWp.loop (ι := Nat) (fun j => ⟨82, [(0, .ints P), (1, .ints Q), (6, .own 0), (7, .own 1), (8, .i ((j : Int) - 1))]⟩) (fun j => [.sli 2 (rsO a f g j), .sli 2 (otI d f j)]) (fun j => j ≤ d + 1) (fun j => j) (d + 1) (by omega) ⟨lee rfl (by (repeat (first | exact le_nil | refine le_eq rfl rfl ?_ | refine le_eq rfl (congrArg AV.i (by omega)) ?_ | refine le_eq rfl (congrArg AV.i (hr0)) ?_ | refine le_eq rfl (congrArg AV.i (ho0)) ?_))), by (repeat (first | exact lo_nil | refine lo_dead ?_ | refine lo_eq rfl ?_ | refine lo_eq (congrArg (AO.sli _) (hr0)) ?_ | refine lo_eq (congrArg (AO.sls _ _) (hr0)) ?_ | refine lo_eq (congrArg (AO.sli _) (ho0)) ?_ | refine lo_eq (congrArg (AO.sls _ _) (ho0)) ?_)), rfl, rfl⟩ ?_
  rintro j j0
  by_cases hj : 0 < j
  · obtain ⟨i, rfl⟩ : ∃ i, j = i + 1 := ⟨j - 1, by omega⟩
    have ei : (((i + 1 : Nat) : Int) - 1) = (i : Int) := by omega
    rw [ei]
    have l1 : (rsO a f g (i + 1)).length = a + 1 := tab_len _ _
    have l2 : (otI d f (i + 1)).length = d + 1 := tab_len _ _
    have r1 : geti (rsO a f g (i + 1)) ((((i : Int) + (Q.length : Int) - 1).toNat : Nat) : Int) = wr (f i) := by
      rw [show ((i : Int) + (Q.length : Int) - 1).toNat = i + b by omega]
      unfold rsO
      rw [tab_get _ (by omega), (trF_pol f i).lead hg, g1, Int.mul_one]
      unfold trF
      rw [if_pos (by omega)]
    have s1 : (otI d f (i + 1)).set (i : Int).toNat (geti (rsO a f g (i + 1)) ((((i : Int) + (Q.length : Int) - 1).toNat : Nat) : Int)) = otI d f i := by
      rw [r1, Int.toNat_natCast]; exact otI_step d f i
    have hin1 : inI (geti (rsO a f g (i + 1)) ((((i : Int) + (Q.length : Int) - 1).toNat : Nat) : Int)) := by rw [r1]; exact wr_in _
    repeat' (first
  | (apply AOps.nil; try simp only [List.nil_append, List.cons_append, List.set_cons_zero, List.set_cons_succ, List.length_cons, List.length_nil, Nat.reduceAdd, AV.sh, AV.sh1, AV.sh0, AO.sh, List.map_cons, List.map_nil, Nat.zero_add, Nat.add_zero, setAll])
  | ((apply AOps.splitP; exact rfl; exact rfl) <;> intro h)
  | ((apply AOps.splitN; exact rfl; exact rfl) <;> intro h)
  | (apply w_move; exact rfl; exact rfl)
  | (apply w_assign; exact rfl; exact rfl)
  | apply AWp.seq
  | apply AWp.region
  | ((apply AWp.condP; exact rfl) <;> intro h)
  | ((apply AWp.condN; exact rfl) <;> intro h)
  | (apply AWp.condT; exact rfl)
  | (apply AWp.condF; exact rfl)
  | ((apply AWp.condB; exact rfl) <;> intro h)
  | apply AWp.block
  | apply AWp.ret
  | apply AWp.exit
  | apply AWp.skip
  | (apply if_pos'; exact rfl)
  | (apply if_neg'; decide)
  | (apply w_skip; exact rfl)
  | (apply w_pickT; exact rfl; exact rfl; exact rfl)
  | (apply w_pickF; exact rfl; exact rfl; exact rfl)
  | (apply w_len; exact rfl; exact rfl; first | exact .ints _ | exact .intss _ | exact .sli rfl | exact .sls rfl | exact .slr rfl | exact .orow rfl | exact .nil)
  | omega
  | exact hin1
  | ((first | apply w_lss | apply w_leq | apply w_gtr | apply w_geq | apply w_eql | apply w_neq | apply w_add | apply w_sub | apply w_mul | apply w_idx | apply w_ld | apply w_fld | apply w_fa | apply w_extv | apply w_min | apply w_max | apply w_slhi | apply w_sllo | apply w_bs2); iterate 3 exact rfl)
  | ((first | apply w_eqlb | apply w_neqb | apply w_idxs | apply w_lds | apply w_ext); iterate 3 exact rfl)
  | (apply w_rem; exact rfl; exact rfl; exact rfl; (focus (omega; done)); (focus (omega; done)))
  | (apply w_quo; exact rfl; exact rfl; exact rfl; (focus (omega; done)); (focus (omega; done)))
  | (apply w_remT; exact rfl; exact rfl; exact rfl)
  | (apply w_quoT; exact rfl; exact rfl; exact rfl)
  | ((first | apply w_not | apply w_neg | apply w_conv | apply w_build0 | apply w_bs1 | apply w_boxa); iterate 2 exact rfl)
  | (apply w_idxo; exact rfl; exact rfl; (first | exact .sli rfl | exact .sls rfl | exact .slr rfl); exact rfl)
  | ((first | apply w_idxr | apply w_ldr); iterate 4 exact rfl)
  | (apply w_ldo; iterate 4 exact rfl)
  | (apply w_ldls; iterate 4 exact rfl)
  | (apply w_ldrp; iterate 4 exact rfl)
  | (apply w_ldb; iterate 5 exact rfl)
  | (apply w_ldst; iterate 5 exact rfl)
  | ((first | apply w_sllh | apply w_stbi); iterate 4 exact rfl)
  | ((first | apply w_oslo | apply w_oshi | apply w_stbii); iterate 4 exact rfl)
  | (apply w_build1; exact rfl; exact rfl; (first | exact one_val rfl rfl | exact one_ints | exact one_intss | exact one_own rfl True.intro))
  | (apply w_build2; exact rfl; exact rfl; exact rfl; (first | exact one_val rfl rfl | exact one_ints | exact one_intss | exact one_own rfl True.intro); (first | exact one_val rfl rfl | exact one_ints | exact one_intss | exact one_own rfl True.intro))
  | (apply w_bs0; iterate 1 exact rfl)
  | (apply w_appn; exact rfl; exact rfl; (first | exact .ints _ | exact .sli rfl | exact .orow rfl | exact .nil | exact .osub rfl (by simp; omega)); exact rfl)
  | (apply w_app; exact rfl; exact rfl; exact rfl; exact rfl; (first | exact .ints _ | exact .sli rfl | exact .orow rfl | exact .nil | exact .osub rfl (by simp; omega)); rotate_left 1; simp only [Env.mp, List.map_cons, List.map_nil, List.set_cons_zero, List.set_cons_succ, AV.kill, AV.kill1, AO.kill, AV.noRow, AV.noRow1, AO.via, reduceIte, Nat.reduceEqDiff, Nat.reduceLT, Env.up, Nat.zero_ne_one, Nat.one_ne_zero, Nat.reduceAdd, List.cons_append, List.nil_append]; rotate_left 1)
  | (apply w_alst; iterate 2 exact rfl)
  | (apply w_alone; iterate 3 exact rfl)
  | (apply w_mki; exact rfl; exact rfl; rotate_left 3; exact rfl; rotate_left 1)
  | (apply w_sti; exact rfl; exact rfl; rotate_left 1; exact rfl; rotate_left 2)
  | (apply w_stst; iterate 5 exact rfl)
  | (apply w_stbv; iterate 6 exact rfl)
  | (apply w_stbo; exact rfl; exact rfl; exact rfl; exact rfl; exact rfl; exact True.intro)
  | ((apply AOps.splitB; exact rfl; exact rfl) <;> intro h)
  | apply AllOf.nil
  | (apply AllOf.cons; exact rfl)
  | (apply AAny.take; exact rfl; exact rfl; kernel_rfl; kernel_rfl)
  | (apply AAny.all; exact rfl)
  | (apply AAny.done; exact rfl)
  | (apply inI_of <;> omega)
  | omega
  | (simp <;> omega))
    refine AWp.loop (ι := Nat) (fun k => ⟨82, [(0, .ints P), (1, .ints Q), (6, .own 0), (7, .own 1), (8, .i i), (9, .i k)]⟩) (fun k => [.sli 2 (rsI a f g i k), .sli 2 (otI d f i)]) (fun k => k ≤ b + 1) (fun k => b + 1 - k) 0 (by omega) ⟨lee rfl (by (repeat (first | exact le_nil | refine le_eq rfl rfl ?_ | refine le_eq rfl (congrArg AV.i (by omega)) ?_ | refine le_eq rfl (congrArg AV.i (s1)) ?_ | refine le_eq rfl (congrArg AV.i (rsI_none a f g i)) ?_))), by (repeat (first | exact lo_nil | refine lo_dead ?_ | refine lo_eq rfl ?_ | refine lo_eq (congrArg (AO.sli _) (s1)) ?_ | refine lo_eq (congrArg (AO.sls _ _) (s1)) ?_ | refine lo_eq (congrArg (AO.sli _) (rsI_none a f g i)) ?_ | refine lo_eq (congrArg (AO.sls _ _) (rsI_none a f g i)) ?_)), rfl, rfl⟩ ?_
    rintro k k0
    have l3 : (rsI a f g i k).length = a + 1 := tab_len _ _
    have l4 : (otI d f i).length = d + 1 := tab_len _ _
    by_cases hk : k < b + 1
    · have q1 : geti (rsI a f g i k) ((((i : Int) + (k : Int)).toNat : Nat) : Int) = wr (Cy.mul (trF f (i + 1)) g (i + k)) := by
        rw [show ((i : Int) + (k : Int)).toNat = i + k by omega]
        unfold rsI
        rw [tab_get _ (by omega), if_neg (by omega)]
      have q2 : geti (otI d f i) (((i : Int).toNat : Nat) : Int) = wr (f i) := by
        rw [Int.toNat_natCast]; unfold otI; rw [tab_get _ (by omega), if_pos (by omega)]
      have q3 : geti Q (k : Nat) = wr (g k) := by rw [hQ, tab_get _ hk]
      have s2 : (rsI a f g i k).set ((i : Int) + (k : Int)).toNat (wr (geti (rsI a f g i k) ((((i : Int) + (k : Int)).toNat : Nat) : Int) - wr (geti (otI d f i) (((i : Int).toNat : Nat) : Int) * geti Q (k : Nat)))) = rsI a f g i (k + 1) := by
        rw [q1, q2, q3, wr_mul, wr_sub, trF_mul, if_neg (by omega), show i + k - i = k by omega, show ((i : Int) + (k : Int)).toNat = i + k by omega, Int.add_sub_cancel]
        exact rsI_step a f g i k
      repeat' (first
  | (apply AOps.nil; try simp only [List.nil_append, List.cons_append, List.set_cons_zero, List.set_cons_succ, List.length_cons, List.length_nil, Nat.reduceAdd, AV.sh, AV.sh1, AV.sh0, AO.sh, List.map_cons, List.map_nil, Nat.zero_add, Nat.add_zero, setAll])
  | ((apply AOps.splitP; exact rfl; exact rfl) <;> intro h)
  | ((apply AOps.splitN; exact rfl; exact rfl) <;> intro h)
  | (apply w_move; exact rfl; exact rfl)
  | (apply w_assign; exact rfl; exact rfl)
  | apply AWp.seq
  | apply AWp.region
  | ((apply AWp.condP; exact rfl) <;> intro h)
  | ((apply AWp.condN; exact rfl) <;> intro h)
  | (apply AWp.condT; exact rfl)
  | (apply AWp.condF; exact rfl)
  | ((apply AWp.condB; exact rfl) <;> intro h)
  | apply AWp.block
  | apply AWp.ret
  | apply AWp.exit
  | apply AWp.skip
  | (apply if_pos'; exact rfl)
  | (apply if_neg'; decide)
  | (apply w_skip; exact rfl)
  | (apply w_pickT; exact rfl; exact rfl; exact rfl)
  | (apply w_pickF; exact rfl; exact rfl; exact rfl)
  | (apply w_len; exact rfl; exact rfl; first | exact .ints _ | exact .intss _ | exact .sli rfl | exact .sls rfl | exact .slr rfl | exact .orow rfl | exact .nil)
  | omega
  | ((first | apply w_lss | apply w_leq | apply w_gtr | apply w_geq | apply w_eql | apply w_neq | apply w_add | apply w_sub | apply w_mul | apply w_idx | apply w_ld | apply w_fld | apply w_fa | apply w_extv | apply w_min | apply w_max | apply w_slhi | apply w_sllo | apply w_bs2); iterate 3 exact rfl)
  | ((first | apply w_eqlb | apply w_neqb | apply w_idxs | apply w_lds | apply w_ext); iterate 3 exact rfl)
  | (apply w_rem; exact rfl; exact rfl; exact rfl; (focus (omega; done)); (focus (omega; done)))
  | (apply w_quo; exact rfl; exact rfl; exact rfl; (focus (omega; done)); (focus (omega; done)))
  | (apply w_remT; exact rfl; exact rfl; exact rfl)
  | (apply w_quoT; exact rfl; exact rfl; exact rfl)
  | ((first | apply w_not | apply w_neg | apply w_conv | apply w_build0 | apply w_bs1 | apply w_boxa); iterate 2 exact rfl)
  | (apply w_idxo; exact rfl; exact rfl; (first | exact .sli rfl | exact .sls rfl | exact .slr rfl); exact rfl)
  | ((first | apply w_idxr | apply w_ldr); iterate 4 exact rfl)
  | (apply w_ldo; iterate 4 exact rfl)
  | (apply w_ldls; iterate 4 exact rfl)
  | (apply w_ldrp; iterate 4 exact rfl)
  | (apply w_ldb; iterate 5 exact rfl)
  | (apply w_ldst; iterate 5 exact rfl)
  | ((first | apply w_sllh | apply w_stbi); iterate 4 exact rfl)
  | ((first | apply w_oslo | apply w_oshi | apply w_stbii); iterate 4 exact rfl)
  | (apply w_build1; exact rfl; exact rfl; (first | exact one_val rfl rfl | exact one_ints | exact one_intss | exact one_own rfl True.intro))
  | (apply w_build2; exact rfl; exact rfl; exact rfl; (first | exact one_val rfl rfl | exact one_ints | exact one_intss | exact one_own rfl True.intro); (first | exact one_val rfl rfl | exact one_ints | exact one_intss | exact one_own rfl True.intro))
  | (apply w_bs0; iterate 1 exact rfl)
  | (apply w_appn; exact rfl; exact rfl; (first | exact .ints _ | exact .sli rfl | exact .orow rfl | exact .nil | exact .osub rfl (by simp; omega)); exact rfl)
  | (apply w_app; exact rfl; exact rfl; exact rfl; exact rfl; (first | exact .ints _ | exact .sli rfl | exact .orow rfl | exact .nil | exact .osub rfl (by simp; omega)); rotate_left 1; simp only [Env.mp, List.map_cons, List.map_nil, List.set_cons_zero, List.set_cons_succ, AV.kill, AV.kill1, AO.kill, AV.noRow, AV.noRow1, AO.via, reduceIte, Nat.reduceEqDiff, Nat.reduceLT, Env.up, Nat.zero_ne_one, Nat.one_ne_zero, Nat.reduceAdd, List.cons_append, List.nil_append]; rotate_left 1)
  | (apply w_alst; iterate 2 exact rfl)
  | (apply w_alone; iterate 3 exact rfl)
  | (apply w_mki; exact rfl; exact rfl; rotate_left 3; exact rfl; rotate_left 1)
  | (apply w_sti; exact rfl; exact rfl; rotate_left 1; exact rfl; rotate_left 2)
  | (apply w_stst; iterate 5 exact rfl)
  | (apply w_stbv; iterate 6 exact rfl)
  | (apply w_stbo; exact rfl; exact rfl; exact rfl; exact rfl; exact rfl; exact True.intro)
  | ((apply AOps.splitB; exact rfl; exact rfl) <;> intro h)
  | apply AllOf.nil
  | (apply AllOf.cons; exact rfl)
  | (apply AAny.take; exact rfl; exact rfl; kernel_rfl; kernel_rfl)
  | (apply AAny.all; exact rfl)
  | (apply AAny.done; exact rfl)
  | (apply inI_of <;> omega)
  | omega
  | (simp <;> omega))
      refine AWp.regionA (by kernel_rfl) (envC := ⟨82, [(0, .ints P), (1, .ints Q), (6, .own 0), (7, .own 1), (8, .i i), (9, .i k)]⟩) (osC := [.sli 2 (rsI a f g i (k + 1)), .sli 2 (otI d f i)]) rfl rfl ?_ ?_
      · rw [← s2]
        repeat' (first
  | (apply AOps.nil; try simp only [List.nil_append, List.cons_append, List.set_cons_zero, List.set_cons_succ, List.length_cons, List.length_nil, Nat.reduceAdd, AV.sh, AV.sh1, AV.sh0, AO.sh, List.map_cons, List.map_nil, Nat.zero_add, Nat.add_zero, setAll])
  | ((apply AOps.splitP; exact rfl; exact rfl) <;> intro h)
  | ((apply AOps.splitN; exact rfl; exact rfl) <;> intro h)
  | (apply w_move; exact rfl; exact rfl)
  | (apply w_assign; exact rfl; exact rfl)
  | apply AWp.seq
  | apply AWp.region
  | ((apply AWp.condP; exact rfl) <;> intro h)
  | ((apply AWp.condN; exact rfl) <;> intro h)
  | (apply AWp.condT; exact rfl)
  | (apply AWp.condF; exact rfl)
  | ((apply AWp.condB; exact rfl) <;> intro h)
  | apply AWp.block
  | apply AWp.ret
  | apply AWp.exit
  | apply AWp.skip
  | (apply AWp.regionQ; kernel_rfl; kernel_rfl)
  | (apply if_pos'; exact rfl)
  | (apply if_neg'; decide)
  | (apply w_skip; exact rfl)
  | (apply w_pickT; exact rfl; exact rfl; exact rfl)
  | (apply w_pickF; exact rfl; exact rfl; exact rfl)
  | (apply w_len; exact rfl; exact rfl; first | exact .ints _ | exact .intss _ | exact .sli rfl | exact .sls rfl | exact .slr rfl | exact .orow rfl | exact .nil)
  | ((first | apply w_addw (d := 67) | apply w_subw (d := 67) | apply w_mulw (d := 67)); exact rfl; exact rfl; exact rfl)
  | ((first | apply w_addw (d := 68) | apply w_subw (d := 68) | apply w_mulw (d := 68)); exact rfl; exact rfl; exact rfl)
  | exact wr_in _
  | omega
  | ((first | apply w_lss | apply w_leq | apply w_gtr | apply w_geq | apply w_eql | apply w_neq | apply w_add | apply w_sub | apply w_mul | apply w_idx | apply w_ld | apply w_fld | apply w_fa | apply w_extv | apply w_min | apply w_max | apply w_slhi | apply w_sllo | apply w_bs2); iterate 3 exact rfl)
  | ((first | apply w_eqlb | apply w_neqb | apply w_idxs | apply w_lds | apply w_ext); iterate 3 exact rfl)
  | (apply w_rem; exact rfl; exact rfl; exact rfl; (focus (omega; done)); (focus (omega; done)))
  | (apply w_quo; exact rfl; exact rfl; exact rfl; (focus (omega; done)); (focus (omega; done)))
  | (apply w_remT; exact rfl; exact rfl; exact rfl)
  | (apply w_quoT; exact rfl; exact rfl; exact rfl)
  | ((first | apply w_not | apply w_neg | apply w_conv | apply w_build0 | apply w_bs1 | apply w_boxa); iterate 2 exact rfl)
  | (apply w_idxo; exact rfl; exact rfl; (first | exact .sli rfl | exact .sls rfl | exact .slr rfl); exact rfl)
  | ((first | apply w_idxr | apply w_ldr); iterate 4 exact rfl)
  | (apply w_ldo; iterate 4 exact rfl)
  | (apply w_ldls; iterate 4 exact rfl)
  | (apply w_ldrp; iterate 4 exact rfl)
  | (apply w_ldb; iterate 5 exact rfl)
  | (apply w_ldst; iterate 5 exact rfl)
  | ((first | apply w_sllh | apply w_stbi); iterate 4 exact rfl)
  | ((first | apply w_oslo | apply w_oshi | apply w_stbii); iterate 4 exact rfl)
  | (apply w_build1; exact rfl; exact rfl; (first | exact one_val rfl rfl | exact one_ints | exact one_intss | exact one_own rfl True.intro))
  | (apply w_build2; exact rfl; exact rfl; exact rfl; (first | exact one_val rfl rfl | exact one_ints | exact one_intss | exact one_own rfl True.intro); (first | exact one_val rfl rfl | exact one_ints | exact one_intss | exact one_own rfl True.intro))
  | (apply w_bs0; iterate 1 exact rfl)
  | (apply w_appn; exact rfl; exact rfl; (first | exact .ints _ | exact .sli rfl | exact .orow rfl | exact .nil | exact .osub rfl (by simp; omega)); exact rfl)
  | (apply w_app; exact rfl; exact rfl; exact rfl; exact rfl; (first | exact .ints _ | exact .sli rfl | exact .orow rfl | exact .nil | exact .osub rfl (by simp; omega)); rotate_left 1; simp only [Env.mp, List.map_cons, List.map_nil, List.set_cons_zero, List.set_cons_succ, AV.kill, AV.kill1, AO.kill, AV.noRow, AV.noRow1, AO.via, reduceIte, Nat.reduceEqDiff, Nat.reduceLT, Env.up, Nat.zero_ne_one, Nat.one_ne_zero, Nat.reduceAdd, List.cons_append, List.nil_append]; rotate_left 1)
  | (apply w_alst; iterate 2 exact rfl)
  | (apply w_alone; iterate 3 exact rfl)
  | (apply w_mki; exact rfl; exact rfl; rotate_left 3; exact rfl; rotate_left 1)
  | (apply w_sti; exact rfl; exact rfl; rotate_left 1; exact rfl; rotate_left 2)
  | (apply w_stst; iterate 5 exact rfl)
  | (apply w_stbv; iterate 6 exact rfl)
  | (apply w_stbo; exact rfl; exact rfl; exact rfl; exact rfl; exact rfl; exact True.intro)
  | ((apply AOps.splitB; exact rfl; exact rfl) <;> intro h)
  | apply AllOf.nil
  | (apply AllOf.cons; exact rfl)
  | (apply AAny.take; exact rfl; exact rfl; kernel_rfl; kernel_rfl)
  | (apply AAny.all; exact rfl)
  | (apply AAny.done; exact rfl)
  | (apply inI_of <;> omega)
  | omega
  | (simp <;> omega))
        all_goals (first | (apply Or.inl; refine ⟨lee rfl ?_, ?_, rfl, rfl⟩; (focus ((repeat (first | exact le_nil | refine le_eq rfl rfl ?_ | (refine le_eq rfl (congrArg AV.i ?_) ?_; (focus (omega; done))))); done)); (focus ((repeat (first | exact lo_nil | refine lo_dead ?_ | refine lo_eq rfl ?_)); done))))
      repeat' (first
  | (apply AOps.nil; try simp only [List.nil_append, List.cons_append, List.set_cons_zero, List.set_cons_succ, List.length_cons, List.length_nil, Nat.reduceAdd, AV.sh, AV.sh1, AV.sh0, AO.sh, List.map_cons, List.map_nil, Nat.zero_add, Nat.add_zero, setAll])
  | ((apply AOps.splitP; exact rfl; exact rfl) <;> intro h)
  | ((apply AOps.splitN; exact rfl; exact rfl) <;> intro h)
  | (apply w_move; exact rfl; exact rfl)
  | (apply w_assign; exact rfl; exact rfl)
  | apply AWp.seq
  | apply AWp.region
  | ((apply AWp.condP; exact rfl) <;> intro h)
  | ((apply AWp.condN; exact rfl) <;> intro h)
  | (apply AWp.condT; exact rfl)
  | (apply AWp.condF; exact rfl)
  | ((apply AWp.condB; exact rfl) <;> intro h)
  | apply AWp.block
  | apply AWp.ret
  | apply AWp.exit
  | apply AWp.skip
  | (apply if_pos'; exact rfl)
  | (apply if_neg'; decide)
  | (apply w_skip; exact rfl)
  | (apply w_pickT; exact rfl; exact rfl; exact rfl)
  | (apply w_pickF; exact rfl; exact rfl; exact rfl)
  | (apply w_len; exact rfl; exact rfl; first | exact .ints _ | exact .intss _ | exact .sli rfl | exact .sls rfl | exact .slr rfl | exact .orow rfl | exact .nil)
  | omega
  | ((first | apply w_lss | apply w_leq | apply w_gtr | apply w_geq | apply w_eql | apply w_neq | apply w_add | apply w_sub | apply w_mul | apply w_idx | apply w_ld | apply w_fld | apply w_fa | apply w_extv | apply w_min | apply w_max | apply w_slhi | apply w_sllo | apply w_bs2); iterate 3 exact rfl)
  | ((first | apply w_eqlb | apply w_neqb | apply w_idxs | apply w_lds | apply w_ext); iterate 3 exact rfl)
  | (apply w_rem; exact rfl; exact rfl; exact rfl; (focus (omega; done)); (focus (omega; done)))
  | (apply w_quo; exact rfl; exact rfl; exact rfl; (focus (omega; done)); (focus (omega; done)))
  | (apply w_remT; exact rfl; exact rfl; exact rfl)
  | (apply w_quoT; exact rfl; exact rfl; exact rfl)
  | ((first | apply w_not | apply w_neg | apply w_conv | apply w_build0 | apply w_bs1 | apply w_boxa); iterate 2 exact rfl)
  | (apply w_idxo; exact rfl; exact rfl; (first | exact .sli rfl | exact .sls rfl | exact .slr rfl); exact rfl)
  | ((first | apply w_idxr | apply w_ldr); iterate 4 exact rfl)
  | (apply w_ldo; iterate 4 exact rfl)
  | (apply w_ldls; iterate 4 exact rfl)
  | (apply w_ldrp; iterate 4 exact rfl)
  | (apply w_ldb; iterate 5 exact rfl)
  | (apply w_ldst; iterate 5 exact rfl)
  | ((first | apply w_sllh | apply w_stbi); iterate 4 exact rfl)
  | ((first | apply w_oslo | apply w_oshi | apply w_stbii); iterate 4 exact rfl)
  | (apply w_build1; exact rfl; exact rfl; (first | exact one_val rfl rfl | exact one_ints | exact one_intss | exact one_own rfl True.intro))
  | (apply w_build2; exact rfl; exact rfl; exact rfl; (first | exact one_val rfl rfl | exact one_ints | exact one_intss | exact one_own rfl True.intro); (first | exact one_val rfl rfl | exact one_ints | exact one_intss | exact one_own rfl True.intro))
  | (apply w_bs0; iterate 1 exact rfl)
  | (apply w_appn; exact rfl; exact rfl; (first | exact .ints _ | exact .sli rfl | exact .orow rfl | exact .nil | exact .osub rfl (by simp; omega)); exact rfl)
  | (apply w_app; exact rfl; exact rfl; exact rfl; exact rfl; (first | exact .ints _ | exact .sli rfl | exact .orow rfl | exact .nil | exact .osub rfl (by simp; omega)); rotate_left 1; simp only [Env.mp, List.map_cons, List.map_nil, List.set_cons_zero, List.set_cons_succ, AV.kill, AV.kill1, AO.kill, AV.noRow, AV.noRow1, AO.via, reduceIte, Nat.reduceEqDiff, Nat.reduceLT, Env.up, Nat.zero_ne_one, Nat.one_ne_zero, Nat.reduceAdd, List.cons_append, List.nil_append]; rotate_left 1)
  | (apply w_alst; iterate 2 exact rfl)
  | (apply w_alone; iterate 3 exact rfl)
  | (apply w_mki; exact rfl; exact rfl; rotate_left 3; exact rfl; rotate_left 1)
  | (apply w_sti; exact rfl; exact rfl; rotate_left 1; exact rfl; rotate_left 2)
  | (apply w_stst; iterate 5 exact rfl)
  | (apply w_stbv; iterate 6 exact rfl)
  | (apply w_stbo; exact rfl; exact rfl; exact rfl; exact rfl; exact rfl; exact True.intro)
  | ((apply AOps.splitB; exact rfl; exact rfl) <;> intro h)
  | apply AllOf.nil
  | (apply AllOf.cons; exact rfl)
  | (apply AAny.take; exact rfl; exact rfl; kernel_rfl; kernel_rfl)
  | (apply AAny.all; exact rfl)
  | (apply AAny.done; exact rfl)
  | (apply inI_of <;> omega)
  | omega
  | (simp <;> omega))
      exact ⟨k + 1, by omega, by omega, ⟨lee rfl (by (repeat (first | exact le_nil | refine le_eq rfl rfl ?_ | refine le_eq rfl (congrArg AV.i (by omega)) ?_))), by (repeat (first | exact lo_nil | refine lo_dead ?_ | refine lo_eq rfl ?_)), rfl, rfl⟩⟩
    · have e : k = b + 1 := by omega
      subst e
      have hend := rsI_all a f g i hg
      repeat' (first
  | (apply AOps.nil; try simp only [List.nil_append, List.cons_append, List.set_cons_zero, List.set_cons_succ, List.length_cons, List.length_nil, Nat.reduceAdd, AV.sh, AV.sh1, AV.sh0, AO.sh, List.map_cons, List.map_nil, Nat.zero_add, Nat.add_zero, setAll])
  | ((apply AOps.splitP; exact rfl; exact rfl) <;> intro h)
  | ((apply AOps.splitN; exact rfl; exact rfl) <;> intro h)
  | (apply w_move; exact rfl; exact rfl)
  | (apply w_assign; exact rfl; exact rfl)
  | apply AWp.seq
  | apply AWp.region
  | ((apply AWp.condP; exact rfl) <;> intro h)
  | ((apply AWp.condN; exact rfl) <;> intro h)
  | (apply AWp.condT; exact rfl)
  | (apply AWp.condF; exact rfl)
  | ((apply AWp.condB; exact rfl) <;> intro h)
  | apply AWp.block
  | apply AWp.ret
  | apply AWp.exit
  | apply AWp.skip
  | (apply if_pos'; exact rfl)
  | (apply if_neg'; decide)
  | (apply w_skip; exact rfl)
  | (apply w_pickT; exact rfl; exact rfl; exact rfl)
  | (apply w_pickF; exact rfl; exact rfl; exact rfl)
  | (apply w_len; exact rfl; exact rfl; first | exact .ints _ | exact .intss _ | exact .sli rfl | exact .sls rfl | exact .slr rfl | exact .orow rfl | exact .nil)
  | omega
  | ((first | apply w_lss | apply w_leq | apply w_gtr | apply w_geq | apply w_eql | apply w_neq | apply w_add | apply w_sub | apply w_mul | apply w_idx | apply w_ld | apply w_fld | apply w_fa | apply w_extv | apply w_min | apply w_max | apply w_slhi | apply w_sllo | apply w_bs2); iterate 3 exact rfl)
  | ((first | apply w_eqlb | apply w_neqb | apply w_idxs | apply w_lds | apply w_ext); iterate 3 exact rfl)
  | (apply w_rem; exact rfl; exact rfl; exact rfl; (focus (omega; done)); (focus (omega; done)))
  | (apply w_quo; exact rfl; exact rfl; exact rfl; (focus (omega; done)); (focus (omega; done)))
  | (apply w_remT; exact rfl; exact rfl; exact rfl)
  | (apply w_quoT; exact rfl; exact rfl; exact rfl)
  | ((first | apply w_not | apply w_neg | apply w_conv | apply w_build0 | apply w_bs1 | apply w_boxa); iterate 2 exact rfl)
  | (apply w_idxo; exact rfl; exact rfl; (first | exact .sli rfl | exact .sls rfl | exact .slr rfl); exact rfl)
  | ((first | apply w_idxr | apply w_ldr); iterate 4 exact rfl)
  | (apply w_ldo; iterate 4 exact rfl)
  | (apply w_ldls; iterate 4 exact rfl)
  | (apply w_ldrp; iterate 4 exact rfl)
  | (apply w_ldb; iterate 5 exact rfl)
  | (apply w_ldst; iterate 5 exact rfl)
  | ((first | apply w_sllh | apply w_stbi); iterate 4 exact rfl)
  | ((first | apply w_oslo | apply w_oshi | apply w_stbii); iterate 4 exact rfl)
  | (apply w_build1; exact rfl; exact rfl; (first | exact one_val rfl rfl | exact one_ints | exact one_intss | exact one_own rfl True.intro))
  | (apply w_build2; exact rfl; exact rfl; exact rfl; (first | exact one_val rfl rfl | exact one_ints | exact one_intss | exact one_own rfl True.intro); (first | exact one_val rfl rfl | exact one_ints | exact one_intss | exact one_own rfl True.intro))
  | (apply w_bs0; iterate 1 exact rfl)
  | (apply w_appn; exact rfl; exact rfl; (first | exact .ints _ | exact .sli rfl | exact .orow rfl | exact .nil | exact .osub rfl (by simp; omega)); exact rfl)
  | (apply w_app; exact rfl; exact rfl; exact rfl; exact rfl; (first | exact .ints _ | exact .sli rfl | exact .orow rfl | exact .nil | exact .osub rfl (by simp; omega)); rotate_left 1; simp only [Env.mp, List.map_cons, List.map_nil, List.set_cons_zero, List.set_cons_succ, AV.kill, AV.kill1, AO.kill, AV.noRow, AV.noRow1, AO.via, reduceIte, Nat.reduceEqDiff, Nat.reduceLT, Env.up, Nat.zero_ne_one, Nat.one_ne_zero, Nat.reduceAdd, List.cons_append, List.nil_append]; rotate_left 1)
  | (apply w_alst; iterate 2 exact rfl)
  | (apply w_alone; iterate 3 exact rfl)
  | (apply w_mki; exact rfl; exact rfl; rotate_left 3; exact rfl; rotate_left 1)
  | (apply w_sti; exact rfl; exact rfl; rotate_left 1; exact rfl; rotate_left 2)
  | (apply w_stst; iterate 5 exact rfl)
  | (apply w_stbv; iterate 6 exact rfl)
  | (apply w_stbo; exact rfl; exact rfl; exact rfl; exact rfl; exact rfl; exact True.intro)
  | ((apply AOps.splitB; exact rfl; exact rfl) <;> intro h)
  | apply AllOf.nil
  | (apply AllOf.cons; exact rfl)
  | (apply AAny.take; exact rfl; exact rfl; kernel_rfl; kernel_rfl)
  | (apply AAny.all; exact rfl)
  | (apply AAny.done; exact rfl)
  | (apply inI_of <;> omega)
  | omega
  | (simp <;> omega))
      exact ⟨i, by omega, by omega, ⟨lee rfl (by (repeat (first | exact le_nil | refine le_eq rfl rfl ?_ | refine le_eq rfl (congrArg AV.i (by omega)) ?_ | refine le_eq rfl (congrArg AV.i (hend)) ?_))), by (repeat (first | exact lo_nil | refine lo_dead ?_ | refine lo_eq rfl ?_ | refine lo_eq (congrArg (AO.sli _) (hend)) ?_ | refine lo_eq (congrArg (AO.sls _ _) (hend)) ?_)), rfl, rfl⟩⟩
  · obtain rfl : j = 0 := by omega
    rw [rsO_zero, otI_all]
    repeat' (first
  | (apply AOps.nil; try simp only [List.nil_append, List.cons_append, List.set_cons_zero, List.set_cons_succ, List.length_cons, List.length_nil, Nat.reduceAdd, AV.sh, AV.sh1, AV.sh0, AO.sh, List.map_cons, List.map_nil, Nat.zero_add, Nat.add_zero, setAll])
  | ((apply AOps.splitP; exact rfl; exact rfl) <;> intro h)
  | ((apply AOps.splitN; exact rfl; exact rfl) <;> intro h)
  | (apply w_move; exact rfl; exact rfl)
  | (apply w_assign; exact rfl; exact rfl)
  | apply AWp.seq
  | apply AWp.region
  | ((apply AWp.condP; exact rfl) <;> intro h)
  | ((apply AWp.condN; exact rfl) <;> intro h)
  | (apply AWp.condT; exact rfl)
  | (apply AWp.condF; exact rfl)
  | ((apply AWp.condB; exact rfl) <;> intro h)
  | apply AWp.block
  | apply AWp.ret
  | apply AWp.exit
  | apply AWp.skip
  | (apply if_pos'; exact rfl)
  | (apply if_neg'; decide)
  | (apply w_skip; exact rfl)
  | (apply w_pickT; exact rfl; exact rfl; exact rfl)
  | (apply w_pickF; exact rfl; exact rfl; exact rfl)
  | (apply w_len; exact rfl; exact rfl; first | exact .ints _ | exact .intss _ | exact .sli rfl | exact .sls rfl | exact .slr rfl | exact .orow rfl | exact .nil)
  | omega
  | ((first | apply w_lss | apply w_leq | apply w_gtr | apply w_geq | apply w_eql | apply w_neq | apply w_add | apply w_sub | apply w_mul | apply w_idx | apply w_ld | apply w_fld | apply w_fa | apply w_extv | apply w_min | apply w_max | apply w_slhi | apply w_sllo | apply w_bs2); iterate 3 exact rfl)
  | ((first | apply w_eqlb | apply w_neqb | apply w_idxs | apply w_lds | apply w_ext); iterate 3 exact rfl)
  | (apply w_rem; exact rfl; exact rfl; exact rfl; (focus (omega; done)); (focus (omega; done)))
  | (apply w_quo; exact rfl; exact rfl; exact rfl; (focus (omega; done)); (focus (omega; done)))
  | (apply w_remT; exact rfl; exact rfl; exact rfl)
  | (apply w_quoT; exact rfl; exact rfl; exact rfl)
  | ((first | apply w_not | apply w_neg | apply w_conv | apply w_build0 | apply w_bs1 | apply w_boxa); iterate 2 exact rfl)
  | (apply w_idxo; exact rfl; exact rfl; (first | exact .sli rfl | exact .sls rfl | exact .slr rfl); exact rfl)
  | ((first | apply w_idxr | apply w_ldr); iterate 4 exact rfl)
  | (apply w_ldo; iterate 4 exact rfl)
  | (apply w_ldls; iterate 4 exact rfl)
  | (apply w_ldrp; iterate 4 exact rfl)
  | (apply w_ldb; iterate 5 exact rfl)
  | (apply w_ldst; iterate 5 exact rfl)
  | ((first | apply w_sllh | apply w_stbi); iterate 4 exact rfl)
  | ((first | apply w_oslo | apply w_oshi | apply w_stbii); iterate 4 exact rfl)
  | (apply w_build1; exact rfl; exact rfl; (first | exact one_val rfl rfl | exact one_ints | exact one_intss | exact one_own rfl True.intro))
  | (apply w_build2; exact rfl; exact rfl; exact rfl; (first | exact one_val rfl rfl | exact one_ints | exact one_intss | exact one_own rfl True.intro); (first | exact one_val rfl rfl | exact one_ints | exact one_intss | exact one_own rfl True.intro))
  | (apply w_bs0; iterate 1 exact rfl)
  | (apply w_appn; exact rfl; exact rfl; (first | exact .ints _ | exact .sli rfl | exact .orow rfl | exact .nil | exact .osub rfl (by simp; omega)); exact rfl)
  | (apply w_app; exact rfl; exact rfl; exact rfl; exact rfl; (first | exact .ints _ | exact .sli rfl | exact .orow rfl | exact .nil | exact .osub rfl (by simp; omega)); rotate_left 1; simp only [Env.mp, List.map_cons, List.map_nil, List.set_cons_zero, List.set_cons_succ, AV.kill, AV.kill1, AO.kill, AV.noRow, AV.noRow1, AO.via, reduceIte, Nat.reduceEqDiff, Nat.reduceLT, Env.up, Nat.zero_ne_one, Nat.one_ne_zero, Nat.reduceAdd, List.cons_append, List.nil_append]; rotate_left 1)
  | (apply w_alst; iterate 2 exact rfl)
  | (apply w_alone; iterate 3 exact rfl)
  | (apply w_mki; exact rfl; exact rfl; rotate_left 3; exact rfl; rotate_left 1)
  | (apply w_sti; exact rfl; exact rfl; rotate_left 1; exact rfl; rotate_left 2)
  | (apply w_stst; iterate 5 exact rfl)
  | (apply w_stbv; iterate 6 exact rfl)
  | (apply w_stbo; exact rfl; exact rfl; exact rfl; exact rfl; exact rfl; exact True.intro)
  | ((apply AOps.splitB; exact rfl; exact rfl) <;> intro h)
  | apply AllOf.nil
  | (apply AllOf.cons; exact rfl)
  | (apply AAny.take; exact rfl; exact rfl; kernel_rfl; kernel_rfl)
  | (apply AAny.all; exact rfl)
  | (apply AAny.done; exact rfl)
  | (apply inI_of <;> omega)
  | omega
  | (simp <;> omega))
    refine AWp.loop (ι := Nat) (fun i => ⟨82, [(6, .own 0), (7, .own 1), (10, .i i)]⟩) (fun i => [.sli 2 (tab (a + 1) fun _ => 0), .sli 2 (tab (d + 1) fun c => wr (f c))]) (fun i => i ≤ a + 1) (fun i => a + 1 - i) 0 (by omega) ⟨lee rfl (by (repeat (first | exact le_nil | refine le_eq rfl rfl ?_ | refine le_eq rfl (congrArg AV.i (by omega)) ?_))), by (repeat (first | exact lo_nil | refine lo_dead ?_ | refine lo_eq rfl ?_)), rfl, rfl⟩ ?_
    rintro i i0
    have l5 : (tab (a + 1) fun _ => (0 : Int)).length = a + 1 := tab_len _ _
    by_cases hi : i < a + 1
    · have z : geti (tab (a + 1) fun _ => (0 : Int)) (((i : Int).toNat : Nat) : Int) = 0 := by rw [Int.toNat_natCast, tab_get _ hi]
      repeat' (first
  | (apply AOps.nil; try simp only [List.nil_append, List.cons_append, List.set_cons_zero, List.set_cons_succ, List.length_cons, List.length_nil, Nat.reduceAdd, AV.sh, AV.sh1, AV.sh0, AO.sh, List.map_cons, List.map_nil, Nat.zero_add, Nat.add_zero, setAll])
  | ((apply AOps.splitP; exact rfl; exact rfl) <;> intro h)
  | ((apply AOps.splitN; exact rfl; exact rfl) <;> intro h)
  | (apply w_move; exact rfl; exact rfl)
  | (apply w_assign; exact rfl; exact rfl)
  | apply AWp.seq
  | apply AWp.region
  | ((apply AWp.condP; exact rfl) <;> intro h)
  | ((apply AWp.condN; exact rfl) <;> intro h)
  | (apply AWp.condT; exact rfl)
  | (apply AWp.condF; exact rfl)
  | ((apply AWp.condB; exact rfl) <;> intro h)
  | apply AWp.block
  | apply AWp.ret
  | apply AWp.exit
  | apply AWp.skip
  | (apply if_pos'; exact rfl)
  | (apply if_neg'; decide)
  | (apply w_skip; exact rfl)
  | (apply w_pickT; exact rfl; exact rfl; exact rfl)
  | (apply w_pickF; exact rfl; exact rfl; exact rfl)
  | (apply w_len; exact rfl; exact rfl; first | exact .ints _ | exact .intss _ | exact .sli rfl | exact .sls rfl | exact .slr rfl | exact .orow rfl | exact .nil)
  | omega
  | ((first | apply w_lss | apply w_leq | apply w_gtr | apply w_geq | apply w_eql | apply w_neq | apply w_add | apply w_sub | apply w_mul | apply w_idx | apply w_ld | apply w_fld | apply w_fa | apply w_extv | apply w_min | apply w_max | apply w_slhi | apply w_sllo | apply w_bs2); iterate 3 exact rfl)
  | ((first | apply w_eqlb | apply w_neqb | apply w_idxs | apply w_lds | apply w_ext); iterate 3 exact rfl)
  | (apply w_rem; exact rfl; exact rfl; exact rfl; (focus (omega; done)); (focus (omega; done)))
  | (apply w_quo; exact rfl; exact rfl; exact rfl; (focus (omega; done)); (focus (omega; done)))
  | (apply w_remT; exact rfl; exact rfl; exact rfl)
  | (apply w_quoT; exact rfl; exact rfl; exact rfl)
  | ((first | apply w_not | apply w_neg | apply w_conv | apply w_build0 | apply w_bs1 | apply w_boxa); iterate 2 exact rfl)
  | (apply w_idxo; exact rfl; exact rfl; (first | exact .sli rfl | exact .sls rfl | exact .slr rfl); exact rfl)
  | ((first | apply w_idxr | apply w_ldr); iterate 4 exact rfl)
  | (apply w_ldo; iterate 4 exact rfl)
  | (apply w_ldls; iterate 4 exact rfl)
  | (apply w_ldrp; iterate 4 exact rfl)
  | (apply w_ldb; iterate 5 exact rfl)
  | (apply w_ldst; iterate 5 exact rfl)
  | ((first | apply w_sllh | apply w_stbi); iterate 4 exact rfl)
  | ((first | apply w_oslo | apply w_oshi | apply w_stbii); iterate 4 exact rfl)
  | (apply w_build1; exact rfl; exact rfl; (first | exact one_val rfl rfl | exact one_ints | exact one_intss | exact one_own rfl True.intro))
  | (apply w_build2; exact rfl; exact rfl; exact rfl; (first | exact one_val rfl rfl | exact one_ints | exact one_intss | exact one_own rfl True.intro); (first | exact one_val rfl rfl | exact one_ints | exact one_intss | exact one_own rfl True.intro))
  | (apply w_bs0; iterate 1 exact rfl)
  | (apply w_appn; exact rfl; exact rfl; (first | exact .ints _ | exact .sli rfl | exact .orow rfl | exact .nil | exact .osub rfl (by simp; omega)); exact rfl)
  | (apply w_app; exact rfl; exact rfl; exact rfl; exact rfl; (first | exact .ints _ | exact .sli rfl | exact .orow rfl | exact .nil | exact .osub rfl (by simp; omega)); rotate_left 1; simp only [Env.mp, List.map_cons, List.map_nil, List.set_cons_zero, List.set_cons_succ, AV.kill, AV.kill1, AO.kill, AV.noRow, AV.noRow1, AO.via, reduceIte, Nat.reduceEqDiff, Nat.reduceLT, Env.up, Nat.zero_ne_one, Nat.one_ne_zero, Nat.reduceAdd, List.cons_append, List.nil_append]; rotate_left 1)
  | (apply w_alst; iterate 2 exact rfl)
  | (apply w_alone; iterate 3 exact rfl)
  | (apply w_mki; exact rfl; exact rfl; rotate_left 3; exact rfl; rotate_left 1)
  | (apply w_sti; exact rfl; exact rfl; rotate_left 1; exact rfl; rotate_left 2)
  | (apply w_stst; iterate 5 exact rfl)
  | (apply w_stbv; iterate 6 exact rfl)
  | (apply w_stbo; exact rfl; exact rfl; exact rfl; exact rfl; exact rfl; exact True.intro)
  | ((apply AOps.splitB; exact rfl; exact rfl) <;> intro h)
  | apply AllOf.nil
  | (apply AllOf.cons; exact rfl)
  | (apply AAny.take; exact rfl; exact rfl; kernel_rfl; kernel_rfl)
  | (apply AAny.all; exact rfl)
  | (apply AAny.done; exact rfl)
  | (apply inI_of <;> omega)
  | omega
  | (simp <;> omega))
      exact ⟨i + 1, by omega, by omega, ⟨lee rfl (by (repeat (first | exact le_nil | refine le_eq rfl rfl ?_ | refine le_eq rfl (congrArg AV.i (by omega)) ?_))), by (repeat (first | exact lo_nil | refine lo_dead ?_ | refine lo_eq rfl ?_)), rfl, rfl⟩⟩
    · repeat' (first
  | (apply AOps.nil; try simp only [List.nil_append, List.cons_append, List.set_cons_zero, List.set_cons_succ, List.length_cons, List.length_nil, Nat.reduceAdd, AV.sh, AV.sh1, AV.sh0, AO.sh, List.map_cons, List.map_nil, Nat.zero_add, Nat.add_zero, setAll])
  | ((apply AOps.splitP; exact rfl; exact rfl) <;> intro h)
  | ((apply AOps.splitN; exact rfl; exact rfl) <;> intro h)
  | (apply w_move; exact rfl; exact rfl)
  | (apply w_assign; exact rfl; exact rfl)
  | apply AWp.seq
  | apply AWp.region
  | ((apply AWp.condP; exact rfl) <;> intro h)
  | ((apply AWp.condN; exact rfl) <;> intro h)
  | (apply AWp.condT; exact rfl)
  | (apply AWp.condF; exact rfl)
  | ((apply AWp.condB; exact rfl) <;> intro h)
  | apply AWp.block
  | apply AWp.ret
  | apply AWp.exit
  | apply AWp.skip
  | (apply if_pos'; exact rfl)
  | (apply if_neg'; decide)
  | (apply w_skip; exact rfl)
  | (apply w_pickT; exact rfl; exact rfl; exact rfl)
  | (apply w_pickF; exact rfl; exact rfl; exact rfl)
  | (apply w_len; exact rfl; exact rfl; first | exact .ints _ | exact .intss _ | exact .sli rfl | exact .sls rfl | exact .slr rfl | exact .orow rfl | exact .nil)
  | omega
  | ((first | apply w_lss | apply w_leq | apply w_gtr | apply w_geq | apply w_eql | apply w_neq | apply w_add | apply w_sub | apply w_mul | apply w_idx | apply w_ld | apply w_fld | apply w_fa | apply w_extv | apply w_min | apply w_max | apply w_slhi | apply w_sllo | apply w_bs2); iterate 3 exact rfl)
  | ((first | apply w_eqlb | apply w_neqb | apply w_idxs | apply w_lds | apply w_ext); iterate 3 exact rfl)
  | (apply w_rem; exact rfl; exact rfl; exact rfl; (focus (omega; done)); (focus (omega; done)))
  | (apply w_quo; exact rfl; exact rfl; exact rfl; (focus (omega; done)); (focus (omega; done)))
  | (apply w_remT; exact rfl; exact rfl; exact rfl)
  | (apply w_quoT; exact rfl; exact rfl; exact rfl)
  | ((first | apply w_not | apply w_neg | apply w_conv | apply w_build0 | apply w_bs1 | apply w_boxa); iterate 2 exact rfl)
  | (apply w_idxo; exact rfl; exact rfl; (first | exact .sli rfl | exact .sls rfl | exact .slr rfl); exact rfl)
  | ((first | apply w_idxr | apply w_ldr); iterate 4 exact rfl)
  | (apply w_ldo; iterate 4 exact rfl)
  | (apply w_ldls; iterate 4 exact rfl)
  | (apply w_ldrp; iterate 4 exact rfl)
  | (apply w_ldb; iterate 5 exact rfl)
  | (apply w_ldst; iterate 5 exact rfl)
  | ((first | apply w_sllh | apply w_stbi); iterate 4 exact rfl)
  | ((first | apply w_oslo | apply w_oshi | apply w_stbii); iterate 4 exact rfl)
  | (apply w_build1; exact rfl; exact rfl; (first | exact one_val rfl rfl | exact one_ints | exact one_intss | exact one_own rfl True.intro))
  | (apply w_build2; exact rfl; exact rfl; exact rfl; (first | exact one_val rfl rfl | exact one_ints | exact one_intss | exact one_own rfl True.intro); (first | exact one_val rfl rfl | exact one_ints | exact one_intss | exact one_own rfl True.intro))
  | (apply w_bs0; iterate 1 exact rfl)
  | (apply w_appn; exact rfl; exact rfl; (first | exact .ints _ | exact .sli rfl | exact .orow rfl | exact .nil | exact .osub rfl (by simp; omega)); exact rfl)
  | (apply w_app; exact rfl; exact rfl; exact rfl; exact rfl; (first | exact .ints _ | exact .sli rfl | exact .orow rfl | exact .nil | exact .osub rfl (by simp; omega)); rotate_left 1; simp only [Env.mp, List.map_cons, List.map_nil, List.set_cons_zero, List.set_cons_succ, AV.kill, AV.kill1, AO.kill, AV.noRow, AV.noRow1, AO.via, reduceIte, Nat.reduceEqDiff, Nat.reduceLT, Env.up, Nat.zero_ne_one, Nat.one_ne_zero, Nat.reduceAdd, List.cons_append, List.nil_append]; rotate_left 1)
  | (apply w_alst; iterate 2 exact rfl)
  | (apply w_alone; iterate 3 exact rfl)
  | (apply w_mki; exact rfl; exact rfl; rotate_left 3; exact rfl; rotate_left 1)
  | (apply w_sti; exact rfl; exact rfl; rotate_left 1; exact rfl; rotate_left 2)
  | (apply w_stst; iterate 5 exact rfl)
  | (apply w_stbv; iterate 6 exact rfl)
  | (apply w_stbo; exact rfl; exact rfl; exact rfl; exact rfl; exact rfl; exact True.intro)
  | ((apply AOps.splitB; exact rfl; exact rfl) <;> intro h)
  | apply AllOf.nil
  | (apply AllOf.cons; exact rfl)
  | (apply AAny.take; exact rfl; exact rfl; kernel_rfl; kernel_rfl)
  | (apply AAny.all; exact rfl)
  | (apply AAny.done; exact rfl)
  | (apply inI_of <;> omega)
  | omega
  | (simp <;> omega))
      exact ⟨_, _, _, .a2 Try.results50 rfl rfl, .tup2 (.sli rfl), rfl, rfl⟩
end Go.Proofs.Ytdkociacaagcoaa
/-
  A literal slice of one row, as an own slice of rows. No condition.
-/
namespace Go.Proofs.Ytdkociacaagcoaa
open Go Go.RowKit
section
variable {P : Program} {env : Env} {os : List AO} {d : Option Tmp} {ty : TypeId} {pos : String} {af : Array Edge} {g : Option (Nat × Bool)}

end
section
variable {P : Program} {env : Env} {os : List AO} {d : Tmp} {ty : TypeId} {pos : String} {af : Array Edge} {l rest : List Oper} {K : APost}
end
section
variable {P : Program} {N : APost} {X : Nat → APost} {Rt : APost} {env : Env} {os : List AO}
/-- A loop whose rounds may number the objects anew. -/
theorem AWp.loopS {c : Code} {ι : Type} (E : ι → Env) (O : ι → List AO) (φ : ι → Prop) (μ : ι → Nat) (x0 : ι) (h0 : φ x0) (f0 : Fit env os (E x0) (O x0))
    (round : ∀ x, φ x → AWp P c (fun env' os' => ∃ y, φ y ∧ μ y < μ x ∧ (Fit env' os' (E y) (O y) ∨ ∃ σ, FitS σ env' os' (E y) (O y))) X Rt (E x) (O x)) : AWp P (.loop c) N X Rt env os := by
  intro base w0 w gs tm hr hb
  obtain ⟨gs0, hr0⟩ := hr.fit f0
  refine wp_loop_ghost (fun n a w' => ∃ x gs', φ x ∧ μ x = n ∧ Rel base w' gs' (E x) (O x) a.tmps ∧ a.defers = [] ∧ Below base w0 w') (μ x0) ⟨x0, gs0, h0, rfl, hr0, rfl, hb⟩ ?_
  rintro n a w1 ⟨x, gs1, hφ, rfl, hr1, hd, hb1⟩
  have ea : a = ⟨a.tmps, []⟩ := by cases a; simp_all
  rw [ea]
  refine wp_mono (round x hφ base w0 w1 gs1 a.tmps hr1 hb1) ?_
  intro e a' w' hq
  cases e with
  | normal =>
    obtain ⟨env', os', gs', r1, r2, r3, y, hy, hlt, hf⟩ := hq
    rcases hf with hf | ⟨σ, hf⟩
    · obtain ⟨gs2, hr2⟩ := r1.fit hf
      exact ⟨μ y, hlt, y, gs2, hy, rfl, hr2, r2, r3⟩
    · obtain ⟨gs2, hr2⟩ := r1.fits hf
      exact ⟨μ y, hlt, y, gs2, hy, rfl, hr2, r2, r3⟩
  | exit j => exact hq
  | ret => exact hq
  | goto l => exact hq
  | panic ch => exact hq
  | outgrown => exact hq
end

end Go.Proofs.Ytdkociacaagcoaa
/-
  The cyclotomic polynomial in the reference, whole. No condition but bounds.
-/
namespace Go.Proofs.Ytdkociacaagcoaa
open Go Go.RowKit
open Cy (prm gpf Upto mob tot Phi Ser Pol)
attribute [local irreducible] AWp AOps ResIs Ret1 QOp LOp COp AFnV AFn Imms LeE LeO
set_option maxHeartbeats 1000000
set_option linter.unusedSimpArgs false
set_option linter.unusedVariables false

/-- The reference's state: m is done, n is left. -/
structure RcI (n0 n m p : Nat) : Prop where
  pr : m * n = n0
  n1 : 1 ≤ n
  m1 : 1 ≤ m
  p2 : 2 ≤ p
  lo : ∀ q, prm q → q ∣ n → p ≤ q
/-- The first time or not. -/
def Fst (b : Bool) (m p : Nat) : Prop := if b = true then ∀ q, prm q → q ∣ m → q < p else p ∣ m ∧ Upto p m
theorem phi_step {m p : Nat} (hp : prm p) (m1 : 1 ≤ m) (hu : Upto p m) :
    (p ∣ m → sprI (phiW m) p (tot m + 1) = phiW (m * p)) ∧ (¬ p ∣ m → Cy.mul (Phi (m * p)) (Phi m) = Cy.sub p (Phi m) ∧ tot (m * p) = tot m * p - tot m ∧ Pol (tot (m * p)) (Phi (m * p))) := by
  have hp2 := hp.1
  obtain ⟨e1, _⟩ := Cy.e_of hp m1 hu (Cy.ok m m1)
  have ht := Cy.tot_mul hp m1 hu
  constructor
  · intro h
    rw [if_pos h, Cy.mul_one] at e1
    rw [if_pos h] at ht
    unfold phiW
    rw [sprI_all _ (by omega), e1, ht, Nat.mul_comm p]
  · intro h
    rw [if_neg h] at e1 ht
    refine ⟨e1, ?_, (Cy.phi_deg (m * p) (Nat.mul_pos m1 (by omega))).1⟩
    rw [ht, Nat.sub_mul, Nat.one_mul, Nat.mul_comm]

set_option maxHeartbeats 16000000 in
theorem l02Cyclotomic_c (n0 : Nat) (h1 : 1 ≤ n0) (h2 : n0 ≤ 1000000) : AFn Try.prog 31 [.i n0] (IsInts 2 (phiW n0)) := by
  have hone : [(-1 : Int), 1] = phiW 1 := phiW_one.symm
  (refine AFn.start Try.func31 Try.ntmps31 rfl (by kernel_rfl) fun hk => ?_; simp only [Env.start, enumF, List.length_cons, List.length_nil, Nat.reduceAdd, Nat.reduceSub, List.cons_append, List.nil_append])
  repeat' (first
  | (apply AOps.nil; try simp only [List.nil_append, List.cons_append, List.set_cons_zero, List.set_cons_succ, List.length_cons, List.length_nil, Nat.reduceAdd, AV.sh, AV.sh1, AV.sh0, AO.sh, List.map_cons, List.map_nil, Nat.zero_add, Nat.add_zero, setAll])
  | ((apply AOps.splitP; exact rfl; exact rfl) <;> intro h)
  | ((apply AOps.splitN; exact rfl; exact rfl) <;> intro h)
  | (apply w_move; exact rfl; exact rfl)
  | (apply w_assign; exact rfl; exact rfl)
  | apply AWp.seq
  | apply AWp.region
  | ((apply AWp.condP; exact rfl) <;> intro h)
  | ((apply AWp.condN; exact rfl) <;> intro h)
  | (apply AWp.condT; exact rfl)
  | (apply AWp.condF; exact rfl)
  | ((apply AWp.condB; exact rfl) <;> intro h)
  | apply AWp.block
  | apply AWp.ret
  | apply AWp.exit
  | apply AWp.skip
  | (apply if_pos'; exact rfl)
  | (apply if_neg'; decide)
  | (apply w_skip; exact rfl)
  | (apply w_pickT; exact rfl; exact rfl; exact rfl)
  | (apply w_pickF; exact rfl; exact rfl; exact rfl)
  | (apply w_len; exact rfl; exact rfl; first | exact .ints _ | exact .intss _ | exact .sli rfl | exact .sls rfl | exact .slr rfl | exact .orow rfl | exact .nil)
  | omega
  | ((first | apply w_lss | apply w_leq | apply w_gtr | apply w_geq | apply w_eql | apply w_neq | apply w_add | apply w_sub | apply w_mul | apply w_idx | apply w_ld | apply w_fld | apply w_fa | apply w_extv | apply w_min | apply w_max | apply w_slhi | apply w_sllo | apply w_bs2); iterate 3 exact rfl)
  | ((first | apply w_eqlb | apply w_neqb | apply w_idxs | apply w_lds | apply w_ext); iterate 3 exact rfl)
  | (apply w_rem; exact rfl; exact rfl; exact rfl; (focus (omega; done)); (focus (omega; done)))
  | (apply w_quo; exact rfl; exact rfl; exact rfl; (focus (omega; done)); (focus (omega; done)))
  | (apply w_remT; exact rfl; exact rfl; exact rfl)
  | (apply w_quoT; exact rfl; exact rfl; exact rfl)
  | ((first | apply w_not | apply w_neg | apply w_conv | apply w_build0 | apply w_bs1 | apply w_boxa); iterate 2 exact rfl)
  | (apply w_idxo; exact rfl; exact rfl; (first | exact .sli rfl | exact .sls rfl | exact .slr rfl); exact rfl)
  | ((first | apply w_idxr | apply w_ldr); iterate 4 exact rfl)
  | (apply w_ldo; iterate 4 exact rfl)
  | (apply w_ldls; iterate 4 exact rfl)
  | (apply w_ldrp; iterate 4 exact rfl)
  | (apply w_ldb; iterate 5 exact rfl)
  | (apply w_ldst; iterate 5 exact rfl)
  | ((first | apply w_sllh | apply w_stbi); iterate 4 exact rfl)
  | ((first | apply w_oslo | apply w_oshi | apply w_stbii); iterate 4 exact rfl)
  | (apply w_build1; exact rfl; exact rfl; (first | exact one_val rfl rfl | exact one_ints | exact one_intss | exact one_own rfl True.intro))
  | (apply w_build2; exact rfl; exact rfl; exact rfl; (first | exact one_val rfl rfl | exact one_ints | exact one_intss | exact one_own rfl True.intro); (first | exact one_val rfl rfl | exact one_ints | exact one_intss | exact one_own rfl True.intro))
  | (apply w_bs0; iterate 1 exact rfl)
  | (apply w_appn; exact rfl; exact rfl; (first | exact .ints _ | exact .sli rfl | exact .orow rfl | exact .nil | exact .osub rfl (by simp; omega)); exact rfl)
  | (apply w_app; exact rfl; exact rfl; exact rfl; exact rfl; (first | exact .ints _ | exact .sli rfl | exact .orow rfl | exact .nil | exact .osub rfl (by simp; omega)); rotate_left 1; simp only [Env.mp, List.map_cons, List.map_nil, List.set_cons_zero, List.set_cons_succ, AV.kill, AV.kill1, AO.kill, AV.noRow, AV.noRow1, AO.via, reduceIte, Nat.reduceEqDiff, Nat.reduceLT, Env.up, Nat.zero_ne_one, Nat.one_ne_zero, Nat.reduceAdd, List.cons_append, List.nil_append]; rotate_left 1)
  | (apply w_alst; iterate 2 exact rfl)
  | (apply w_alone; iterate 3 exact rfl)
  | (apply w_mki; exact rfl; exact rfl; rotate_left 3; exact rfl; rotate_left 1)
  | (apply w_sti; exact rfl; exact rfl; rotate_left 1; exact rfl; rotate_left 2)
  | (apply w_stst; iterate 5 exact rfl)
  | (apply w_stbv; iterate 6 exact rfl)
  | (apply w_stbo; exact rfl; exact rfl; exact rfl; exact rfl; exact rfl; exact True.intro)
  | ((apply AOps.splitB; exact rfl; exact rfl) <;> intro h)
  | apply AllOf.nil
  | (apply AllOf.cons; exact rfl)
  | (apply AAny.take; exact rfl; exact rfl; kernel_rfl; kernel_rfl)
  | (apply AAny.all; exact rfl)
  | (apply AAny.done; exact rfl)
  | (apply inI_of <;> omega)
  | omega
  | (simp <;> omega))
  refine AWp.loop (ι := Nat × Nat × Nat) (fun s => ⟨31, [(0, .i s.1), (3, .own 0), (4, .i s.2.2)]⟩) (fun s => [.sli 2 (phiW s.2.1)]) (fun s => RcI n0 s.1 s.2.1 s.2.2 ∧ ∀ q, prm q → q ∣ s.2.1 → q < s.2.2) (fun s => s.1 + 1 - s.2.2) (n0, 1, 2) ⟨⟨by simp, h1, by simp, by simp, fun q hq _ => hq.1⟩, fun q hq hd => by have := Nat.le_of_dvd (by simp) hd; have := hq.1; simp only at *; omega⟩ ⟨lee rfl (by (repeat (first | exact le_nil | refine le_eq rfl rfl ?_ | refine le_eq rfl (congrArg AV.i (by omega)) ?_ | refine le_eq rfl (congrArg AV.i (hone)) ?_))), by (repeat (first | exact lo_nil | refine lo_dead ?_ | refine lo_eq rfl ?_ | refine lo_eq (congrArg (AO.sli _) (hone)) ?_ | refine lo_eq (congrArg (AO.sls _ _) (hone)) ?_)), rfl, rfl⟩ ?_
  rintro ⟨n, m, p⟩ ⟨hI, hlt⟩
  simp only at hI hlt
  have hn1 := hI.n1
  have hm1 := hI.m1
  have hp2 := hI.p2
  have hnn : n ≤ n0 := by rw [← hI.pr]; exact Nat.le_mul_of_pos_left _ hm1
  by_cases hn : 1 < n
  · have hpn : p ≤ n := by
      obtain ⟨q, hq, hd⟩ := Cy.prm_ex n hn
      have := hI.lo q hq hd
      have := Nat.le_of_dvd (by omega) hd
      omega
    repeat' (first
  | (apply AOps.nil; try simp only [List.nil_append, List.cons_append, List.set_cons_zero, List.set_cons_succ, List.length_cons, List.length_nil, Nat.reduceAdd, AV.sh, AV.sh1, AV.sh0, AO.sh, List.map_cons, List.map_nil, Nat.zero_add, Nat.add_zero, setAll])
  | ((apply AOps.splitP; exact rfl; exact rfl) <;> intro h)
  | ((apply AOps.splitN; exact rfl; exact rfl) <;> intro h)
  | (apply w_move; exact rfl; exact rfl)
  | (apply w_assign; exact rfl; exact rfl)
  | apply AWp.seq
  | apply AWp.region
  | ((apply AWp.condP; exact rfl) <;> intro h)
  | ((apply AWp.condN; exact rfl) <;> intro h)
  | (apply AWp.condT; exact rfl)
  | (apply AWp.condF; exact rfl)
  | ((apply AWp.condB; exact rfl) <;> intro h)
  | apply AWp.block
  | apply AWp.ret
  | apply AWp.exit
  | apply AWp.skip
  | (apply if_pos'; exact rfl)
  | (apply if_neg'; decide)
  | (apply w_skip; exact rfl)
  | (apply w_pickT; exact rfl; exact rfl; exact rfl)
  | (apply w_pickF; exact rfl; exact rfl; exact rfl)
  | (apply w_len; exact rfl; exact rfl; first | exact .ints _ | exact .intss _ | exact .sli rfl | exact .sls rfl | exact .slr rfl | exact .orow rfl | exact .nil)
  | omega
  | ((first | apply w_lss | apply w_leq | apply w_gtr | apply w_geq | apply w_eql | apply w_neq | apply w_add | apply w_sub | apply w_mul | apply w_idx | apply w_ld | apply w_fld | apply w_fa | apply w_extv | apply w_min | apply w_max | apply w_slhi | apply w_sllo | apply w_bs2); iterate 3 exact rfl)
  | ((first | apply w_eqlb | apply w_neqb | apply w_idxs | apply w_lds | apply w_ext); iterate 3 exact rfl)
  | (apply w_rem; exact rfl; exact rfl; exact rfl; (focus (omega; done)); (focus (omega; done)))
  | (apply w_quo; exact rfl; exact rfl; exact rfl; (focus (omega; done)); (focus (omega; done)))
  | (apply w_remT; exact rfl; exact rfl; exact rfl)
  | (apply w_quoT; exact rfl; exact rfl; exact rfl)
  | ((first | apply w_not | apply w_neg | apply w_conv | apply w_build0 | apply w_bs1 | apply w_boxa); iterate 2 exact rfl)
  | (apply w_idxo; exact rfl; exact rfl; (first | exact .sli rfl | exact .sls rfl | exact .slr rfl); exact rfl)
  | ((first | apply w_idxr | apply w_ldr); iterate 4 exact rfl)
  | (apply w_ldo; iterate 4 exact rfl)
  | (apply w_ldls; iterate 4 exact rfl)
  | (apply w_ldrp; iterate 4 exact rfl)
  | (apply w_ldb; iterate 5 exact rfl)
  | (apply w_ldst; iterate 5 exact rfl)
  | ((first | apply w_sllh | apply w_stbi); iterate 4 exact rfl)
  | ((first | apply w_oslo | apply w_oshi | apply w_stbii); iterate 4 exact rfl)
  | (apply w_build1; exact rfl; exact rfl; (first | exact one_val rfl rfl | exact one_ints | exact one_intss | exact one_own rfl True.intro))
  | (apply w_build2; exact rfl; exact rfl; exact rfl; (first | exact one_val rfl rfl | exact one_ints | exact one_intss | exact one_own rfl True.intro); (first | exact one_val rfl rfl | exact one_ints | exact one_intss | exact one_own rfl True.intro))
  | (apply w_bs0; iterate 1 exact rfl)
  | (apply w_appn; exact rfl; exact rfl; (first | exact .ints _ | exact .sli rfl | exact .orow rfl | exact .nil | exact .osub rfl (by simp; omega)); exact rfl)
  | (apply w_app; exact rfl; exact rfl; exact rfl; exact rfl; (first | exact .ints _ | exact .sli rfl | exact .orow rfl | exact .nil | exact .osub rfl (by simp; omega)); rotate_left 1; simp only [Env.mp, List.map_cons, List.map_nil, List.set_cons_zero, List.set_cons_succ, AV.kill, AV.kill1, AO.kill, AV.noRow, AV.noRow1, AO.via, reduceIte, Nat.reduceEqDiff, Nat.reduceLT, Env.up, Nat.zero_ne_one, Nat.one_ne_zero, Nat.reduceAdd, List.cons_append, List.nil_append]; rotate_left 1)
  | (apply w_alst; iterate 2 exact rfl)
  | (apply w_alone; iterate 3 exact rfl)
  | (apply w_mki; exact rfl; exact rfl; rotate_left 3; exact rfl; rotate_left 1)
  | (apply w_sti; exact rfl; exact rfl; rotate_left 1; exact rfl; rotate_left 2)
  | (apply w_stst; iterate 5 exact rfl)
  | (apply w_stbv; iterate 6 exact rfl)
  | (apply w_stbo; exact rfl; exact rfl; exact rfl; exact rfl; exact rfl; exact True.intro)
  | ((apply AOps.splitB; exact rfl; exact rfl) <;> intro h)
  | apply AllOf.nil
  | (apply AllOf.cons; exact rfl)
  | (apply AAny.take; exact rfl; exact rfl; kernel_rfl; kernel_rfl)
  | (apply AAny.all; exact rfl)
  | (apply AAny.done; exact rfl)
  | (apply inI_of <;> omega)
  | omega
  | (simp <;> omega))
    refine AWp.loopS (ι := Nat × Nat × Bool) (fun s => ⟨31, [(0, .i s.1), (3, .own 0), (4, .i p), (5, .b s.2.2)]⟩) (fun s => [.sli 2 (phiW s.2.1)]) (fun s => RcI n0 s.1 s.2.1 p ∧ Fst s.2.2 s.2.1 p ∧ s.1 ≤ n) (fun s => s.1) (n, m, true) ⟨hI, by unfold Fst; rw [if_pos rfl]; exact hlt, Nat.le_refl _⟩ ⟨lee rfl (by (repeat (first | exact le_nil | refine le_eq rfl rfl ?_ | refine le_eq rfl (congrArg AV.i (by omega)) ?_))), by (repeat (first | exact lo_nil | refine lo_dead ?_ | refine lo_eq rfl ?_)), rfl, rfl⟩ ?_
    rintro ⟨n', m', b⟩ ⟨hI', hF, hle⟩
    simp only at hI' hF hle
    have hn1' := hI'.n1
    have hm1' := hI'.m1
    have hc1 : ((n' % p : Nat) : Int) = (n' : Int) % (p : Int) := Int.natCast_emod n' p
    have hc2 : ((n' / p : Nat) : Int) = (n' : Int) / (p : Int) := Int.natCast_ediv n' p
    have hlt' : n' / p < n' := Nat.div_lt_self (by omega) (by omega)
    have hq0 : 0 ≤ (n' : Int) / (p : Int) ∧ (n' : Int) / (p : Int) ≤ n' := ⟨Int.ediv_nonneg (by omega) (by omega), Int.ediv_le_self _ (by omega)⟩
    by_cases hd : n' % p = 0
    · have hdv := Nat.dvd_of_mod_eq_zero hd
      have hp : prm p := least_prm hp2 hI'.lo hdv
      have hu : Upto p m' := by
        unfold Fst at hF
        split at hF
        · exact fun q hq hqd => by have := hF q hq hqd; omega
        · exact hF.2
      have hq1 : 1 ≤ n' / p := Nat.div_pos (Nat.le_of_dvd (by omega) hdv) (by omega)
      have hnp : n' / p * p = n' := Nat.div_mul_cancel hdv
      have tp := tot_pos (n := m') (by omega)
      have hmp : m' * p ≤ n0 := by
        rw [← hI'.pr, ← hnp, Nat.mul_comm (n' / p), ← Nat.mul_assoc]
        exact Nat.le_mul_of_pos_right _ hq1
      have htp : tot m' * p ≤ 1000000 := by have := Nat.mul_le_mul_right p tp.2; omega
      have hmle : m' ≤ 1000000 := by have := Nat.le_mul_of_pos_right m' (show 0 < p by omega); omega
      have lW : (phiW m').length = tot m' + 1 := tab_len _ _
      have hsp := l02Spread_c (phiW m') p (by omega) (by omega) (by rw [lW, Nat.add_sub_cancel]; omega) (by omega) (by omega) (fun x hx => by
        unfold phiW tab at hx
        obtain ⟨c, _, rfl⟩ := List.mem_map.1 hx
        exact wr_in _)
      rw [lW] at hsp
      have hIn : RcI n0 (n' / p) (m' * p) p := ⟨by rw [← hI'.pr, Nat.mul_assoc, Nat.mul_comm p, hnp], hq1, Nat.mul_pos hm1' (by omega), hp2, fun q hq hqd => hI'.lo q hq (Nat.dvd_trans hqd ⟨p, hnp.symm⟩)⟩
      have hFn : Fst false (m' * p) p := by
        unfold Fst
        rw [if_neg (by simp)]
        exact ⟨⟨m', Nat.mul_comm _ _⟩, fun q hq hqd => by
          rcases Cy.prm_mul hq hqd with k | k
          · exact hu q hq k
          · have := Cy.prm_dvd hq hp k; omega⟩
      obtain ⟨st1, st2⟩ := phi_step hp hm1' hu
      cases b with
      | true =>
        have hnd : ¬ p ∣ m' := fun h => by
          unfold Fst at hF
          rw [if_pos rfl] at hF
          have := hF p hp h
          omega
        obtain ⟨u1, u2, u3⟩ := st2 hnd
        rw [u2] at u3
        have hge : tot m' ≤ tot m' * p := Nat.le_mul_of_pos_right _ (by omega)
        have hph := Cy.phi_deg m' hm1'
        have hqt := l02Quotient_c (Phi (m' * p)) (Phi m') (Cy.sub p (Phi m')) (tot m' * p) (tot m') u1 hph.1 hph.2.1 u3 hge htp
        have hspr : sprI (phiW m') p (tot m' + 1) = tab (tot m' * p + 1) fun c => wr (Cy.sub p (Phi m') c) := by unfold phiW; exact sprI_all _ (by omega)
        rw [hspr] at hsp
        have hphW : phiW m' = tab (tot m' + 1) fun c => wr (Phi m' c) := rfl
        rw [← hphW] at hqt
        have hres : tab (tot m' * p - tot m' + 1) (fun c => wr (Phi (m' * p) c)) = phiW (m' * p) := by unfold phiW; rw [u2]
        rw [hres] at hqt
        repeat' (first
  | (apply AOps.nil; try simp only [List.nil_append, List.cons_append, List.set_cons_zero, List.set_cons_succ, List.length_cons, List.length_nil, Nat.reduceAdd, AV.sh, AV.sh1, AV.sh0, AO.sh, List.map_cons, List.map_nil, Nat.zero_add, Nat.add_zero, setAll])
  | ((apply AOps.splitP; exact rfl; exact rfl) <;> intro h)
  | ((apply AOps.splitN; exact rfl; exact rfl) <;> intro h)
  | (apply w_move; exact rfl; exact rfl)
  | (apply w_assign; exact rfl; exact rfl)
  | apply AWp.seq
  | apply AWp.region
  | ((apply AWp.condP; exact rfl) <;> intro h)
  | ((apply AWp.condN; exact rfl) <;> intro h)
  | (apply AWp.condT; exact rfl)
  | (apply AWp.condF; exact rfl)
  | ((apply AWp.condB; exact rfl) <;> intro h)
  | apply AWp.block
  | apply AWp.ret
  | apply AWp.exit
  | apply AWp.skip
  | (apply if_pos'; exact rfl)
  | (apply if_neg'; decide)
  | (apply w_skip; exact rfl)
  | (apply w_pickT; exact rfl; exact rfl; exact rfl)
  | (apply w_pickF; exact rfl; exact rfl; exact rfl)
  | (apply w_len; exact rfl; exact rfl; first | exact .ints _ | exact .intss _ | exact .sli rfl | exact .sls rfl | exact .slr rfl | exact .orow rfl | exact .nil)
  | (apply w_callm (hsp); (focus ((repeat (first | exact im_nil | refine im_cons rfl (.val _) ?_ | refine im_cons rfl (.ints _) ?_ | refine im_cons rfl (.intss _) ?_ | refine im_cons rfl (.sli rfl) ?_ | refine im_cons rfl (.sls rfl) ?_ | refine im_cons rfl (.orow rfl) ?_ | refine im_cons rfl (.osub rfl (by simp; omega)) ?_ | refine im_cons rfl (.nil) ?_ | refine im_cons rfl (.nils) ?_ | refine im_cons rfl (im_agg2 (.val _) (.ints _)) ?_ | refine im_cons rfl (im_agg2 (.val _) (.sli rfl)) ?_ | refine im_cons rfl (im_agg2 (.val _) (.nil)) ?_ | refine im_cons rfl (im_agg2 (.ints _) (.intss _)) ?_ | refine im_cons rfl (im_agg2 (.ints _) (.sls rfl)) ?_ | refine im_cons rfl (im_agg2 (.sli rfl) (.intss _)) ?_ | refine im_cons rfl (im_agg2 (.sli rfl) (.sls rfl)) ?_ | refine im_cons rfl (im_agg1 (.ints _)) ?_ | refine im_cons rfl (im_agg1 (.sli rfl)) ?_ | refine im_cons rfl (im_agg1 (.intss _)) ?_ | refine im_cons rfl (im_agg1 (.sls rfl)) ?_ | refine im_cons rfl (im_agg1 (.nil)) ?_ | refine im_cons rfl (im_agg1 (.nils)) ?_)); done)); rintro r os0 ⟨rfl, rfl⟩; try simp only [List.nil_append, List.cons_append, List.set_cons_zero, List.set_cons_succ, List.length_cons, List.length_nil, Nat.reduceAdd, AV.sh, AV.sh1, AV.sh0, AO.sh, List.map_cons, List.map_nil, Nat.zero_add, Nat.add_zero, setAll])
  | (apply w_callm (hqt); (focus ((repeat (first | exact im_nil | refine im_cons rfl (.val _) ?_ | refine im_cons rfl (.ints _) ?_ | refine im_cons rfl (.intss _) ?_ | refine im_cons rfl (.sli rfl) ?_ | refine im_cons rfl (.sls rfl) ?_ | refine im_cons rfl (.orow rfl) ?_ | refine im_cons rfl (.osub rfl (by simp; omega)) ?_ | refine im_cons rfl (.nil) ?_ | refine im_cons rfl (.nils) ?_ | refine im_cons rfl (im_agg2 (.val _) (.ints _)) ?_ | refine im_cons rfl (im_agg2 (.val _) (.sli rfl)) ?_ | refine im_cons rfl (im_agg2 (.val _) (.nil)) ?_ | refine im_cons rfl (im_agg2 (.ints _) (.intss _)) ?_ | refine im_cons rfl (im_agg2 (.ints _) (.sls rfl)) ?_ | refine im_cons rfl (im_agg2 (.sli rfl) (.intss _)) ?_ | refine im_cons rfl (im_agg2 (.sli rfl) (.sls rfl)) ?_ | refine im_cons rfl (im_agg1 (.ints _)) ?_ | refine im_cons rfl (im_agg1 (.sli rfl)) ?_ | refine im_cons rfl (im_agg1 (.intss _)) ?_ | refine im_cons rfl (im_agg1 (.sls rfl)) ?_ | refine im_cons rfl (im_agg1 (.nil)) ?_ | refine im_cons rfl (im_agg1 (.nils)) ?_)); done)); rintro r os0 ⟨rfl, rfl⟩; try simp only [List.nil_append, List.cons_append, List.set_cons_zero, List.set_cons_succ, List.length_cons, List.length_nil, Nat.reduceAdd, AV.sh, AV.sh1, AV.sh0, AO.sh, List.map_cons, List.map_nil, Nat.zero_add, Nat.add_zero, setAll])
  | omega
  | ((first | apply w_lss | apply w_leq | apply w_gtr | apply w_geq | apply w_eql | apply w_neq | apply w_add | apply w_sub | apply w_mul | apply w_idx | apply w_ld | apply w_fld | apply w_fa | apply w_extv | apply w_min | apply w_max | apply w_slhi | apply w_sllo | apply w_bs2); iterate 3 exact rfl)
  | ((first | apply w_eqlb | apply w_neqb | apply w_idxs | apply w_lds | apply w_ext); iterate 3 exact rfl)
  | (apply w_rem; exact rfl; exact rfl; exact rfl; (focus (omega; done)); (focus (omega; done)))
  | (apply w_quo; exact rfl; exact rfl; exact rfl; (focus (omega; done)); (focus (omega; done)))
  | (apply w_remT; exact rfl; exact rfl; exact rfl)
  | (apply w_quoT; exact rfl; exact rfl; exact rfl)
  | ((first | apply w_not | apply w_neg | apply w_conv | apply w_build0 | apply w_bs1 | apply w_boxa); iterate 2 exact rfl)
  | (apply w_idxo; exact rfl; exact rfl; (first | exact .sli rfl | exact .sls rfl | exact .slr rfl); exact rfl)
  | ((first | apply w_idxr | apply w_ldr); iterate 4 exact rfl)
  | (apply w_ldo; iterate 4 exact rfl)
  | (apply w_ldls; iterate 4 exact rfl)
  | (apply w_ldrp; iterate 4 exact rfl)
  | (apply w_ldb; iterate 5 exact rfl)
  | (apply w_ldst; iterate 5 exact rfl)
  | ((first | apply w_sllh | apply w_stbi); iterate 4 exact rfl)
  | ((first | apply w_oslo | apply w_oshi | apply w_stbii); iterate 4 exact rfl)
  | (apply w_build1; exact rfl; exact rfl; (first | exact one_val rfl rfl | exact one_ints | exact one_intss | exact one_own rfl True.intro))
  | (apply w_build2; exact rfl; exact rfl; exact rfl; (first | exact one_val rfl rfl | exact one_ints | exact one_intss | exact one_own rfl True.intro); (first | exact one_val rfl rfl | exact one_ints | exact one_intss | exact one_own rfl True.intro))
  | (apply w_bs0; iterate 1 exact rfl)
  | (apply w_appn; exact rfl; exact rfl; (first | exact .ints _ | exact .sli rfl | exact .orow rfl | exact .nil | exact .osub rfl (by simp; omega)); exact rfl)
  | (apply w_app; exact rfl; exact rfl; exact rfl; exact rfl; (first | exact .ints _ | exact .sli rfl | exact .orow rfl | exact .nil | exact .osub rfl (by simp; omega)); rotate_left 1; simp only [Env.mp, List.map_cons, List.map_nil, List.set_cons_zero, List.set_cons_succ, AV.kill, AV.kill1, AO.kill, AV.noRow, AV.noRow1, AO.via, reduceIte, Nat.reduceEqDiff, Nat.reduceLT, Env.up, Nat.zero_ne_one, Nat.one_ne_zero, Nat.reduceAdd, List.cons_append, List.nil_append]; rotate_left 1)
  | (apply w_alst; iterate 2 exact rfl)
  | (apply w_alone; iterate 3 exact rfl)
  | (apply w_mki; exact rfl; exact rfl; rotate_left 3; exact rfl; rotate_left 1)
  | (apply w_sti; exact rfl; exact rfl; rotate_left 1; exact rfl; rotate_left 2)
  | (apply w_stst; iterate 5 exact rfl)
  | (apply w_stbv; iterate 6 exact rfl)
  | (apply w_stbo; exact rfl; exact rfl; exact rfl; exact rfl; exact rfl; exact True.intro)
  | ((apply AOps.splitB; exact rfl; exact rfl) <;> intro h)
  | apply AllOf.nil
  | (apply AllOf.cons; exact rfl)
  | (apply AAny.take; exact rfl; exact rfl; kernel_rfl; kernel_rfl)
  | (apply AAny.all; exact rfl)
  | (apply AAny.done; exact rfl)
  | (apply inI_of <;> omega)
  | omega
  | (simp <;> omega))
        refine ⟨(n' / p, m' * p, false), ⟨hIn, hFn, by simp only; omega⟩, by simp only; omega, ?_⟩
        simp only [hc2]
        (first | (apply Or.inl; refine ⟨lee rfl ?_, ?_, rfl, rfl⟩; (focus ((repeat (first | exact le_nil | refine le_eq rfl rfl ?_ | (refine le_eq rfl (congrArg AV.i ?_) ?_; (focus (omega; done))))); done)); (focus ((repeat (first | exact lo_nil | refine lo_dead ?_ | refine lo_eq rfl ?_)); done))) | (apply Or.inr; refine ⟨[2], ⟨by decide, fun x hx => Nat.lt_of_lt_of_le ((by decide : ∀ x ∈ ([2] : List Nat), x < 3) x hx) (Nat.le_of_ble_eq_true rfl)⟩, lee rfl ?_, ?_, rfl, rfl⟩; (focus ((repeat (first | exact le_nil | refine le_eq rfl rfl ?_ | (refine le_eq rfl (congrArg AV.i ?_) ?_; (focus (omega; done))))); done)); (focus ((repeat (first | exact lo_nil | refine lo_dead ?_ | refine lo_eq rfl ?_)); done))))
      | false =>
        have hd2 : p ∣ m' := by
          unfold Fst at hF
          rw [if_neg (by simp)] at hF
          exact hF.1
        rw [st1 hd2] at hsp
        repeat' (first
  | (apply AOps.nil; try simp only [List.nil_append, List.cons_append, List.set_cons_zero, List.set_cons_succ, List.length_cons, List.length_nil, Nat.reduceAdd, AV.sh, AV.sh1, AV.sh0, AO.sh, List.map_cons, List.map_nil, Nat.zero_add, Nat.add_zero, setAll])
  | ((apply AOps.splitP; exact rfl; exact rfl) <;> intro h)
  | ((apply AOps.splitN; exact rfl; exact rfl) <;> intro h)
  | (apply w_move; exact rfl; exact rfl)
  | (apply w_assign; exact rfl; exact rfl)
  | apply AWp.seq
  | apply AWp.region
  | ((apply AWp.condP; exact rfl) <;> intro h)
  | ((apply AWp.condN; exact rfl) <;> intro h)
  | (apply AWp.condT; exact rfl)
  | (apply AWp.condF; exact rfl)
  | ((apply AWp.condB; exact rfl) <;> intro h)
  | apply AWp.block
  | apply AWp.ret
  | apply AWp.exit
  | apply AWp.skip
  | (apply if_pos'; exact rfl)
  | (apply if_neg'; decide)
  | (apply w_skip; exact rfl)
  | (apply w_pickT; exact rfl; exact rfl; exact rfl)
  | (apply w_pickF; exact rfl; exact rfl; exact rfl)
  | (apply w_len; exact rfl; exact rfl; first | exact .ints _ | exact .intss _ | exact .sli rfl | exact .sls rfl | exact .slr rfl | exact .orow rfl | exact .nil)
  | (apply w_callm (hsp); (focus ((repeat (first | exact im_nil | refine im_cons rfl (.val _) ?_ | refine im_cons rfl (.ints _) ?_ | refine im_cons rfl (.intss _) ?_ | refine im_cons rfl (.sli rfl) ?_ | refine im_cons rfl (.sls rfl) ?_ | refine im_cons rfl (.orow rfl) ?_ | refine im_cons rfl (.osub rfl (by simp; omega)) ?_ | refine im_cons rfl (.nil) ?_ | refine im_cons rfl (.nils) ?_ | refine im_cons rfl (im_agg2 (.val _) (.ints _)) ?_ | refine im_cons rfl (im_agg2 (.val _) (.sli rfl)) ?_ | refine im_cons rfl (im_agg2 (.val _) (.nil)) ?_ | refine im_cons rfl (im_agg2 (.ints _) (.intss _)) ?_ | refine im_cons rfl (im_agg2 (.ints _) (.sls rfl)) ?_ | refine im_cons rfl (im_agg2 (.sli rfl) (.intss _)) ?_ | refine im_cons rfl (im_agg2 (.sli rfl) (.sls rfl)) ?_ | refine im_cons rfl (im_agg1 (.ints _)) ?_ | refine im_cons rfl (im_agg1 (.sli rfl)) ?_ | refine im_cons rfl (im_agg1 (.intss _)) ?_ | refine im_cons rfl (im_agg1 (.sls rfl)) ?_ | refine im_cons rfl (im_agg1 (.nil)) ?_ | refine im_cons rfl (im_agg1 (.nils)) ?_)); done)); rintro r os0 ⟨rfl, rfl⟩; try simp only [List.nil_append, List.cons_append, List.set_cons_zero, List.set_cons_succ, List.length_cons, List.length_nil, Nat.reduceAdd, AV.sh, AV.sh1, AV.sh0, AO.sh, List.map_cons, List.map_nil, Nat.zero_add, Nat.add_zero, setAll])
  | omega
  | ((first | apply w_lss | apply w_leq | apply w_gtr | apply w_geq | apply w_eql | apply w_neq | apply w_add | apply w_sub | apply w_mul | apply w_idx | apply w_ld | apply w_fld | apply w_fa | apply w_extv | apply w_min | apply w_max | apply w_slhi | apply w_sllo | apply w_bs2); iterate 3 exact rfl)
  | ((first | apply w_eqlb | apply w_neqb | apply w_idxs | apply w_lds | apply w_ext); iterate 3 exact rfl)
  | (apply w_rem; exact rfl; exact rfl; exact rfl; (focus (omega; done)); (focus (omega; done)))
  | (apply w_quo; exact rfl; exact rfl; exact rfl; (focus (omega; done)); (focus (omega; done)))
  | (apply w_remT; exact rfl; exact rfl; exact rfl)
  | (apply w_quoT; exact rfl; exact rfl; exact rfl)
  | ((first | apply w_not | apply w_neg | apply w_conv | apply w_build0 | apply w_bs1 | apply w_boxa); iterate 2 exact rfl)
  | (apply w_idxo; exact rfl; exact rfl; (first | exact .sli rfl | exact .sls rfl | exact .slr rfl); exact rfl)
  | ((first | apply w_idxr | apply w_ldr); iterate 4 exact rfl)
  | (apply w_ldo; iterate 4 exact rfl)
  | (apply w_ldls; iterate 4 exact rfl)
  | (apply w_ldrp; iterate 4 exact rfl)
  | (apply w_ldb; iterate 5 exact rfl)
  | (apply w_ldst; iterate 5 exact rfl)
  | ((first | apply w_sllh | apply w_stbi); iterate 4 exact rfl)
  | ((first | apply w_oslo | apply w_oshi | apply w_stbii); iterate 4 exact rfl)
  | (apply w_build1; exact rfl; exact rfl; (first | exact one_val rfl rfl | exact one_ints | exact one_intss | exact one_own rfl True.intro))
  | (apply w_build2; exact rfl; exact rfl; exact rfl; (first | exact one_val rfl rfl | exact one_ints | exact one_intss | exact one_own rfl True.intro); (first | exact one_val rfl rfl | exact one_ints | exact one_intss | exact one_own rfl True.intro))
  | (apply w_bs0; iterate 1 exact rfl)
  | (apply w_appn; exact rfl; exact rfl; (first | exact .ints _ | exact .sli rfl | exact .orow rfl | exact .nil | exact .osub rfl (by simp; omega)); exact rfl)
  | (apply w_app; exact rfl; exact rfl; exact rfl; exact rfl; (first | exact .ints _ | exact .sli rfl | exact .orow rfl | exact .nil | exact .osub rfl (by simp; omega)); rotate_left 1; simp only [Env.mp, List.map_cons, List.map_nil, List.set_cons_zero, List.set_cons_succ, AV.kill, AV.kill1, AO.kill, AV.noRow, AV.noRow1, AO.via, reduceIte, Nat.reduceEqDiff, Nat.reduceLT, Env.up, Nat.zero_ne_one, Nat.one_ne_zero, Nat.reduceAdd, List.cons_append, List.nil_append]; rotate_left 1)
  | (apply w_alst; iterate 2 exact rfl)
  | (apply w_alone; iterate 3 exact rfl)
  | (apply w_mki; exact rfl; exact rfl; rotate_left 3; exact rfl; rotate_left 1)
  | (apply w_sti; exact rfl; exact rfl; rotate_left 1; exact rfl; rotate_left 2)
  | (apply w_stst; iterate 5 exact rfl)
  | (apply w_stbv; iterate 6 exact rfl)
  | (apply w_stbo; exact rfl; exact rfl; exact rfl; exact rfl; exact rfl; exact True.intro)
  | ((apply AOps.splitB; exact rfl; exact rfl) <;> intro h)
  | apply AllOf.nil
  | (apply AllOf.cons; exact rfl)
  | (apply AAny.take; exact rfl; exact rfl; kernel_rfl; kernel_rfl)
  | (apply AAny.all; exact rfl)
  | (apply AAny.done; exact rfl)
  | (apply inI_of <;> omega)
  | omega
  | (simp <;> omega))
        refine ⟨(n' / p, m' * p, false), ⟨hIn, hFn, by simp only; omega⟩, by simp only; omega, ?_⟩
        simp only [hc2]
        (first | (apply Or.inl; refine ⟨lee rfl ?_, ?_, rfl, rfl⟩; (focus ((repeat (first | exact le_nil | refine le_eq rfl rfl ?_ | (refine le_eq rfl (congrArg AV.i ?_) ?_; (focus (omega; done))))); done)); (focus ((repeat (first | exact lo_nil | refine lo_dead ?_ | refine lo_eq rfl ?_)); done))) | (apply Or.inr; refine ⟨[1], ⟨by decide, fun x hx => Nat.lt_of_lt_of_le ((by decide : ∀ x ∈ ([1] : List Nat), x < 2) x hx) (Nat.le_of_ble_eq_true rfl)⟩, lee rfl ?_, ?_, rfl, rfl⟩; (focus ((repeat (first | exact le_nil | refine le_eq rfl rfl ?_ | (refine le_eq rfl (congrArg AV.i ?_) ?_; (focus (omega; done))))); done)); (focus ((repeat (first | exact lo_nil | refine lo_dead ?_ | refine lo_eq rfl ?_)); done))))
    · have hIx : RcI n0 n' m' (p + 1) := ⟨hI'.pr, hn1', hm1', by omega, fun q hq hqd => by
        have := hI'.lo q hq hqd
        have : q ≠ p := fun e => hd (by subst e; exact Nat.mod_eq_zero_of_dvd hqd)
        omega⟩
      have hFx : ∀ q, prm q → q ∣ m' → q < p + 1 := fun q hq hqd => by
        unfold Fst at hF
        split at hF
        · have := hF q hq hqd; omega
        · have := hF.2 q hq hqd; omega
      repeat' (first
  | (apply AOps.nil; try simp only [List.nil_append, List.cons_append, List.set_cons_zero, List.set_cons_succ, List.length_cons, List.length_nil, Nat.reduceAdd, AV.sh, AV.sh1, AV.sh0, AO.sh, List.map_cons, List.map_nil, Nat.zero_add, Nat.add_zero, setAll])
  | ((apply AOps.splitP; exact rfl; exact rfl) <;> intro h)
  | ((apply AOps.splitN; exact rfl; exact rfl) <;> intro h)
  | (apply w_move; exact rfl; exact rfl)
  | (apply w_assign; exact rfl; exact rfl)
  | apply AWp.seq
  | apply AWp.region
  | ((apply AWp.condP; exact rfl) <;> intro h)
  | ((apply AWp.condN; exact rfl) <;> intro h)
  | (apply AWp.condT; exact rfl)
  | (apply AWp.condF; exact rfl)
  | ((apply AWp.condB; exact rfl) <;> intro h)
  | apply AWp.block
  | apply AWp.ret
  | apply AWp.exit
  | apply AWp.skip
  | (apply if_pos'; exact rfl)
  | (apply if_neg'; decide)
  | (apply w_skip; exact rfl)
  | (apply w_pickT; exact rfl; exact rfl; exact rfl)
  | (apply w_pickF; exact rfl; exact rfl; exact rfl)
  | (apply w_len; exact rfl; exact rfl; first | exact .ints _ | exact .intss _ | exact .sli rfl | exact .sls rfl | exact .slr rfl | exact .orow rfl | exact .nil)
  | omega
  | ((first | apply w_lss | apply w_leq | apply w_gtr | apply w_geq | apply w_eql | apply w_neq | apply w_add | apply w_sub | apply w_mul | apply w_idx | apply w_ld | apply w_fld | apply w_fa | apply w_extv | apply w_min | apply w_max | apply w_slhi | apply w_sllo | apply w_bs2); iterate 3 exact rfl)
  | ((first | apply w_eqlb | apply w_neqb | apply w_idxs | apply w_lds | apply w_ext); iterate 3 exact rfl)
  | (apply w_rem; exact rfl; exact rfl; exact rfl; (focus (omega; done)); (focus (omega; done)))
  | (apply w_quo; exact rfl; exact rfl; exact rfl; (focus (omega; done)); (focus (omega; done)))
  | (apply w_remT; exact rfl; exact rfl; exact rfl)
  | (apply w_quoT; exact rfl; exact rfl; exact rfl)
  | ((first | apply w_not | apply w_neg | apply w_conv | apply w_build0 | apply w_bs1 | apply w_boxa); iterate 2 exact rfl)
  | (apply w_idxo; exact rfl; exact rfl; (first | exact .sli rfl | exact .sls rfl | exact .slr rfl); exact rfl)
  | ((first | apply w_idxr | apply w_ldr); iterate 4 exact rfl)
  | (apply w_ldo; iterate 4 exact rfl)
  | (apply w_ldls; iterate 4 exact rfl)
  | (apply w_ldrp; iterate 4 exact rfl)
  | (apply w_ldb; iterate 5 exact rfl)
  | (apply w_ldst; iterate 5 exact rfl)
  | ((first | apply w_sllh | apply w_stbi); iterate 4 exact rfl)
  | ((first | apply w_oslo | apply w_oshi | apply w_stbii); iterate 4 exact rfl)
  | (apply w_build1; exact rfl; exact rfl; (first | exact one_val rfl rfl | exact one_ints | exact one_intss | exact one_own rfl True.intro))
  | (apply w_build2; exact rfl; exact rfl; exact rfl; (first | exact one_val rfl rfl | exact one_ints | exact one_intss | exact one_own rfl True.intro); (first | exact one_val rfl rfl | exact one_ints | exact one_intss | exact one_own rfl True.intro))
  | (apply w_bs0; iterate 1 exact rfl)
  | (apply w_appn; exact rfl; exact rfl; (first | exact .ints _ | exact .sli rfl | exact .orow rfl | exact .nil | exact .osub rfl (by simp; omega)); exact rfl)
  | (apply w_app; exact rfl; exact rfl; exact rfl; exact rfl; (first | exact .ints _ | exact .sli rfl | exact .orow rfl | exact .nil | exact .osub rfl (by simp; omega)); rotate_left 1; simp only [Env.mp, List.map_cons, List.map_nil, List.set_cons_zero, List.set_cons_succ, AV.kill, AV.kill1, AO.kill, AV.noRow, AV.noRow1, AO.via, reduceIte, Nat.reduceEqDiff, Nat.reduceLT, Env.up, Nat.zero_ne_one, Nat.one_ne_zero, Nat.reduceAdd, List.cons_append, List.nil_append]; rotate_left 1)
  | (apply w_alst; iterate 2 exact rfl)
  | (apply w_alone; iterate 3 exact rfl)
  | (apply w_mki; exact rfl; exact rfl; rotate_left 3; exact rfl; rotate_left 1)
  | (apply w_sti; exact rfl; exact rfl; rotate_left 1; exact rfl; rotate_left 2)
  | (apply w_stst; iterate 5 exact rfl)
  | (apply w_stbv; iterate 6 exact rfl)
  | (apply w_stbo; exact rfl; exact rfl; exact rfl; exact rfl; exact rfl; exact True.intro)
  | ((apply AOps.splitB; exact rfl; exact rfl) <;> intro h)
  | apply AllOf.nil
  | (apply AllOf.cons; exact rfl)
  | (apply AAny.take; exact rfl; exact rfl; kernel_rfl; kernel_rfl)
  | (apply AAny.all; exact rfl)
  | (apply AAny.done; exact rfl)
  | (apply inI_of <;> omega)
  | omega
  | (simp <;> omega))
      exact ⟨(n', m', p + 1), ⟨hIx, hFx⟩, by simp only; omega, ⟨lee rfl (by (repeat (first | exact le_nil | refine le_eq rfl rfl ?_ | refine le_eq rfl (congrArg AV.i (by omega)) ?_))), by (repeat (first | exact lo_nil | refine lo_dead ?_ | refine lo_eq rfl ?_)), rfl, rfl⟩⟩
  · have e : n = 1 := by omega
    subst e
    have e2 : m = n0 := by have := hI.pr; omega
    subst e2
    repeat' (first
  | (apply AOps.nil; try simp only [List.nil_append, List.cons_append, List.set_cons_zero, List.set_cons_succ, List.length_cons, List.length_nil, Nat.reduceAdd, AV.sh, AV.sh1, AV.sh0, AO.sh, List.map_cons, List.map_nil, Nat.zero_add, Nat.add_zero, setAll])
  | ((apply AOps.splitP; exact rfl; exact rfl) <;> intro h)
  | ((apply AOps.splitN; exact rfl; exact rfl) <;> intro h)
  | (apply w_move; exact rfl; exact rfl)
  | (apply w_assign; exact rfl; exact rfl)
  | apply AWp.seq
  | apply AWp.region
  | ((apply AWp.condP; exact rfl) <;> intro h)
  | ((apply AWp.condN; exact rfl) <;> intro h)
  | (apply AWp.condT; exact rfl)
  | (apply AWp.condF; exact rfl)
  | ((apply AWp.condB; exact rfl) <;> intro h)
  | apply AWp.block
  | apply AWp.ret
  | apply AWp.exit
  | apply AWp.skip
  | (apply if_pos'; exact rfl)
  | (apply if_neg'; decide)
  | (apply w_skip; exact rfl)
  | (apply w_pickT; exact rfl; exact rfl; exact rfl)
  | (apply w_pickF; exact rfl; exact rfl; exact rfl)
  | (apply w_len; exact rfl; exact rfl; first | exact .ints _ | exact .intss _ | exact .sli rfl | exact .sls rfl | exact .slr rfl | exact .orow rfl | exact .nil)
  | omega
  | ((first | apply w_lss | apply w_leq | apply w_gtr | apply w_geq | apply w_eql | apply w_neq | apply w_add | apply w_sub | apply w_mul | apply w_idx | apply w_ld | apply w_fld | apply w_fa | apply w_extv | apply w_min | apply w_max | apply w_slhi | apply w_sllo | apply w_bs2); iterate 3 exact rfl)
  | ((first | apply w_eqlb | apply w_neqb | apply w_idxs | apply w_lds | apply w_ext); iterate 3 exact rfl)
  | (apply w_rem; exact rfl; exact rfl; exact rfl; (focus (omega; done)); (focus (omega; done)))
  | (apply w_quo; exact rfl; exact rfl; exact rfl; (focus (omega; done)); (focus (omega; done)))
  | (apply w_remT; exact rfl; exact rfl; exact rfl)
  | (apply w_quoT; exact rfl; exact rfl; exact rfl)
  | ((first | apply w_not | apply w_neg | apply w_conv | apply w_build0 | apply w_bs1 | apply w_boxa); iterate 2 exact rfl)
  | (apply w_idxo; exact rfl; exact rfl; (first | exact .sli rfl | exact .sls rfl | exact .slr rfl); exact rfl)
  | ((first | apply w_idxr | apply w_ldr); iterate 4 exact rfl)
  | (apply w_ldo; iterate 4 exact rfl)
  | (apply w_ldls; iterate 4 exact rfl)
  | (apply w_ldrp; iterate 4 exact rfl)
  | (apply w_ldb; iterate 5 exact rfl)
  | (apply w_ldst; iterate 5 exact rfl)
  | ((first | apply w_sllh | apply w_stbi); iterate 4 exact rfl)
  | ((first | apply w_oslo | apply w_oshi | apply w_stbii); iterate 4 exact rfl)
  | (apply w_build1; exact rfl; exact rfl; (first | exact one_val rfl rfl | exact one_ints | exact one_intss | exact one_own rfl True.intro))
  | (apply w_build2; exact rfl; exact rfl; exact rfl; (first | exact one_val rfl rfl | exact one_ints | exact one_intss | exact one_own rfl True.intro); (first | exact one_val rfl rfl | exact one_ints | exact one_intss | exact one_own rfl True.intro))
  | (apply w_bs0; iterate 1 exact rfl)
  | (apply w_appn; exact rfl; exact rfl; (first | exact .ints _ | exact .sli rfl | exact .orow rfl | exact .nil | exact .osub rfl (by simp; omega)); exact rfl)
  | (apply w_app; exact rfl; exact rfl; exact rfl; exact rfl; (first | exact .ints _ | exact .sli rfl | exact .orow rfl | exact .nil | exact .osub rfl (by simp; omega)); rotate_left 1; simp only [Env.mp, List.map_cons, List.map_nil, List.set_cons_zero, List.set_cons_succ, AV.kill, AV.kill1, AO.kill, AV.noRow, AV.noRow1, AO.via, reduceIte, Nat.reduceEqDiff, Nat.reduceLT, Env.up, Nat.zero_ne_one, Nat.one_ne_zero, Nat.reduceAdd, List.cons_append, List.nil_append]; rotate_left 1)
  | (apply w_alst; iterate 2 exact rfl)
  | (apply w_alone; iterate 3 exact rfl)
  | (apply w_mki; exact rfl; exact rfl; rotate_left 3; exact rfl; rotate_left 1)
  | (apply w_sti; exact rfl; exact rfl; rotate_left 1; exact rfl; rotate_left 2)
  | (apply w_stst; iterate 5 exact rfl)
  | (apply w_stbv; iterate 6 exact rfl)
  | (apply w_stbo; exact rfl; exact rfl; exact rfl; exact rfl; exact rfl; exact True.intro)
  | ((apply AOps.splitB; exact rfl; exact rfl) <;> intro h)
  | apply AllOf.nil
  | (apply AllOf.cons; exact rfl)
  | (apply AAny.take; exact rfl; exact rfl; kernel_rfl; kernel_rfl)
  | (apply AAny.all; exact rfl)
  | (apply AAny.done; exact rfl)
  | (apply inI_of <;> omega)
  | omega
  | (simp <;> omega))
    exact ⟨_, _, _, .v1 Try.results31 rfl, .sli rfl, rfl, rfl⟩
end Go.Proofs.Ytdkociacaagcoaa
