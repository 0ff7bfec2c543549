/-
  Parts of the proof, one behind the other: contracts of functions and plain laws. No condition.
-/
import Derived.Test.YtcolpjpppdmanaaProg
import Derived.KernelRfl
import Derived.Laws.Bits64b
import Derived.Test.YtcolpjpppdmanaaPt2FnChainsAndP
/-
  Own slices of structs of one slice of rows: all of it own memory. No condition.
-/
namespace Go.Proofs.Ytcolpjpppdmanaa
open Go Go.RowKit
set_option linter.unusedVariables false
set_option linter.unusedSimpArgs false

abbrev Pls := List (List (List Int))
/-- The part 'p' reads as the rows 'f'. -/
def PartP (e1 e2 : TypeId) (f : List (List Int)) (base : Nat) (w : World) (p : Gh) : Prop := RO base w (fun _ => True) [] p (.sls e1 e2 f)
theorem PartP.ro {e1 e2 : TypeId} {f : List (List Int)} {base : Nat} {w : World} {p : Gh} (h : PartP e1 e2 f base w p) {ok : Nat → Prop} {gs : List Gh} : RO base w ok gs p (.sls e1 e2 f) := AO.plain.ro (o := .sls e1 e2 f) trivial h
theorem PartP.of {e1 e2 : TypeId} {f : List (List Int)} {base : Nat} {w : World} {p : Gh} {ok : Nat → Prop} {gs : List Gh} (h : RO base w ok gs p (.sls e1 e2 f)) : PartP e1 e2 f base w p := AO.plain.ro (o := .sls e1 e2 f) trivial h
theorem PartP.up {e1 e2 : TypeId} {f : List (List Int)} {base : Nat} {w w' : World} {p : Gh} (hb : ∀ b, b ∈ p.bl → w'.heap[b]? = w.heap[b]?) (h : PartP e1 e2 f base w p) : PartP e1 e2 f base w' p :=
  PartP.of (RO.mono (ok := fun _ => False) (ok' := fun _ => False) (gs := []) (gs' := []) (fun b hb _ => hb.elim) (fun h g e => e) (fun _ => hb) h.ro)
theorem owns_lower {w : World} {base base' : Nat} {e : TypeId} {v : Value} {n : Nat} {vs : List Value} (hl : base' ≤ base) (h : w.ownsRow base e 1 v n vs) : w.ownsRow base' e 1 v n vs := by
  refine ⟨h.1, h.2.imp id ?_⟩
  rintro ⟨g, cap, cur, e1, e2, r⟩
  exact ⟨g, cap, cur, e1, Nat.le_trans hl e2, r⟩
theorem PartP.lower {e1 e2 : TypeId} {f : List (List Int)} {base base' : Nat} {w : World} {p : Gh} (hl : base' ≤ base) (h : PartP e1 e2 f base w p) : PartP e1 e2 f base' w p := by
  obtain ⟨vs, bs, mb, a1, a2, a3, a4, a5, r⟩ := h
  exact ⟨vs, bs, mb, owns_lower hl a1, a2, a3, a4, fun i u hu => ⟨owns_lower hl (a5 i u hu).1, (a5 i u hu).2⟩, r⟩
theorem PartP.nodup {e1 e2 : TypeId} {f : List (List Int)} {base : Nat} {w : World} {p : Gh} (h : PartP e1 e2 f base w p) : p.bl.Nodup := by
  obtain ⟨vs, bs, mb, _, _, _, _, _, _, _, h8⟩ := h; exact h8
theorem PartP.one {e1 e2 : TypeId} {f : List (List Int)} {base : Nat} {w : World} {p : Gh} (h : PartP e1 e2 f base w p) : p.v.oneCell' = true ∧ p.v.cells = #[p.v] := by
  obtain ⟨vs, bs, mb, h1, _⟩ := h
  obtain ⟨a, cap, e1⟩ := ownsRow_slice h1
  rw [e1]; exact ⟨rfl, rfl⟩
theorem PartP.reads {e1 e2 : TypeId} {f : List (List Int)} {base : Nat} {w : World} {p : Gh} (h : PartP e1 e2 f base w p) {ok : Nat → Prop} (hb : ∀ b, b ∈ p.bl → ok b) : IntssAt w ok p.v f := by
  obtain ⟨vs, bs, mb, a1, a2, a3, a4, a5, a6, a7, a8⟩ := h
  refine ⟨vs, RowAt.of_owns' a1 fun b hbb => hb b ?_, a2, fun i u hu => ⟨RowAt.of_owns' (a5 i u hu).1 fun b hbb => hb b ?_, (a5 i u hu).2.1⟩⟩
  · rw [a7]
    rcases a6 with ⟨h6, _⟩ | ⟨h6, h6'⟩
    · rw [h6] at hbb; cases hbb
    · rw [h6] at hbb; cases hbb; simp [h6']
  · have hi := (List.getElem?_eq_some_iff.1 hu).1
    rw [a7]
    refine List.mem_append.2 (.inr (List.mem_flatten.2 ⟨bs.getD i [], ?_, by rw [← (a5 i u hu).2.2, hbb]; simp⟩))
    rw [List.getD_eq_getElem?_getD, List.getElem?_eq_getElem (by omega)]
    simp

section
variable {P : Program} {wl : Bool} {env : Env} {os : List AO} {d : Option Tmp} {ty : TypeId} {pos : String} {af : Array Edge} {g : Option (Nat × Bool)}

end
section
variable {P : Program} {env : Env} {os : List AO} {d : Tmp} {ty : TypeId} {pos : String} {af : Array Edge} {g : Option (Nat × Bool)} {l rest : List Oper} {K : APost} {q : Md}
end
end Go.Proofs.Ytcolpjpppdmanaa
/-
  A struct of one own slice of rows behind a pointer, as one object; functions that write to it in its place. No condition.
-/
namespace Go.Proofs.Ytcolpjpppdmanaa
open Go Go.RowKit
set_option linter.unusedVariables false

def CntP (T e e2 : TypeId) (L : List (List Int)) (base : Nat) (w : World) (g : Gh) : Prop :=
  ∃ p : Gh, w.heap[g.b]? = some (.cells #[p.v] T (0, 0)) ∧ base ≤ g.b ∧ g.v = .pointer (some ⟨g.b, 0, none⟩) ∧ PartP e e2 L base w p ∧ g.bl = g.b :: p.bl ∧ g.b ∉ p.bl
def cntOb (T e e2 : TypeId) (L : List (List Int)) : Ob where
  p := CntP T e e2 L
  up {base w w' g} hb h := by
    obtain ⟨p, a1, a2, a3, a4, a5, a6⟩ := h
    exact ⟨p, by rw [hb g.b (by rw [a5]; simp)]; exact a1, a2, a3, a4.up fun b hbb => hb b (by rw [a5]; simp [hbb]), a5, a6⟩
  lower hl h := by
    obtain ⟨p, a1, a2, a3, a4, a5, a6⟩ := h
    exact ⟨p, a1, Nat.le_trans hl a2, a3, a4.lower hl, a5, a6⟩
  one h := by
    obtain ⟨p, a1, a2, a3, _⟩ := h
    rw [a3]; exact ⟨rfl, rfl⟩

theorem RO.via {base : Nat} {w : World} {ok ok' : Nat → Prop} {gs gs' : List Gh} {x : Gh} {z : AO} {h : Nat} (hz : RO base w ok gs x z) (kp : Keeps ok ok' w w) (sv : SameV h gs gs') : RO base w ok' gs' x (z.via (AV.noRow h) h) := by
  cases z with
  | ob q => exact hz
  | dead => trivial
  | sli e xs => exact hz
  | sls e e2 xss => exact hz
  | bx T avs =>
    obtain ⟨cs, h1, h2, h3, h4, h5, h6, h7⟩ := hz
    exact ⟨cs, h1, h2, h3, h4, by simpa using h5, h6, fun j => by rw [getD_map_f _ rfl]; exact (h7 j).noRow kp sv⟩
  | slr e avs =>
    obtain ⟨vs, h1, h2, h3, h4⟩ := hz
    exact ⟨vs, h1, by simpa using h2, fun j => by rw [getD_map_f _ rfl]; exact (h3 j).noRow kp sv, h4⟩
  | keep n K =>
    obtain ⟨h1, h2, h3⟩ := hz
    simp only [AO.via]
    split
    · exact ⟨h1, rfl, fun i x hx => by simp at hx⟩
    · refine ⟨h1, h2, fun i y hy => ?_⟩
      have := (List.getElem?_eq_some_iff.1 hy).1
      exact sv.other i y (by omega) (h3 i y hy)

set_option maxHeartbeats 1000000 in
theorem Turns.split {env : Env} {os : List AO} {h m : Nat} {T e e2 : TypeId} {L : List (List Int)} (hs : os[h]? = some (.ob (cntOb T e e2 L))) (hm : os.length = m) :
    Turns env os (env.mp (AV.noRow h)) (((os.map (AO.via (AV.noRow h) h)).set h (.bx T [.own m])) ++ [.sls e e2 L]) := by
  subst hm
  intro base w gs tm hr
  have hlt : h < os.length := (List.getElem?_eq_some_iff.1 hs).1
  have hgl : h < gs.length := by rw [hr.hl]; exact hlt
  obtain ⟨gh, hg⟩ : ∃ x, gs[h]? = some x := ⟨_, List.getElem?_eq_getElem hgl⟩
  obtain ⟨p, a1, a2, a3, a4, a5, a6⟩ := hr.ho _ _ _ hg hs
  let g' : Gh := ⟨gh.v, gh.b, [gh.b], []⟩
  have hgn := hr.hn _ _ _ hg hs (by simp)
  have sub1 : ∀ b, b ∈ g'.bl → b ∈ gh.bl := fun b hb => by rw [a5]; simp [g'] at hb; simp [hb]
  have sub2 : ∀ b, b ∈ p.bl → b ∈ gh.bl := fun b hb => by rw [a5]; simp [hb]
  have sv : SameV h gs (gs.set h g' ++ [p]) := by
    refine ⟨fun j z hj hz => ?_, fun z hz => ⟨g', ?_, ?_⟩⟩
    · have := (List.getElem?_eq_some_iff.1 hz).1
      rw [List.getElem?_append_left (by rw [List.length_set]; exact this), List.getElem?_set, if_neg (fun e => hj e.symm)]; exact hz
    · rw [List.getElem?_append_left (by rw [List.length_set]; exact hgl), List.getElem?_set_self hgl]
    · rw [hg] at hz; cases hz; exact ⟨rfl, rfl⟩
  have gget : ∀ {i : Nat} {x : Gh}, (gs.set h g' ++ [p])[i]? = some x → (i = h ∧ x = g') ∨ (i ≠ h ∧ i < gs.length ∧ gs[i]? = some x) ∨ (i = gs.length ∧ x = p) := by
    intro i x hx
    rcases Nat.lt_or_ge i gs.length with hi | hi
    · rw [List.getElem?_append_left (by rw [List.length_set]; exact hi), List.getElem?_set] at hx
      split at hx
      · subst_vars; simp at hx; exact .inl ⟨rfl, hx.symm⟩
      · exact .inr (.inl ⟨fun e => by simp_all, hi, hx⟩)
    · have h2 := (List.getElem?_eq_some_iff.1 hx).1
      simp at h2
      have : i = gs.length := by omega
      subst this
      rw [List.getElem?_append_right (by simp)] at hx
      simp at hx
      exact .inr (.inr ⟨rfl, hx.symm⟩)
  have oget : ∀ {i : Nat} {y : AO}, (((os.map (AO.via (AV.noRow h) h)).set h (.bx T [.own os.length])) ++ [AO.sls e e2 L])[i]? = some y → (i = h ∧ y = .bx T [.own os.length]) ∨ (i ≠ h ∧ i < os.length ∧ ∃ z, os[i]? = some z ∧ y = z.via (AV.noRow h) h) ∨ (i = os.length ∧ y = .sls e e2 L) := by
    intro i y hy
    rcases Nat.lt_or_ge i os.length with hi | hi
    · rw [List.getElem?_append_left (by simpa using hi), List.getElem?_set] at hy
      split at hy
      · subst_vars; simp [hi] at hy; exact .inl ⟨rfl, hy.symm⟩
      · refine .inr (.inl ⟨fun e => by simp_all, hi, ?_⟩)
        rw [List.getElem?_map] at hy
        cases hz : os[i]? with
        | none => simp [hz] at hy
        | some z => simp [hz] at hy; exact ⟨z, rfl, hy.symm⟩
    · have h2 := (List.getElem?_eq_some_iff.1 hy).1
      simp at h2
      have : i = os.length := by omega
      subst this
      rw [List.getElem?_append_right (by simp)] at hy
      simp at hy
      exact .inr (.inr ⟨rfl, hy.symm⟩)
  have kp : Keeps (okOf gs os) (okOf (gs.set h g' ++ [p]) (((os.map (AO.via (AV.noRow h) h)).set h (.bx T [.own os.length])) ++ [AO.sls e e2 L])) w w := by
    intro b hb _
    refine ⟨fun i x y hx hy hny hm => ?_, rfl⟩
    rcases gget hx with ⟨_, rfl⟩ | ⟨h1, h2, h3⟩ | ⟨_, rfl⟩
    · exact hb h gh _ hg hs trivial (sub1 b hm)
    · rcases oget hy with ⟨h4, _⟩ | ⟨_, _, z, hz, rfl⟩ | ⟨h4, _⟩
      · exact h1 h4
      · exact hb i x z h3 hz (AO.via_live.1 hny) hm
      · rw [← hr.hl] at h4; omega
    · exact hb h gh _ hg hs trivial (sub2 b hm)
  have hl := hr.hl
  refine ⟨gs.set h g' ++ [p], hr.hb, by simp [hl], hr.hs, fun i => by rw [Env.lk_mp _ rfl]; exact (hr.he i).noRow kp sv, ?_, ?_, ?_⟩
  · intro i x y hx hy
    rcases oget hy with ⟨rfl, rfl⟩ | ⟨h1, h2, z, hz, rfl⟩ | ⟨rfl, rfl⟩
    · rcases gget hx with ⟨_, rfl⟩ | ⟨h1, _⟩ | ⟨h1, _⟩
      · refine ⟨[p.v], a1, a2, rfl, a3, rfl, fun c hc => by simp at hc; subst hc; exact a4.one.1, fun j => ?_⟩
        match j with
        | 0 => exact .own (by rw [← hl]; simp)
        | j + 1 => exact .any _
      · exact absurd rfl h1
      · omega
    · rcases gget hx with ⟨h4, _⟩ | ⟨_, _, h3⟩ | ⟨h4, _⟩
      · exact absurd h4 h1
      · exact RO.via (hr.ho i x z h3 hz) kp sv
      · omega
    · rcases gget hx with ⟨h4, _⟩ | ⟨_, h4, _⟩ | ⟨_, rfl⟩
      · omega
      · omega
      · exact a4.ro
  · intro i j x y o1 o2 hij hx hy ho1 ho2 hn1 hn2 b hb1 hb2
    have olive : ∀ {i : Nat} {y : AO}, i ≠ h → i < gs.length → (((os.map (AO.via (AV.noRow h) h)).set h (.bx T [.own os.length])) ++ [AO.sls e e2 L])[i]? = some y → y ≠ .dead → ∃ z, os[i]? = some z ∧ z ≠ .dead := by
      intro i y h1 h2 hy hny
      rcases oget hy with ⟨h4, _⟩ | ⟨_, _, z, hz, rfl⟩ | ⟨h4, _⟩
      · exact absurd h4 h1
      · exact ⟨z, hz, fun e => hny (AO.via_dead.2 e)⟩
      · omega
    rcases gget hx with ⟨rfl, rfl⟩ | ⟨h1, h2, h3⟩ | ⟨rfl, rfl⟩
    · rcases gget hy with ⟨rfl, rfl⟩ | ⟨k1, k2, k3⟩ | ⟨rfl, rfl⟩
      · exact hij rfl
      · obtain ⟨z, hz, hzn⟩ := olive k1 k2 ho2 hn2
        exact hr.hd _ _ gh y _ z (fun e => k1 e.symm) hg k3 hs hz (by simp) hzn b (sub1 b hb1) hb2
      · simp [g'] at hb1; subst hb1; exact a6 hb2
    · obtain ⟨z, hz, hzn⟩ := olive h1 h2 ho1 hn1
      rcases gget hy with ⟨rfl, rfl⟩ | ⟨k1, k2, k3⟩ | ⟨rfl, rfl⟩
      · exact hr.hd _ _ x gh z _ h1 h3 hg hz hs hzn (by simp) b hb1 (sub1 b hb2)
      · obtain ⟨z2, hz2, hzn2⟩ := olive k1 k2 ho2 hn2
        exact hr.hd i j x y z z2 hij h3 k3 hz hz2 hzn hzn2 b hb1 hb2
      · exact hr.hd _ _ x gh z _ h1 h3 hg hz hs hzn (by simp) b hb1 (sub2 b hb2)
    · rcases gget hy with ⟨rfl, rfl⟩ | ⟨k1, k2, k3⟩ | ⟨rfl, rfl⟩
      · simp [g'] at hb2; subst hb2; exact a6 hb1
      · obtain ⟨z, hz, hzn⟩ := olive k1 k2 ho2 hn2
        exact hr.hd _ _ gh y _ z (fun e => k1 e.symm) hg k3 hs hz (by simp) hzn b (sub2 b hb1) hb2
      · exact hij rfl
  · intro i x y hx hy hny b hb
    rcases gget hx with ⟨rfl, rfl⟩ | ⟨h1, h2, h3⟩ | ⟨rfl, rfl⟩
    · exact hgn b (sub1 b hb)
    · rcases oget hy with ⟨h4, _⟩ | ⟨_, _, z, hz, rfl⟩ | ⟨h4, _⟩
      · exact absurd h4 h1
      · exact hr.hn i x z h3 hz (fun e => hny (AO.via_dead.2 e)) b hb
      · omega
    · exact hgn b (sub2 b hb)

theorem Turns.join {env : Env} {os : List AO} {h k : Nat} {T e e2 : TypeId} {L : List (List Int)} (hs : os[h]? = some (.bx T [.own k])) (hk : os[k]? = some (.sls e e2 L)) (hhk : (h == k) = false) :
    Turns env os (env.mp (AV.noRow h)) (((os.map (AO.via (AV.noRow h) h)).set h (.ob (cntOb T e e2 L))).set k .dead) := by
  have hne : h ≠ k := by simpa using hhk
  intro base w gs tm hr
  have hgl : h < gs.length := by rw [hr.hl]; exact (List.getElem?_eq_some_iff.1 hs).1
  have hkl : k < gs.length := by rw [hr.hl]; exact (List.getElem?_eq_some_iff.1 hk).1
  obtain ⟨gh, hg⟩ : ∃ x, gs[h]? = some x := ⟨_, List.getElem?_eq_getElem hgl⟩
  obtain ⟨gk, hgk⟩ : ∃ x, gs[k]? = some x := ⟨_, List.getElem?_eq_getElem hkl⟩
  obtain ⟨cs, c1, c2, c3, c4, c5, c6, c7⟩ := hr.ho _ _ _ hg hs
  have hpk : PartP e e2 L base w gk := PartP.of (hr.ho _ _ _ hgk hk)
  match cs, c5 with
  | [c0], _ =>
  have h0 := c7 0
  simp only [List.getD_cons_zero] at h0
  have e0 : c0 = gk.v := by
    cases h0 with
    | own hh => rw [hgk] at hh; cases hh; rfl
  subst e0
  let g' : Gh := ⟨gh.v, gh.b, gh.b :: gk.bl, []⟩
  have hbn := hr.hn _ _ _ hg hs (by simp)
  have hkn := hr.hn _ _ _ hgk hk (by simp)
  have sv : SameV h gs (gs.set h g') := by
    refine ⟨fun j z hj hz => ?_, fun z hz => ⟨g', by simp [hgl], ?_⟩⟩
    · rw [List.getElem?_set, if_neg (fun e => hj e.symm)]; exact hz
    · rw [hg] at hz; cases hz; exact ⟨rfl, rfl⟩
  refine ⟨gs.set h g', hr.absorb hg hs trivial hgk hk trivial hne g' _ (AV.noRow h) rfl (fun _ _ _ => rfl) (Nat.le_refl _) ?_ (fun kp hv => hv.noRow kp sv) (fun _ => ?_)⟩
  · intro b hb
    simp only [g', List.mem_cons] at hb
    rcases hb with rfl | hb
    · have : gh.b ∈ gh.bl := by rw [c3]; simp
      exact ⟨.inl this, (hbn _ this).2⟩
    · exact ⟨.inr (.inl hb), (hkn b hb).2⟩
  · refine ⟨gk, c1, c2, c4, hpk, rfl, fun hm => ?_⟩
    exact hr.hd k h gk gh _ _ (fun e => hne e.symm) hgk hg hk hs (by simp) (by simp) gh.b hm (by rw [c3]; simp)
theorem AWp.turns {P : Program} {c : Code} {N : APost} {X : Nat → APost} {R : APost} {env env' : Env} {os os' : List AO} (ht : Turns env os env' os') (h : AWp P c N X R env' os') : AWp P c N X R env os := by
  intro base w0 w gs tm hr hb
  obtain ⟨gs', hr'⟩ := ht _ _ _ _ hr
  exact h base w0 w gs' tm hr' hb
theorem AOps.turns {P : Program} {l rest : List Oper} {K : APost} {env env' : Env} {os os' : List AO} (ht : Turns env os env' os') (h : AOps P .seq l rest K env' os') : AOps P .seq l rest K env os := by
  intro base w0 w gs tm hr hb X Rt
  obtain ⟨gs', hr'⟩ := ht _ _ _ _ hr
  exact h base w0 w gs' tm hr' hb X Rt

/-! ### Functions that are handed the pointer -/
def AFnP (P : Program) (f : FuncId) (as0 : List Value) (T e e2 : TypeId) (L L' : List (List Int)) (v : Value) : Prop :=
  HasBody P f ∧ ∀ base w g, base ≤ w.heap.size → CntP T e e2 L base w g → (∀ b, b ∈ g.bl → base ≤ b ∧ b < w.heap.size) →
    Calls P f (g.v :: as0).toArray w fun ev w' => ∃ g' : Gh, ev = .returned v ∧ g'.v = g.v ∧ g'.b = g.b ∧ CntP T e e2 L' base w' g' ∧ (∀ b, b ∈ g'.bl → (b ∈ g.bl ∨ w.heap.size ≤ b) ∧ b < w'.heap.size) ∧ Below base w w' ∧ ∀ b, b < w.heap.size → b ∉ g.bl → w'.heap[b]? = w.heap[b]?
/-- What stands at the end. -/
def CntEnd (P : Program) (fn : Func) (T e e2 : TypeId) (L' : List (List Int)) (v : Value) (K : Kp) (env : Env) (os : List AO) : Prop :=
  ∃ k : Nat, ResIs P fn env os (.val v) ∧ os[1]? = some (.bx T [.own k]) ∧ os[k]? = some (.sls e e2 L') ∧ (1 == k) = false ∧ os[0]? = some (.keep 2 K)

set_option maxHeartbeats 1000000 in
theorem AFnP.of {P : Program} {f : FuncId} {fn : Func} {c : Code} {as0 : List Value} {args' : List AV} {T e e2 : TypeId} {L L' : List (List Int)} {v : Value} {n : Nat} (hf : P.funcs[f]? = some fn) (hb : fn.body = some c) (hnm : (fn.name == "runtime.NumGoroutine") = false) (hn : fn.ntmps - (as0.length + 1) = n) (ha : args' = .optr 1 0 :: as0.map AV.val)
    (h : ∀ K, AWp P c (CntEnd P fn T e e2 L' v K) (fun _ _ _ => False) (CntEnd P fn T e e2 L' v K) (Env.start args' n) [.keep 2 K, .bx T [.own 2], .sls e e2 L]) :
    AFnP P f as0 T e e2 L L' v := by
  refine ⟨⟨fn, c, hf, hnm, hb⟩, fun base w g hbase hC hgn => calls_of_wp hf hb ?_⟩
  have hvs : ((g.v :: as0).toArray).size = as0.length + 1 := by simp
  rw [show fn.ntmps - ((g.v :: as0).toArray).size = n by rw [hvs]; exact hn]
  obtain ⟨p, a1, a2, a3, a4, a5, a6⟩ := hC
  let bl : List Nat := (List.range w.heap.size).filter fun b => decide (base ≤ b) && !g.bl.contains b
  let gk : Gh := ⟨undef, 0, bl, []⟩
  let gb : Gh := ⟨g.v, g.b, [g.b], []⟩
  let K : Kp := ⟨fun b => w.heap[b]?, [gk, gb]⟩
  have hbl : ∀ b, b ∈ bl ↔ b < w.heap.size ∧ base ≤ b ∧ b ∉ g.bl := by
    intro b
    simp only [bl, List.mem_filter, List.mem_range, Bool.and_eq_true, decide_eq_true_eq, Bool.not_eq_true', List.contains_eq_mem, decide_eq_false_iff_not]
  have subB : ∀ b, b ∈ gb.bl → b ∈ g.bl := fun b hb => by rw [a5]; simp [gb] at hb; simp [hb]
  have subP : ∀ b, b ∈ p.bl → b ∈ g.bl := fun b hb => by rw [a5]; simp [hb]
  have gg : ∀ {i : Nat} {x : Gh}, [gk, gb, p][i]? = some x → (i = 0 ∧ x = gk) ∨ (i = 1 ∧ x = gb) ∨ (i = 2 ∧ x = p) := by
    intro i x hx
    match i with
    | 0 => simp at hx; exact .inl ⟨rfl, hx.symm⟩
    | 1 => simp at hx; exact .inr (.inl ⟨rfl, hx.symm⟩)
    | 2 => simp at hx; exact .inr (.inr ⟨rfl, hx.symm⟩)
    | i + 3 => simp at hx
  have go : ∀ {i : Nat} {x : AO}, [AO.keep 2 K, .bx T [.own 2], .sls e e2 L][i]? = some x → (i = 0 ∧ x = .keep 2 K) ∨ (i = 1 ∧ x = .bx T [.own 2]) ∨ (i = 2 ∧ x = .sls e e2 L) := by
    intro i x hx
    match i with
    | 0 => simp at hx; exact .inl ⟨rfl, hx.symm⟩
    | 1 => simp at hx; exact .inr (.inl ⟨rfl, hx.symm⟩)
    | 2 => simp at hx; exact .inr (.inr ⟨rfl, hx.symm⟩)
    | i + 3 => simp at hx
  have hrel : Rel base w [gk, gb, p] (Env.start args' n) [.keep 2 K, .bx T [.own 2], .sls e e2 L] ((g.v :: as0).toArray ++ Array.replicate n undef) := by
    refine ⟨hbase, rfl, by simp [Env.start, ha], fun i => start_rv args' n _ (fun i => ?_) i, ?_, ?_, ?_⟩
    · rw [ha]
      match i with
      | 0 =>
        have : RV w (okOf [gk, gb, p] [.keep 2 K, .bx T [.own 2], .sls e e2 L]) [gk, gb, p] (.pointer (some ⟨gb.b, 0, none⟩)) (.optr 1 0) := .optr (by simp)
        simpa [a3, gb] using this
      | i + 1 =>
        simp only [Array.getD_eq_getD_getElem?, List.getElem?_toArray, List.getElem?_cons_succ, List.getD_eq_getElem?_getD, List.getElem?_map]
        cases as0[i]? with
        | none => exact .any _
        | some u => exact .val _
    · intro i x y hx hy
      rcases gg hx with ⟨rfl, rfl⟩ | ⟨rfl, rfl⟩ | ⟨rfl, rfl⟩
      · rcases go hy with ⟨_, rfl⟩ | ⟨h0, _⟩ | ⟨h0, _⟩
        · exact ⟨fun b _ => rfl, rfl, fun i x h => by
            match i with
            | 0 => exact h
            | 1 => exact h
            | i + 2 => simp [K] at h⟩
        · omega
        · omega
      · rcases go hy with ⟨h0, _⟩ | ⟨_, rfl⟩ | ⟨h0, _⟩
        · omega
        · refine ⟨[p.v], a1, a2, rfl, a3, rfl, fun c hc => by simp at hc; subst hc; exact a4.one.1, fun j => ?_⟩
          match j with
          | 0 => exact .own (by simp)
          | j + 1 => exact .any _
        · omega
      · rcases go hy with ⟨h0, _⟩ | ⟨h0, _⟩ | ⟨_, rfl⟩
        · omega
        · omega
        · exact a4.ro
    · intro i j g1 g2 o1 o2 hij hg1 hg2 ho1 ho2 _ _ b hb1 hb2
      rcases gg hg1 with ⟨rfl, rfl⟩ | ⟨rfl, rfl⟩ | ⟨rfl, rfl⟩
      · rcases gg hg2 with ⟨rfl, rfl⟩ | ⟨rfl, rfl⟩ | ⟨rfl, rfl⟩
        · exact hij rfl
        · exact ((hbl b).1 hb1).2.2 (subB b hb2)
        · exact ((hbl b).1 hb1).2.2 (subP b hb2)
      · rcases gg hg2 with ⟨rfl, rfl⟩ | ⟨rfl, rfl⟩ | ⟨rfl, rfl⟩
        · exact ((hbl b).1 hb2).2.2 (subB b hb1)
        · exact hij rfl
        · simp [gb] at hb1; subst hb1; exact a6 hb2
      · rcases gg hg2 with ⟨rfl, rfl⟩ | ⟨rfl, rfl⟩ | ⟨rfl, rfl⟩
        · exact ((hbl b).1 hb2).2.2 (subP b hb1)
        · simp [gb] at hb2; subst hb2; exact a6 hb1
        · exact hij rfl
    · intro i x y hx hy _ b hb
      rcases gg hx with ⟨rfl, rfl⟩ | ⟨rfl, rfl⟩ | ⟨rfl, rfl⟩
      · exact ⟨((hbl b).1 hb).2.1, ((hbl b).1 hb).1⟩
      · exact hgn b (subB b hb)
      · exact hgn b (subP b hb)
  have fin : ∀ {env : Env} {os1 : List AO} {gs2 : List Gh} {a : Act} {w' : World}, Rel base w' gs2 env os1 a.tmps → Below base w w' → CntEnd P fn T e e2 L' v K env os1 →
      ∃ u, (results fn a.tmps).run P w' = .ok u w' ∧ ∃ g' : Gh, Exit.ret = Exit.ret ∧ u = v ∧ g'.v = g.v ∧ g'.b = g.b ∧ CntP T e e2 L' base w' g' ∧ (∀ b, b ∈ g'.bl → (b ∈ g.bl ∨ w.heap.size ≤ b) ∧ b < w'.heap.size) ∧ Below base w w' ∧ ∀ b, b < w.heap.size → b ∉ g.bl → w'.heap[b]? = w.heap[b]? := by
    intro env os1 gs2 a w' hr hbel ⟨k, hres, hbx, hok, hk1, hkp⟩
    obtain ⟨u, hu, hv⟩ := hres _ _ _ _ hr
    cases hv
    have hgt : ∀ {i : Nat} {o : AO}, os1[i]? = some o → ∃ x, gs2[i]? = some x := fun {i o} hi => by
      have : i < gs2.length := by rw [hr.hl]; exact (List.getElem?_eq_some_iff.1 hi).1
      exact ⟨_, List.getElem?_eq_getElem this⟩
    obtain ⟨g0, hg0⟩ := hgt hkp
    obtain ⟨g1, hg1⟩ := hgt hbx
    obtain ⟨gx, hgx⟩ := hgt hok
    obtain ⟨r1, r2, r3⟩ := hr.ho _ _ _ hg0 hkp
    have e0 : g0 = gk := by have := r3 0 gk rfl; rw [hg0] at this; exact Option.some.inj this
    have e1 : g1 = gb := by have := r3 1 gb rfl; rw [hg1] at this; exact Option.some.inj this
    subst e0 e1
    have hk0 : k ≠ 0 := fun e => by subst e; rw [hkp] at hok; cases hok
    have hk1' : k ≠ 1 := fun e => by subst e; simp at hk1
    obtain ⟨cs, c1, c2, c3, c4, c5, c6, c7⟩ := hr.ho _ _ _ hg1 hbx
    match cs, c5 with
    | [c0], _ =>
    have h0 := c7 0
    simp only [List.getD_cons_zero] at h0
    have ec : c0 = gx.v := by
      cases h0 with
      | own hh => rw [hgx] at hh; cases hh; rfl
    subst ec
    have hpx : PartP e e2 L' base w' gx := PartP.of (hr.ho _ _ _ hgx hok)
    have hxn := hr.hn _ _ _ hgx hok (by simp)
    have hbn := hr.hn _ _ _ hg1 hbx (by simp)
    refine ⟨v, hu, ⟨g.v, g.b, g.b :: gx.bl, []⟩, rfl, rfl, rfl, rfl, ⟨gx, c1, c2, a3, hpx, rfl, fun hm => ?_⟩, fun b hb => ?_, hbel, fun b hb hnot => ?_⟩
    · exact hr.hd k 1 gx gb _ _ hk1' hgx hg1 hok hbx (by simp) (by simp) g.b hm (by simp [gb])
    · simp only [List.mem_cons] at hb
      rcases hb with rfl | hb
      · exact ⟨.inl (subB _ (by simp [gb])), (hbn _ (by simp [gb])).2⟩
      · have hbn2 := hxn b hb
        refine ⟨?_, hbn2.2⟩
        by_cases hbw : b < w.heap.size
        · left
          apply Classical.byContradiction
          intro hnb
          exact hr.hd k 0 gx gk _ _ hk0 hgx hg0 hok hkp (by simp) (by simp) b hb ((hbl b).2 ⟨hbw, hbn2.1, hnb⟩)
        · right; omega
    · rcases Nat.lt_or_ge b base with h6 | h6
      · exact hbel.block b h6
      · exact r1 b ((hbl b).2 ⟨hb, h6, hnot⟩)
  refine wp_mono (h K base w w _ _ hrel (Below.refl _ _)) ?_
  intro ev a w' hq
  cases ev with
  | normal =>
    obtain ⟨env, os1, gs1, hr, hd, hbel, hx⟩ := hq
    obtain ⟨u, hu, g', _, rfl, r⟩ := fin hr hbel hx
    exact ⟨hd, _, hu, g', rfl, r⟩
  | exit j => obtain ⟨_, _, _, _, _, _, hx⟩ := hq; exact hx.elim
  | ret =>
    obtain ⟨env, os1, gs1, hr, hd, hbel, hx⟩ := hq
    obtain ⟨u, hu, g', _, rfl, r⟩ := fin hr hbel hx
    exact ⟨hd, _, hu, g', rfl, r⟩
  | goto l => exact (hq : False).elim
  | panic ch => exact (hq : False).elim
  | outgrown => exact (hq : False).elim
theorem AFnP.start {P : Program} {f : FuncId} {fn : Func} {nt : Nat} {as0 : List Value} {T e e2 : TypeId} {L L' : List (List Int)} {v : Value} (hf : P.funcs[f]? = some fn) (hnt : fn.ntmps = nt) {c : Code} (hb : fn.body = some c) (hnm : (fn.name == "runtime.NumGoroutine") = false)
    (h : ∀ K, AWp P c (CntEnd P fn T e e2 L' v K) (fun _ _ _ => False) (CntEnd P fn T e e2 L' v K) (Env.start (.optr 1 0 :: as0.map AV.val) (nt - (as0.length + 1))) [.keep 2 K, .bx T [.own 2], .sls e e2 L]) :
    AFnP P f as0 T e e2 L L' v := AFnP.of hf hb hnm (by rw [hnt]) rfl h

section
variable {P : Program} {env : Env} {os : List AO} {d : Option Tmp} {ty : TypeId} {pos : String} {af : Array Edge} {g : Option (Nat × Bool)}
end
section
variable {P : Program} {env : Env} {os : List AO} {d : Tmp} {ty : TypeId} {pos : String} {af : Array Edge} {g : Option (Nat × Bool)} {l rest : List Oper} {K : APost} {q : Md}
end
end Go.Proofs.Ytcolpjpppdmanaa
/-
  A nil check, a shift by one, a conversion back from uint. No condition.
-/
namespace Go.Proofs.Ytcolpjpppdmanaa
open Go Go.RowKit
set_option linter.unusedSimpArgs false
section
variable {P : Program} {wl : Bool} {env : Env} {os : List AO} {d : Option Tmp} {ty : TypeId} {pos : String} {af : Array Edge} {g : Option (Nat × Bool)}
theorem q_nilck {x : Operand} {h i : Nat} (hx : AV.ev env x = .optr h i) : QOp P wl ⟨d, .nilCheck x, ty, pos, af, g⟩ env os (.optr h i) :=
  .of_run fun _ w gs tm hr => by
    have hh := hr.ev x
    rw [hx] at hh
    generalize hv : Act.eval ⟨tm, []⟩ x = v at hh
    cases hh with
    | optr hg => exact ⟨_, .optr hg, fun w' _ => by simp [execOp, hv]⟩
theorem q_convu {src dst : TypeId} [hs : TKind P src .i64] [hd : TKind P dst .u64] {x : Operand} {a : Int} (ha : AV.ev env x = .i a) (h0 : 0 ≤ a) (h1 : a ≤ 9223372036854775807) :
    QOp P wl ⟨d, .convert src dst x, ty, pos, af, g⟩ env os (.val (.int .u64 a)) :=
  .of_run fun _ _ _ tm hr => ⟨_, .val _, fun w' _ => by
    have e : IntKind.u64.wrap a = a := by simp [IntKind.wrap, IntKind.bits, IntKind.signed]; omega
    simp [execOp, hr.evv ha, convert, run_underlying hs.und, run_underlying hd.und, Conv.intToInt, e]⟩
theorem q_convi {src dst : TypeId} [hs : TKind P src .u64] [hd : TKind P dst .i64] {x : Operand} {a : Int} (ha : AV.ev env x = .val (.int .u64 a)) (h0 : 0 ≤ a) (h1 : a ≤ 9223372036854775807) :
    QOp P wl ⟨d, .convert src dst x, ty, pos, af, g⟩ env os (.i a) :=
  .of_run fun _ _ _ tm hr => ⟨_, .val _, fun w' _ => by
    have e : IntKind.i64.wrap a = a := by rw [IntKind.wrap_i64]; omega
    simp [execOp, hr.evv ha, convert, run_underlying hs.und, run_underlying hd.und, Conv.intToInt, e]⟩
end
section
variable {P : Program} {env : Env} {os : List AO} {d : Tmp} {ty : TypeId} {pos : String} {af : Array Edge} {g : Option (Nat × Bool)} {l rest : List Oper} {K : APost} {q : Md}
theorem w_nilck {x : Operand} {h i : Nat} (hw : wantedA l env ⟨some d, .nilCheck x, ty, pos, af, g⟩ = some true) (hx : evo env x = some (.optr h i)) (h' : AOps P q l rest K (env.up d (.optr h i)) os) : AOps P q l (⟨some d, .nilCheck x, ty, pos, af, g⟩ :: rest) K env os := AOps.qo hw (q_nilck (ev_of hx)) h'
theorem w_convu {src dst : TypeId} [TKind P src .i64] [TKind P dst .u64] {x : Operand} {a : Int} (hw : wantedA l env ⟨some d, .convert src dst x, ty, pos, af, g⟩ = some true) (ha : evo env x = some (.i a)) (h0 : 0 ≤ a) (h1 : a ≤ 9223372036854775807) (h' : AOps P q l rest K (env.up d (.val (.int .u64 a))) os) :
    AOps P q l (⟨some d, .convert src dst x, ty, pos, af, g⟩ :: rest) K env os := AOps.qo hw (q_convu (ev_of ha) h0 h1) h'
theorem w_convi {src dst : TypeId} [TKind P src .u64] [TKind P dst .i64] {x : Operand} {a : Int} (hw : wantedA l env ⟨some d, .convert src dst x, ty, pos, af, g⟩ = some true) (ha : evo env x = some (.val (.int .u64 a))) (h0 : 0 ≤ a) (h1 : a ≤ 9223372036854775807) (h' : AOps P q l rest K (env.up d (.i a)) os) :
    AOps P q l (⟨some d, .convert src dst x, ty, pos, af, g⟩ :: rest) K env os := AOps.qo hw (q_convi (ev_of ha) h0 h1) h'
end
end Go.Proofs.Ytcolpjpppdmanaa
/-
  Bytes that are read, unsigned numbers, and a struct of bytes, a place and a hash behind a pointer; functions that write to it in its place. No condition.
-/
namespace Go.Proofs.Ytcolpjpppdmanaa
open Go Go.RowKit
set_option linter.unusedSimpArgs false

def BysAt (w : World) (ok : Nat → Prop) (v : Value) (bs : List Int) : Prop :=
  RowAt w ok v (bs.map (Value.int .u8)) ∧ ∀ x ∈ bs, 0 ≤ x ∧ x ≤ 255
theorem BysAt.mono {w w' : World} {ok ok' : Nat → Prop} {v : Value} {xs : List Int} (h : BysAt w ok v xs) (k : Keeps ok ok' w w') : BysAt w' ok' v xs := ⟨h.1.mono k, h.2⟩
def byR (bs : List Int) : Ro where
  p w ok v := BysAt w ok v bs
  up k h := h.mono k
def roB (u : Value) (bs : List Int) : Ro where
  p w ok v := v = u ∧ BysAt w ok v bs
  up k h := ⟨h.1, h.2.mono k⟩
def byP (bs : List Int) (i : Int) : Ro where
  p w ok v := ∃ b off, v = .pointer (some ⟨b, off, none⟩) ∧ ok b ∧ w.cell? ⟨b, off, none⟩ = some (.int .u8 (geti bs i))
  up k h := by
    obtain ⟨b, off, e, h1, h2⟩ := h
    have hk := k b h1 (World.block_lt_of_cell? _ _ h2)
    exact ⟨b, off, e, hk.1, (World.cell?_of_block hk.2).trans h2⟩
def RdB (a : AV) (bs : List Int) : Prop := ∀ w ok gs v, RV w ok gs v a → BysAt w ok v bs
theorem rdB_by (bs : List Int) : RdB (.ro (byR bs)) bs := fun _ _ _ _ h => by cases h with | ro h => exact h
theorem rdB_ro (u : Value) (bs : List Int) : RdB (.ro (roB u bs)) bs := fun _ _ _ _ h => by cases h with | ro h => exact h.2

section
variable {P : Program} {wl : Bool} {env : Env} {os : List AO} {d : Option Tmp} {ty : TypeId} {pos : String} {af : Array Edge} {g : Option (Nat × Bool)}
theorem q_lenb {t e : TypeId} [ht : TSlice P t e] {x : Operand} {a : AV} {bs : List Int} (hx : AV.ev env x = a) (ha : RdB a bs) :
    QOp P wl ⟨d, .call { callee := .builtin .len, args := #[x], argTypes := #[t] }, ty, pos, af, g⟩ env os (.i bs.length) :=
  .of_run fun _ w gs tm hr => by
    have h := hr.ev x
    rw [hx] at h
    obtain ⟨⟨p, cap, hv, _⟩, _⟩ := ha _ _ _ _ h
    rw [List.length_map] at hv
    refine ⟨_, .val _, fun w' _ => ?_⟩
    simp [execOp, resolve, invoke, builtin, hv, Builtin.len_, run_underlying ht.und, goInt]
theorem q_idxby {t e : TypeId} [ht : TSlice P t e] [he : TCell P e] {x y : Operand} {a : AV} {bs : List Int} {i : Int} (hx : AV.ev env x = a) (ha : RdB a bs) (hy : AV.ev env y = .i i) (h0 : 0 ≤ i) (h1 : i < bs.length) :
    QOp P wl ⟨d, .indexAddr t x y, ty, pos, af, g⟩ env os (.ro (byP bs i)) :=
  .of_run fun _ w gs tm hr => by
    have h := hr.ev x
    rw [hx] at h
    obtain ⟨⟨p, cap, e1, _, _, h3⟩, _⟩ := ha _ _ _ _ h
    obtain ⟨b, off, rfl, hok, hc⟩ := h3 (by simp; omega)
    have hlt : i.toNat < bs.length := by omega
    have hcell := hc i.toNat (.int .u8 (geti bs i)) (by simp [geti, hlt])
    refine ⟨_, .ro ⟨b, off + i.toNat, rfl, hok, hcell⟩, fun w' _ => ?_⟩
    obtain ⟨ie, hi, hs⟩ := he.info
    have hrun := run_idx ht.und hi hs ⟨b, off, none⟩ (bs.map (Value.int .u8)).length cap i h0 (by simpa using h1) w'
    simp only [execOp, e1, hr.evv hy, Sem.run_bind, hrun, add_none, Result.andThen_ok, Sem.run_pure]
theorem q_ldby {t : TypeId} [ht : TCell P t] {x : Operand} {bs : List Int} {i : Int} (hx : AV.ev env x = .ro (byP bs i)) : QOp P false ⟨d, .load t x, ty, pos, af, g⟩ env os (.val (.int .u8 (geti bs i))) :=
  .of_runb fun _ w gs tm hr => by
    have h := hr.ev x
    rw [hx] at h
    generalize hv : Act.eval ⟨tm, []⟩ x = v at h
    cases h with
    | ro h =>
      obtain ⟨b, off, rfl, _, hc⟩ := h
      refine ⟨_, .val _, fun w' hw' => ?_⟩
      have hcell := below_cell hw' hc
      simp only [execOp, hv, Sem.run_bind, run_load_cell hcell, Result.andThen_ok, Sem.run_pure]
theorem q_umul {xt yt : TypeId} {x y : Operand} {a b : Int} (ha : AV.ev env x = .val (.int .u64 a)) (hb : AV.ev env y = .val (.int .u64 b)) :
    QOp P wl ⟨d, .binOp .mul xt x y yt, ty, pos, af, g⟩ env os (.val (.int .u64 (IntKind.u64.wrap (a * b)))) :=
  q_bin ha hb (by simp [go_sem]) fun w => by simp [go_sem]
theorem q_uadd {xt yt : TypeId} {x y : Operand} {a b : Int} (ha : AV.ev env x = .val (.int .u64 a)) (hb : AV.ev env y = .val (.int .u64 b)) :
    QOp P wl ⟨d, .binOp .add xt x y yt, ty, pos, af, g⟩ env os (.val (.int .u64 (IntKind.u64.wrap (a + b)))) :=
  q_bin ha hb (by simp [go_sem]) fun w => by simp [go_sem]
theorem q_convb {k : IntKind} {src dst : TypeId} [hs : TKind P src .u8] [hd : TKind P dst k] {x : Operand} {a : Int} (ha : AV.ev env x = .val (.int .u8 a)) (e : k.wrap a = a) :
    QOp P wl ⟨d, .convert src dst x, ty, pos, af, g⟩ env os (.val (.int k a)) :=
  .of_run fun _ _ _ tm hr => ⟨_, .val _, fun w' _ => by
    simp [execOp, hr.evv ha, convert, run_underlying hs.und, run_underlying hd.und, Conv.intToInt, e]⟩
end
end Go.Proofs.Ytcolpjpppdmanaa
/-
  An argument that is a slice of bytes. No condition.
-/
namespace Go.Proofs.Ytcolpjpppdmanaa
open Go Go.RowKit Go.ChangeShapes Go.WideShapes Go.Deep

theorem wf_u8 {n : Int} (h : (Lit.int .u8 n).wf = true) : 0 ≤ n ∧ n ≤ 255 := by
  simp only [Lit.wf, Bool.and_eq_true, decide_eq_true_eq] at h
  exact ⟨by have := h.1; simpa [IntKind.min, IntKind.signed, IntKind.bits] using this, by have := h.2; simpa [IntKind.max, IntKind.signed, IntKind.bits] using this⟩
theorem bysAt_of {w : World} {A : Option Addr} {L C : Nat} {zs : List Int} (h1 : L ≤ C) (h2 : C ≤ maxLen) (hl : L ≤ zs.length)
    (hA : A = none → L = 0) (hc : ∀ a, A = some a → ∀ i, i < L → w.cell? (a.add i) = some (.int .u8 (zs.getD i 0))) (hw : ∀ n ∈ zs, (Lit.int .u8 n).wf = true) :
    BysAt w (fun _ => True) (.slice A L C) (zs.take L) := by
  have e : ((zs.take L).map (Value.int .u8)).length = L := by simp; omega
  refine ⟨⟨A, C, by rw [e], by omega, h2, fun hp => ?_⟩, fun x hx => wf_u8 (hw x (List.mem_of_mem_take hx))⟩
  rw [e] at hp
  cases A with
  | none => have := hA rfl; omega
  | some a =>
    obtain ⟨b, o, sp⟩ := a
    have h0 := hc _ rfl 0 hp
    have hs : sp = none := Go.Proofs.cell_spot h0
    subst hs
    refine ⟨b, o, rfl, trivial, fun i u hu => ?_⟩
    have hi := (List.getElem?_eq_some_iff.1 hu).1
    rw [e] at hi
    have hci := hc _ rfl i hi
    rw [← Addr.add_lit, hci]
    rw [List.getElem?_map, List.getElem?_take_of_lt hi] at hu
    rw [List.getD_eq_getElem?_getD]
    cases hz : zs[i]? with
    | none => rw [hz] at hu; cases hu
    | some z => rw [hz] at hu; simpa using hu
section
variable {H : Type} {enc : TypeId × Value → H} {P : Program} {w : World} {base : Nat} {held : Bool}
theorem arg_bytes {t e : TypeId} {v : Value} {d : DataW H} {ps : List MemPlace} (ht : P.underlying t = some (.slice e)) (he : P.underlying e = some (.int .u8)) (hc : P.cellsOf e = 1)
    (hval : Value.okWide P w .any 0 t v) (hd : DataW.Trod enc P w base (fun _ => true) held t v d ps) : ∃ bs, (∀ x ∈ bs, 0 ≤ x ∧ x ≤ 255) ∧ RV w (fun _ => True) [] v (.ro (byR bs)) := by
  obtain ⟨a, l, c, rfl⟩ := okWide_slice ht hval
  obtain ⟨fuel, hf⟩ := hd
  have h : DataW.trod enc P w base (fun _ => true) held fuel t [.slice a l c] = some (d, ps) := by simpa [Value.cells] using hf
  rcases open_ints ht he hc h with ⟨hv, _⟩ | ⟨a', len, cap, zs, hv, _, hl, hm, hz, _, hcell, hw⟩
  · have hv := (List.cons.inj hv).1
    cases hv
    have hb := bysAt_of (w := w) (A := none) (L := 0) (C := 0) (zs := []) (Nat.le_refl _) (by simp [maxLen]) (Nat.le_refl _) (fun _ => rfl) (fun a ha => by cases ha) (fun n hn => by cases hn)
    exact ⟨_, hb.2, .ro hb⟩
  · have hv := (List.cons.inj hv).1
    cases hv
    simp only [if_true] at hz
    have hb := bysAt_of (w := w) (A := some a') (zs := zs) hl hm (by omega) (fun ha => by cases ha) (fun a' ha i hi => by cases ha; exact hcell i (by omega)) hw
    exact ⟨_, hb.2, .ro hb⟩
end
end Go.Proofs.Ytcolpjpppdmanaa
/-
  The facts on this seat's table of types, by program. No condition.
-/
namespace Go.Proofs.Ytcolpjpppdmanaa
open Go Go.RowKit
theorem info1 : (Try.prog.info? 1).map (fun i => (i.zero, i.size, i.bytes)) = some (some (.nilFunc), 1, 8) := by kernel_rfl
instance : TCell Try.prog 1 := ⟨⟨_, Try.underlying1, rfl⟩, let ⟨i, h, _, h2, _⟩ := info_parts info1; ⟨i, h, h2⟩⟩
instance : TElem Try.prog 1 (.nilFunc) 8 := ⟨let ⟨i, h, h1, h2, h3⟩ := info_parts info1; ⟨i, h, h2, h1, h3⟩, by decide⟩
instance : TKind Try.prog 2 .i64 := ⟨Try.underlying2⟩
theorem info2 : (Try.prog.info? 2).map (fun i => (i.zero, i.size, i.bytes)) = some (some (.int .i64 0), 1, 8) := by kernel_rfl
instance : TCell Try.prog 2 := ⟨⟨_, Try.underlying2, rfl⟩, let ⟨i, h, _, h2, _⟩ := info_parts info2; ⟨i, h, h2⟩⟩
instance : TElem Try.prog 2 (.int .i64 0) 8 := ⟨let ⟨i, h, h1, h2, h3⟩ := info_parts info2; ⟨i, h, h2, h1, h3⟩, by decide⟩
instance : TKind Try.prog 3 .i64 := ⟨Try.underlying3⟩
theorem info3 : (Try.prog.info? 3).map (fun i => (i.zero, i.size, i.bytes)) = some (some (.int .i64 0), 1, 8) := by kernel_rfl
instance : TCell Try.prog 3 := ⟨⟨_, Try.underlying3, rfl⟩, let ⟨i, h, _, h2, _⟩ := info_parts info3; ⟨i, h, h2⟩⟩
instance : TElem Try.prog 3 (.int .i64 0) 8 := ⟨let ⟨i, h, h1, h2, h3⟩ := info_parts info3; ⟨i, h, h2, h1, h3⟩, by decide⟩
instance : TBool Try.prog 4 := ⟨Try.underlying4⟩
theorem info4 : (Try.prog.info? 4).map (fun i => (i.zero, i.size, i.bytes)) = some (some (.bool false), 1, 1) := by kernel_rfl
instance : TCell Try.prog 4 := ⟨⟨_, Try.underlying4, rfl⟩, let ⟨i, h, _, h2, _⟩ := info_parts info4; ⟨i, h, h2⟩⟩
instance : TElem Try.prog 4 (.bool false) 1 := ⟨let ⟨i, h, h1, h2, h3⟩ := info_parts info4; ⟨i, h, h2, h1, h3⟩, by decide⟩
instance : TKind Try.prog 5 .u8 := ⟨Try.underlying5⟩
theorem info5 : (Try.prog.info? 5).map (fun i => (i.zero, i.size, i.bytes)) = some (some (.int .u8 0), 1, 1) := by kernel_rfl
instance : TCell Try.prog 5 := ⟨⟨_, Try.underlying5, rfl⟩, let ⟨i, h, _, h2, _⟩ := info_parts info5; ⟨i, h, h2⟩⟩
instance : TElem Try.prog 5 (.int .u8 0) 1 := ⟨let ⟨i, h, h1, h2, h3⟩ := info_parts info5; ⟨i, h, h2, h1, h3⟩, by decide⟩
instance : TKind Try.prog 6 .u8 := ⟨Try.underlying6⟩
theorem info6 : (Try.prog.info? 6).map (fun i => (i.zero, i.size, i.bytes)) = some (some (.int .u8 0), 1, 1) := by kernel_rfl
instance : TCell Try.prog 6 := ⟨⟨_, Try.underlying6, rfl⟩, let ⟨i, h, _, h2, _⟩ := info_parts info6; ⟨i, h, h2⟩⟩
instance : TElem Try.prog 6 (.int .u8 0) 1 := ⟨let ⟨i, h, h1, h2, h3⟩ := info_parts info6; ⟨i, h, h2, h1, h3⟩, by decide⟩
instance : TStr Try.prog 9 := ⟨Try.underlying9⟩
theorem info9 : (Try.prog.info? 9).map (fun i => (i.zero, i.size, i.bytes)) = some (some (.string ⟨#[]⟩), 1, 16) := by kernel_rfl
instance : TCell Try.prog 9 := ⟨⟨_, Try.underlying9, rfl⟩, let ⟨i, h, _, h2, _⟩ := info_parts info9; ⟨i, h, h2⟩⟩
instance : TElem Try.prog 9 (.string ⟨#[]⟩) 16 := ⟨let ⟨i, h, h1, h2, h3⟩ := info_parts info9; ⟨i, h, h2, h1, h3⟩, by decide⟩
instance : TStr Try.prog 10 := ⟨Try.underlying10⟩
theorem info10 : (Try.prog.info? 10).map (fun i => (i.zero, i.size, i.bytes)) = some (some (.string ⟨#[]⟩), 1, 16) := by kernel_rfl
instance : TCell Try.prog 10 := ⟨⟨_, Try.underlying10, rfl⟩, let ⟨i, h, _, h2, _⟩ := info_parts info10; ⟨i, h, h2⟩⟩
instance : TElem Try.prog 10 (.string ⟨#[]⟩) 16 := ⟨let ⟨i, h, h1, h2, h3⟩ := info_parts info10; ⟨i, h, h2, h1, h3⟩, by decide⟩
instance : TStr Try.prog 11 := ⟨Try.underlying11⟩
theorem info11 : (Try.prog.info? 11).map (fun i => (i.zero, i.size, i.bytes)) = some (some (.string ⟨#[]⟩), 1, 16) := by kernel_rfl
instance : TCell Try.prog 11 := ⟨⟨_, Try.underlying11, rfl⟩, let ⟨i, h, _, h2, _⟩ := info_parts info11; ⟨i, h, h2⟩⟩
instance : TElem Try.prog 11 (.string ⟨#[]⟩) 16 := ⟨let ⟨i, h, h1, h2, h3⟩ := info_parts info11; ⟨i, h, h2, h1, h3⟩, by decide⟩
instance : TKind Try.prog 12 .u64 := ⟨Try.underlying12⟩
theorem info12 : (Try.prog.info? 12).map (fun i => (i.zero, i.size, i.bytes)) = some (some (.int .u64 0), 1, 8) := by kernel_rfl
instance : TCell Try.prog 12 := ⟨⟨_, Try.underlying12, rfl⟩, let ⟨i, h, _, h2, _⟩ := info_parts info12; ⟨i, h, h2⟩⟩
instance : TElem Try.prog 12 (.int .u64 0) 8 := ⟨let ⟨i, h, h1, h2, h3⟩ := info_parts info12; ⟨i, h, h2, h1, h3⟩, by decide⟩
theorem info15 : (Try.prog.info? 15).map (fun i => (i.zero, i.size, i.bytes)) = some (some (.pointer none), 1, 8) := by kernel_rfl
instance : TCell Try.prog 15 := ⟨⟨_, Try.underlying15, rfl⟩, let ⟨i, h, _, h2, _⟩ := info_parts info15; ⟨i, h, h2⟩⟩
instance : TElem Try.prog 15 (.pointer none) 8 := ⟨let ⟨i, h, h1, h2, h3⟩ := info_parts info15; ⟨i, h, h2, h1, h3⟩, by decide⟩
theorem info16 : (Try.prog.info? 16).map (fun i => (i.zero, i.size, i.bytes)) = some (some (.pointer none), 1, 8) := by kernel_rfl
instance : TCell Try.prog 16 := ⟨⟨_, Try.underlying16, rfl⟩, let ⟨i, h, _, h2, _⟩ := info_parts info16; ⟨i, h, h2⟩⟩
instance : TElem Try.prog 16 (.pointer none) 8 := ⟨let ⟨i, h, h1, h2, h3⟩ := info_parts info16; ⟨i, h, h2, h1, h3⟩, by decide⟩
theorem info17 : (Try.prog.info? 17).map (fun i => (i.zero, i.size, i.bytes)) = some (some (.pointer none), 1, 8) := by kernel_rfl
instance : TCell Try.prog 17 := ⟨⟨_, Try.underlying17, rfl⟩, let ⟨i, h, _, h2, _⟩ := info_parts info17; ⟨i, h, h2⟩⟩
instance : TElem Try.prog 17 (.pointer none) 8 := ⟨let ⟨i, h, h1, h2, h3⟩ := info_parts info17; ⟨i, h, h2, h1, h3⟩, by decide⟩
instance : TKind Try.prog 21 .i32 := ⟨Try.underlying21⟩
theorem info21 : (Try.prog.info? 21).map (fun i => (i.zero, i.size, i.bytes)) = some (some (.int .i32 0), 1, 4) := by kernel_rfl
instance : TCell Try.prog 21 := ⟨⟨_, Try.underlying21, rfl⟩, let ⟨i, h, _, h2, _⟩ := info_parts info21; ⟨i, h, h2⟩⟩
instance : TElem Try.prog 21 (.int .i32 0) 4 := ⟨let ⟨i, h, h1, h2, h3⟩ := info_parts info21; ⟨i, h, h2, h1, h3⟩, by decide⟩
instance : TSlice Try.prog 22 5 := ⟨Try.underlying22⟩
theorem info22 : (Try.prog.info? 22).map (fun i => (i.zero, i.size, i.bytes)) = some (some (.slice none 0 0), 1, 24) := by kernel_rfl
instance : TCell Try.prog 22 := ⟨⟨_, Try.underlying22, rfl⟩, let ⟨i, h, _, h2, _⟩ := info_parts info22; ⟨i, h, h2⟩⟩
instance : TElem Try.prog 22 (.slice none 0 0) 24 := ⟨let ⟨i, h, h1, h2, h3⟩ := info_parts info22; ⟨i, h, h2, h1, h3⟩, by decide⟩
theorem info23 : (Try.prog.info? 23).map (fun i => (i.zero, i.size, i.bytes)) = some (some (.nilFunc), 1, 8) := by kernel_rfl
instance : TCell Try.prog 23 := ⟨⟨_, Try.underlying23, rfl⟩, let ⟨i, h, _, h2, _⟩ := info_parts info23; ⟨i, h, h2⟩⟩
instance : TElem Try.prog 23 (.nilFunc) 8 := ⟨let ⟨i, h, h1, h2, h3⟩ := info_parts info23; ⟨i, h, h2, h1, h3⟩, by decide⟩
instance : TSlice Try.prog 24 2 := ⟨Try.underlying24⟩
theorem info24 : (Try.prog.info? 24).map (fun i => (i.zero, i.size, i.bytes)) = some (some (.slice none 0 0), 1, 24) := by kernel_rfl
instance : TCell Try.prog 24 := ⟨⟨_, Try.underlying24, rfl⟩, let ⟨i, h, _, h2, _⟩ := info_parts info24; ⟨i, h, h2⟩⟩
instance : TElem Try.prog 24 (.slice none 0 0) 24 := ⟨let ⟨i, h, h1, h2, h3⟩ := info_parts info24; ⟨i, h, h2, h1, h3⟩, by decide⟩
theorem info25 : (Try.prog.info? 25).map (fun i => (i.zero, i.size, i.bytes)) = some (some (.nilFunc), 1, 8) := by kernel_rfl
instance : TCell Try.prog 25 := ⟨⟨_, Try.underlying25, rfl⟩, let ⟨i, h, _, h2, _⟩ := info_parts info25; ⟨i, h, h2⟩⟩
instance : TElem Try.prog 25 (.nilFunc) 8 := ⟨let ⟨i, h, h1, h2, h3⟩ := info_parts info25; ⟨i, h, h2, h1, h3⟩, by decide⟩
theorem info27 : (Try.prog.info? 27).map (fun i => (i.zero, i.size, i.bytes)) = some (some (.nilFunc), 1, 8) := by kernel_rfl
instance : TCell Try.prog 27 := ⟨⟨_, Try.underlying27, rfl⟩, let ⟨i, h, _, h2, _⟩ := info_parts info27; ⟨i, h, h2⟩⟩
instance : TElem Try.prog 27 (.nilFunc) 8 := ⟨let ⟨i, h, h1, h2, h3⟩ := info_parts info27; ⟨i, h, h2, h1, h3⟩, by decide⟩
theorem info29 : (Try.prog.info? 29).map (fun i => (i.zero, i.size, i.bytes)) = some (some (.nilFunc), 1, 8) := by kernel_rfl
instance : TCell Try.prog 29 := ⟨⟨_, Try.underlying29, rfl⟩, let ⟨i, h, _, h2, _⟩ := info_parts info29; ⟨i, h, h2⟩⟩
instance : TElem Try.prog 29 (.nilFunc) 8 := ⟨let ⟨i, h, h1, h2, h3⟩ := info_parts info29; ⟨i, h, h2, h1, h3⟩, by decide⟩
instance : TSlice Try.prog 30 24 := ⟨Try.underlying30⟩
theorem info30 : (Try.prog.info? 30).map (fun i => (i.zero, i.size, i.bytes)) = some (some (.slice none 0 0), 1, 24) := by kernel_rfl
instance : TCell Try.prog 30 := ⟨⟨_, Try.underlying30, rfl⟩, let ⟨i, h, _, h2, _⟩ := info_parts info30; ⟨i, h, h2⟩⟩
instance : TElem Try.prog 30 (.slice none 0 0) 24 := ⟨let ⟨i, h, h1, h2, h3⟩ := info_parts info30; ⟨i, h, h2, h1, h3⟩, by decide⟩
theorem info31 : (Try.prog.info? 31).map (fun i => (i.zero, i.size, i.bytes)) = some (some (.agg [.slice none 0 0, .slice none 0 0].toArray), 2, 48) := by kernel_rfl
instance : TStruct Try.prog 31 2 [.slice none 0 0, .slice none 0 0] := ⟨⟨_, Try.underlying31, rfl⟩, let ⟨i, h, h1, h2, _⟩ := info_parts info31; ⟨i, h, h2, h1, rfl⟩⟩
instance : TBuild Try.prog 31 2 [.slice none 0 0, .slice none 0 0] := .str (let ⟨i, h, h1, _, _⟩ := info_parts info31; ⟨i, h, h1, rfl⟩) ⟨_, Try.underlying31, by kernel_rfl⟩
instance : TField Try.prog 31 0 0 := ⟨let ⟨i, h, _, h2, _⟩ := info_parts info24; ⟨_, _, i, Try.underlying31, rfl, rfl, h, h2, _, Try.underlying24, rfl⟩⟩
instance : TField Try.prog 31 1 1 := ⟨let ⟨i, h, _, h2, _⟩ := info_parts info30; ⟨_, _, i, Try.underlying31, rfl, rfl, h, h2, _, Try.underlying30, rfl⟩⟩
theorem info32 : (Try.prog.info? 32).map (fun i => (i.zero, i.size, i.bytes)) = some (some (.agg [.slice none 0 0, .slice none 0 0].toArray), 2, 48) := by kernel_rfl
instance : TStruct Try.prog 32 2 [.slice none 0 0, .slice none 0 0] := ⟨⟨_, Try.underlying32, rfl⟩, let ⟨i, h, h1, h2, _⟩ := info_parts info32; ⟨i, h, h2, h1, rfl⟩⟩
instance : TBuild Try.prog 32 2 [.slice none 0 0, .slice none 0 0] := .str (let ⟨i, h, h1, _, _⟩ := info_parts info32; ⟨i, h, h1, rfl⟩) ⟨_, Try.underlying32, by kernel_rfl⟩
instance : TField Try.prog 32 0 0 := ⟨let ⟨i, h, _, h2, _⟩ := info_parts info24; ⟨_, _, i, Try.underlying32, rfl, rfl, h, h2, _, Try.underlying24, rfl⟩⟩
instance : TField Try.prog 32 1 1 := ⟨let ⟨i, h, _, h2, _⟩ := info_parts info30; ⟨_, _, i, Try.underlying32, rfl, rfl, h, h2, _, Try.underlying30, rfl⟩⟩
theorem info34 : (Try.prog.info? 34).map (fun i => (i.zero, i.size, i.bytes)) = some (some (.nilFunc), 1, 8) := by kernel_rfl
instance : TCell Try.prog 34 := ⟨⟨_, Try.underlying34, rfl⟩, let ⟨i, h, _, h2, _⟩ := info_parts info34; ⟨i, h, h2⟩⟩
instance : TElem Try.prog 34 (.nilFunc) 8 := ⟨let ⟨i, h, h1, h2, h3⟩ := info_parts info34; ⟨i, h, h2, h1, h3⟩, by decide⟩
theorem info35 : (Try.prog.info? 35).map (fun i => (i.zero, i.size, i.bytes)) = some (some (.nilFunc), 1, 8) := by kernel_rfl
instance : TCell Try.prog 35 := ⟨⟨_, Try.underlying35, rfl⟩, let ⟨i, h, _, h2, _⟩ := info_parts info35; ⟨i, h, h2⟩⟩
instance : TElem Try.prog 35 (.nilFunc) 8 := ⟨let ⟨i, h, h1, h2, h3⟩ := info_parts info35; ⟨i, h, h2, h1, h3⟩, by decide⟩
theorem info36 : (Try.prog.info? 36).map (fun i => (i.zero, i.size, i.bytes)) = some (some (.nilFunc), 1, 8) := by kernel_rfl
instance : TCell Try.prog 36 := ⟨⟨_, Try.underlying36, rfl⟩, let ⟨i, h, _, h2, _⟩ := info_parts info36; ⟨i, h, h2⟩⟩
instance : TElem Try.prog 36 (.nilFunc) 8 := ⟨let ⟨i, h, h1, h2, h3⟩ := info_parts info36; ⟨i, h, h2, h1, h3⟩, by decide⟩
theorem info38 : (Try.prog.info? 38).map (fun i => (i.zero, i.size, i.bytes)) = some (some (.nilFunc), 1, 8) := by kernel_rfl
instance : TCell Try.prog 38 := ⟨⟨_, Try.underlying38, rfl⟩, let ⟨i, h, _, h2, _⟩ := info_parts info38; ⟨i, h, h2⟩⟩
instance : TElem Try.prog 38 (.nilFunc) 8 := ⟨let ⟨i, h, h1, h2, h3⟩ := info_parts info38; ⟨i, h, h2, h1, h3⟩, by decide⟩
theorem info39 : (Try.prog.info? 39).map (fun i => (i.zero, i.size, i.bytes)) = some (some (.nilFunc), 1, 8) := by kernel_rfl
instance : TCell Try.prog 39 := ⟨⟨_, Try.underlying39, rfl⟩, let ⟨i, h, _, h2, _⟩ := info_parts info39; ⟨i, h, h2⟩⟩
instance : TElem Try.prog 39 (.nilFunc) 8 := ⟨let ⟨i, h, h1, h2, h3⟩ := info_parts info39; ⟨i, h, h2, h1, h3⟩, by decide⟩
theorem info40 : (Try.prog.info? 40).map (fun i => (i.zero, i.size, i.bytes)) = some (some (.pointer none), 1, 8) := by kernel_rfl
instance : TCell Try.prog 40 := ⟨⟨_, Try.underlying40, rfl⟩, let ⟨i, h, _, h2, _⟩ := info_parts info40; ⟨i, h, h2⟩⟩
instance : TElem Try.prog 40 (.pointer none) 8 := ⟨let ⟨i, h, h1, h2, h3⟩ := info_parts info40; ⟨i, h, h2, h1, h3⟩, by decide⟩
theorem info41 : (Try.prog.info? 41).map (fun i => (i.zero, i.size, i.bytes)) = some (some (.nilFunc), 1, 8) := by kernel_rfl
instance : TCell Try.prog 41 := ⟨⟨_, Try.underlying41, rfl⟩, let ⟨i, h, _, h2, _⟩ := info_parts info41; ⟨i, h, h2⟩⟩
instance : TElem Try.prog 41 (.nilFunc) 8 := ⟨let ⟨i, h, h1, h2, h3⟩ := info_parts info41; ⟨i, h, h2, h1, h3⟩, by decide⟩
theorem info42 : (Try.prog.info? 42).map (fun i => (i.zero, i.size, i.bytes)) = some (some (.nilFunc), 1, 8) := by kernel_rfl
instance : TCell Try.prog 42 := ⟨⟨_, Try.underlying42, rfl⟩, let ⟨i, h, _, h2, _⟩ := info_parts info42; ⟨i, h, h2⟩⟩
instance : TElem Try.prog 42 (.nilFunc) 8 := ⟨let ⟨i, h, h1, h2, h3⟩ := info_parts info42; ⟨i, h, h2, h1, h3⟩, by decide⟩
theorem info43 : (Try.prog.info? 43).map (fun i => (i.zero, i.size, i.bytes)) = some (some (.nilFunc), 1, 8) := by kernel_rfl
instance : TCell Try.prog 43 := ⟨⟨_, Try.underlying43, rfl⟩, let ⟨i, h, _, h2, _⟩ := info_parts info43; ⟨i, h, h2⟩⟩
instance : TElem Try.prog 43 (.nilFunc) 8 := ⟨let ⟨i, h, h1, h2, h3⟩ := info_parts info43; ⟨i, h, h2, h1, h3⟩, by decide⟩
theorem info44 : (Try.prog.info? 44).map (fun i => (i.zero, i.size, i.bytes)) = some (some (.nilFunc), 1, 8) := by kernel_rfl
instance : TCell Try.prog 44 := ⟨⟨_, Try.underlying44, rfl⟩, let ⟨i, h, _, h2, _⟩ := info_parts info44; ⟨i, h, h2⟩⟩
instance : TElem Try.prog 44 (.nilFunc) 8 := ⟨let ⟨i, h, h1, h2, h3⟩ := info_parts info44; ⟨i, h, h2, h1, h3⟩, by decide⟩
theorem info45 : (Try.prog.info? 45).map (fun i => (i.zero, i.size, i.bytes)) = some (some (.nilFunc), 1, 8) := by kernel_rfl
instance : TCell Try.prog 45 := ⟨⟨_, Try.underlying45, rfl⟩, let ⟨i, h, _, h2, _⟩ := info_parts info45; ⟨i, h, h2⟩⟩
instance : TElem Try.prog 45 (.nilFunc) 8 := ⟨let ⟨i, h, h1, h2, h3⟩ := info_parts info45; ⟨i, h, h2, h1, h3⟩, by decide⟩
theorem info46 : (Try.prog.info? 46).map (fun i => (i.zero, i.size, i.bytes)) = some (some (.nilFunc), 1, 8) := by kernel_rfl
instance : TCell Try.prog 46 := ⟨⟨_, Try.underlying46, rfl⟩, let ⟨i, h, _, h2, _⟩ := info_parts info46; ⟨i, h, h2⟩⟩
instance : TElem Try.prog 46 (.nilFunc) 8 := ⟨let ⟨i, h, h1, h2, h3⟩ := info_parts info46; ⟨i, h, h2, h1, h3⟩, by decide⟩
theorem info47 : (Try.prog.info? 47).map (fun i => (i.zero, i.size, i.bytes)) = some (some (.nilFunc), 1, 8) := by kernel_rfl
instance : TCell Try.prog 47 := ⟨⟨_, Try.underlying47, rfl⟩, let ⟨i, h, _, h2, _⟩ := info_parts info47; ⟨i, h, h2⟩⟩
instance : TElem Try.prog 47 (.nilFunc) 8 := ⟨let ⟨i, h, h1, h2, h3⟩ := info_parts info47; ⟨i, h, h2, h1, h3⟩, by decide⟩
theorem info49 : (Try.prog.info? 49).map (fun i => (i.zero, i.size, i.bytes)) = some (some (.nilFunc), 1, 8) := by kernel_rfl
instance : TCell Try.prog 49 := ⟨⟨_, Try.underlying49, rfl⟩, let ⟨i, h, _, h2, _⟩ := info_parts info49; ⟨i, h, h2⟩⟩
instance : TElem Try.prog 49 (.nilFunc) 8 := ⟨let ⟨i, h, h1, h2, h3⟩ := info_parts info49; ⟨i, h, h2, h1, h3⟩, by decide⟩
theorem info50 : (Try.prog.info? 50).map (fun i => (i.zero, i.size, i.bytes)) = some (some (.nilFunc), 1, 8) := by kernel_rfl
instance : TCell Try.prog 50 := ⟨⟨_, Try.underlying50, rfl⟩, let ⟨i, h, _, h2, _⟩ := info_parts info50; ⟨i, h, h2⟩⟩
instance : TElem Try.prog 50 (.nilFunc) 8 := ⟨let ⟨i, h, h1, h2, h3⟩ := info_parts info50; ⟨i, h, h2, h1, h3⟩, by decide⟩
theorem info51 : (Try.prog.info? 51).map (fun i => (i.zero, i.size, i.bytes)) = some (some (.nilFunc), 1, 8) := by kernel_rfl
instance : TCell Try.prog 51 := ⟨⟨_, Try.underlying51, rfl⟩, let ⟨i, h, _, h2, _⟩ := info_parts info51; ⟨i, h, h2⟩⟩
instance : TElem Try.prog 51 (.nilFunc) 8 := ⟨let ⟨i, h, h1, h2, h3⟩ := info_parts info51; ⟨i, h, h2, h1, h3⟩, by decide⟩
theorem info52 : (Try.prog.info? 52).map (fun i => (i.zero, i.size, i.bytes)) = some (some (.nilFunc), 1, 8) := by kernel_rfl
instance : TCell Try.prog 52 := ⟨⟨_, Try.underlying52, rfl⟩, let ⟨i, h, _, h2, _⟩ := info_parts info52; ⟨i, h, h2⟩⟩
instance : TElem Try.prog 52 (.nilFunc) 8 := ⟨let ⟨i, h, h1, h2, h3⟩ := info_parts info52; ⟨i, h, h2, h1, h3⟩, by decide⟩
theorem info53 : (Try.prog.info? 53).map (fun i => (i.zero, i.size, i.bytes)) = some (some (.nilFunc), 1, 8) := by kernel_rfl
instance : TCell Try.prog 53 := ⟨⟨_, Try.underlying53, rfl⟩, let ⟨i, h, _, h2, _⟩ := info_parts info53; ⟨i, h, h2⟩⟩
instance : TElem Try.prog 53 (.nilFunc) 8 := ⟨let ⟨i, h, h1, h2, h3⟩ := info_parts info53; ⟨i, h, h2, h1, h3⟩, by decide⟩
theorem info54 : (Try.prog.info? 54).map (fun i => (i.zero, i.size, i.bytes)) = some (some (.nilFunc), 1, 8) := by kernel_rfl
instance : TCell Try.prog 54 := ⟨⟨_, Try.underlying54, rfl⟩, let ⟨i, h, _, h2, _⟩ := info_parts info54; ⟨i, h, h2⟩⟩
instance : TElem Try.prog 54 (.nilFunc) 8 := ⟨let ⟨i, h, h1, h2, h3⟩ := info_parts info54; ⟨i, h, h2, h1, h3⟩, by decide⟩
instance : TKind Try.prog 55 .u64 := ⟨Try.underlying55⟩
theorem info55 : (Try.prog.info? 55).map (fun i => (i.zero, i.size, i.bytes)) = some (some (.int .u64 0), 1, 8) := by kernel_rfl
instance : TCell Try.prog 55 := ⟨⟨_, Try.underlying55, rfl⟩, let ⟨i, h, _, h2, _⟩ := info_parts info55; ⟨i, h, h2⟩⟩
instance : TElem Try.prog 55 (.int .u64 0) 8 := ⟨let ⟨i, h, h1, h2, h3⟩ := info_parts info55; ⟨i, h, h2, h1, h3⟩, by decide⟩
theorem info56 : (Try.prog.info? 56).map (fun i => (i.zero, i.size, i.bytes)) = some (some (.agg [.slice none 0 0, .int .i64 0, .int .u64 0].toArray), 3, 40) := by kernel_rfl
instance : TStruct Try.prog 56 3 [.slice none 0 0, .int .i64 0, .int .u64 0] := ⟨⟨_, Try.underlying56, rfl⟩, let ⟨i, h, h1, h2, _⟩ := info_parts info56; ⟨i, h, h2, h1, rfl⟩⟩
instance : TBuild Try.prog 56 3 [.slice none 0 0, .int .i64 0, .int .u64 0] := .str (let ⟨i, h, h1, _, _⟩ := info_parts info56; ⟨i, h, h1, rfl⟩) ⟨_, Try.underlying56, by kernel_rfl⟩
instance : TField Try.prog 56 0 0 := ⟨let ⟨i, h, _, h2, _⟩ := info_parts info22; ⟨_, _, i, Try.underlying56, rfl, rfl, h, h2, _, Try.underlying22, rfl⟩⟩
instance : TField Try.prog 56 1 1 := ⟨let ⟨i, h, _, h2, _⟩ := info_parts info3; ⟨_, _, i, Try.underlying56, rfl, rfl, h, h2, _, Try.underlying3, rfl⟩⟩
instance : TField Try.prog 56 2 2 := ⟨let ⟨i, h, _, h2, _⟩ := info_parts info55; ⟨_, _, i, Try.underlying56, rfl, rfl, h, h2, _, Try.underlying55, rfl⟩⟩
theorem info57 : (Try.prog.info? 57).map (fun i => (i.zero, i.size, i.bytes)) = some (some (.agg [.slice none 0 0, .int .i64 0, .int .u64 0].toArray), 3, 40) := by kernel_rfl
instance : TStruct Try.prog 57 3 [.slice none 0 0, .int .i64 0, .int .u64 0] := ⟨⟨_, Try.underlying57, rfl⟩, let ⟨i, h, h1, h2, _⟩ := info_parts info57; ⟨i, h, h2, h1, rfl⟩⟩
instance : TBuild Try.prog 57 3 [.slice none 0 0, .int .i64 0, .int .u64 0] := .str (let ⟨i, h, h1, _, _⟩ := info_parts info57; ⟨i, h, h1, rfl⟩) ⟨_, Try.underlying57, by kernel_rfl⟩
instance : TField Try.prog 57 0 0 := ⟨let ⟨i, h, _, h2, _⟩ := info_parts info22; ⟨_, _, i, Try.underlying57, rfl, rfl, h, h2, _, Try.underlying22, rfl⟩⟩
instance : TField Try.prog 57 1 1 := ⟨let ⟨i, h, _, h2, _⟩ := info_parts info3; ⟨_, _, i, Try.underlying57, rfl, rfl, h, h2, _, Try.underlying3, rfl⟩⟩
instance : TField Try.prog 57 2 2 := ⟨let ⟨i, h, _, h2, _⟩ := info_parts info55; ⟨_, _, i, Try.underlying57, rfl, rfl, h, h2, _, Try.underlying55, rfl⟩⟩
instance : TKind Try.prog 58 .u64 := ⟨Try.underlying58⟩
theorem info58 : (Try.prog.info? 58).map (fun i => (i.zero, i.size, i.bytes)) = some (some (.int .u64 0), 1, 8) := by kernel_rfl
instance : TCell Try.prog 58 := ⟨⟨_, Try.underlying58, rfl⟩, let ⟨i, h, _, h2, _⟩ := info_parts info58; ⟨i, h, h2⟩⟩
instance : TElem Try.prog 58 (.int .u64 0) 8 := ⟨let ⟨i, h, h1, h2, h3⟩ := info_parts info58; ⟨i, h, h2, h1, h3⟩, by decide⟩
theorem info59 : (Try.prog.info? 59).map (fun i => (i.zero, i.size, i.bytes)) = some (some (.nilFunc), 1, 8) := by kernel_rfl
instance : TCell Try.prog 59 := ⟨⟨_, Try.underlying59, rfl⟩, let ⟨i, h, _, h2, _⟩ := info_parts info59; ⟨i, h, h2⟩⟩
instance : TElem Try.prog 59 (.nilFunc) 8 := ⟨let ⟨i, h, h1, h2, h3⟩ := info_parts info59; ⟨i, h, h2, h1, h3⟩, by decide⟩
theorem info60 : (Try.prog.info? 60).map (fun i => (i.zero, i.size, i.bytes)) = some (some (.nilFunc), 1, 8) := by kernel_rfl
instance : TCell Try.prog 60 := ⟨⟨_, Try.underlying60, rfl⟩, let ⟨i, h, _, h2, _⟩ := info_parts info60; ⟨i, h, h2⟩⟩
instance : TElem Try.prog 60 (.nilFunc) 8 := ⟨let ⟨i, h, h1, h2, h3⟩ := info_parts info60; ⟨i, h, h2, h1, h3⟩, by decide⟩
theorem info61 : (Try.prog.info? 61).map (fun i => (i.zero, i.size, i.bytes)) = some (some (.nilFunc), 1, 8) := by kernel_rfl
instance : TCell Try.prog 61 := ⟨⟨_, Try.underlying61, rfl⟩, let ⟨i, h, _, h2, _⟩ := info_parts info61; ⟨i, h, h2⟩⟩
instance : TElem Try.prog 61 (.nilFunc) 8 := ⟨let ⟨i, h, h1, h2, h3⟩ := info_parts info61; ⟨i, h, h2, h1, h3⟩, by decide⟩
theorem info62 : (Try.prog.info? 62).map (fun i => (i.zero, i.size, i.bytes)) = some (some (.nilFunc), 1, 8) := by kernel_rfl
instance : TCell Try.prog 62 := ⟨⟨_, Try.underlying62, rfl⟩, let ⟨i, h, _, h2, _⟩ := info_parts info62; ⟨i, h, h2⟩⟩
instance : TElem Try.prog 62 (.nilFunc) 8 := ⟨let ⟨i, h, h1, h2, h3⟩ := info_parts info62; ⟨i, h, h2, h1, h3⟩, by decide⟩
theorem info64 : (Try.prog.info? 64).map (fun i => (i.zero, i.size, i.bytes)) = some (some (.nilFunc), 1, 8) := by kernel_rfl
instance : TCell Try.prog 64 := ⟨⟨_, Try.underlying64, rfl⟩, let ⟨i, h, _, h2, _⟩ := info_parts info64; ⟨i, h, h2⟩⟩
instance : TElem Try.prog 64 (.nilFunc) 8 := ⟨let ⟨i, h, h1, h2, h3⟩ := info_parts info64; ⟨i, h, h2, h1, h3⟩, by decide⟩
theorem info65 : (Try.prog.info? 65).map (fun i => (i.zero, i.size, i.bytes)) = some (some (.nilFunc), 1, 8) := by kernel_rfl
instance : TCell Try.prog 65 := ⟨⟨_, Try.underlying65, rfl⟩, let ⟨i, h, _, h2, _⟩ := info_parts info65; ⟨i, h, h2⟩⟩
instance : TElem Try.prog 65 (.nilFunc) 8 := ⟨let ⟨i, h, h1, h2, h3⟩ := info_parts info65; ⟨i, h, h2, h1, h3⟩, by decide⟩
theorem info66 : (Try.prog.info? 66).map (fun i => (i.zero, i.size, i.bytes)) = some (some (.nilFunc), 1, 8) := by kernel_rfl
instance : TCell Try.prog 66 := ⟨⟨_, Try.underlying66, rfl⟩, let ⟨i, h, _, h2, _⟩ := info_parts info66; ⟨i, h, h2⟩⟩
instance : TElem Try.prog 66 (.nilFunc) 8 := ⟨let ⟨i, h, h1, h2, h3⟩ := info_parts info66; ⟨i, h, h2, h1, h3⟩, by decide⟩
theorem info68 : (Try.prog.info? 68).map (fun i => (i.zero, i.size, i.bytes)) = some (some (.nilFunc), 1, 8) := by kernel_rfl
instance : TCell Try.prog 68 := ⟨⟨_, Try.underlying68, rfl⟩, let ⟨i, h, _, h2, _⟩ := info_parts info68; ⟨i, h, h2⟩⟩
instance : TElem Try.prog 68 (.nilFunc) 8 := ⟨let ⟨i, h, h1, h2, h3⟩ := info_parts info68; ⟨i, h, h2, h1, h3⟩, by decide⟩
theorem info69 : (Try.prog.info? 69).map (fun i => (i.zero, i.size, i.bytes)) = some (some (.nilFunc), 1, 8) := by kernel_rfl
instance : TCell Try.prog 69 := ⟨⟨_, Try.underlying69, rfl⟩, let ⟨i, h, _, h2, _⟩ := info_parts info69; ⟨i, h, h2⟩⟩
instance : TElem Try.prog 69 (.nilFunc) 8 := ⟨let ⟨i, h, h1, h2, h3⟩ := info_parts info69; ⟨i, h, h2, h1, h3⟩, by decide⟩
theorem info70 : (Try.prog.info? 70).map (fun i => (i.zero, i.size, i.bytes)) = some (some (.nilFunc), 1, 8) := by kernel_rfl
instance : TCell Try.prog 70 := ⟨⟨_, Try.underlying70, rfl⟩, let ⟨i, h, _, h2, _⟩ := info_parts info70; ⟨i, h, h2⟩⟩
instance : TElem Try.prog 70 (.nilFunc) 8 := ⟨let ⟨i, h, h1, h2, h3⟩ := info_parts info70; ⟨i, h, h2, h1, h3⟩, by decide⟩
instance : TSlice Try.prog 71 4 := ⟨Try.underlying71⟩
theorem info71 : (Try.prog.info? 71).map (fun i => (i.zero, i.size, i.bytes)) = some (some (.slice none 0 0), 1, 24) := by kernel_rfl
instance : TCell Try.prog 71 := ⟨⟨_, Try.underlying71, rfl⟩, let ⟨i, h, _, h2, _⟩ := info_parts info71; ⟨i, h, h2⟩⟩
instance : TElem Try.prog 71 (.slice none 0 0) 24 := ⟨let ⟨i, h, h1, h2, h3⟩ := info_parts info71; ⟨i, h, h2, h1, h3⟩, by decide⟩
theorem info72 : (Try.prog.info? 72).map (fun i => (i.zero, i.size, i.bytes)) = some (some (.agg [.slice none 0 0, .slice none 0 0, .slice none 0 0, .slice none 0 0, .slice none 0 0, .bool false].toArray), 6, 128) := by kernel_rfl
instance : TStruct Try.prog 72 6 [.slice none 0 0, .slice none 0 0, .slice none 0 0, .slice none 0 0, .slice none 0 0, .bool false] := ⟨⟨_, Try.underlying72, rfl⟩, let ⟨i, h, h1, h2, _⟩ := info_parts info72; ⟨i, h, h2, h1, rfl⟩⟩
instance : TBuild Try.prog 72 6 [.slice none 0 0, .slice none 0 0, .slice none 0 0, .slice none 0 0, .slice none 0 0, .bool false] := .str (let ⟨i, h, h1, _, _⟩ := info_parts info72; ⟨i, h, h1, rfl⟩) ⟨_, Try.underlying72, by kernel_rfl⟩
instance : TField Try.prog 72 0 0 := ⟨let ⟨i, h, _, h2, _⟩ := info_parts info24; ⟨_, _, i, Try.underlying72, rfl, rfl, h, h2, _, Try.underlying24, rfl⟩⟩
instance : TField Try.prog 72 1 1 := ⟨let ⟨i, h, _, h2, _⟩ := info_parts info30; ⟨_, _, i, Try.underlying72, rfl, rfl, h, h2, _, Try.underlying30, rfl⟩⟩
instance : TField Try.prog 72 2 2 := ⟨let ⟨i, h, _, h2, _⟩ := info_parts info24; ⟨_, _, i, Try.underlying72, rfl, rfl, h, h2, _, Try.underlying24, rfl⟩⟩
instance : TField Try.prog 72 3 3 := ⟨let ⟨i, h, _, h2, _⟩ := info_parts info24; ⟨_, _, i, Try.underlying72, rfl, rfl, h, h2, _, Try.underlying24, rfl⟩⟩
instance : TField Try.prog 72 4 4 := ⟨let ⟨i, h, _, h2, _⟩ := info_parts info71; ⟨_, _, i, Try.underlying72, rfl, rfl, h, h2, _, Try.underlying71, rfl⟩⟩
instance : TField Try.prog 72 5 5 := ⟨let ⟨i, h, _, h2, _⟩ := info_parts info4; ⟨_, _, i, Try.underlying72, rfl, rfl, h, h2, _, Try.underlying4, rfl⟩⟩
theorem info73 : (Try.prog.info? 73).map (fun i => (i.zero, i.size, i.bytes)) = some (some (.agg [.slice none 0 0, .slice none 0 0, .slice none 0 0, .slice none 0 0, .slice none 0 0, .bool false].toArray), 6, 128) := by kernel_rfl
instance : TStruct Try.prog 73 6 [.slice none 0 0, .slice none 0 0, .slice none 0 0, .slice none 0 0, .slice none 0 0, .bool false] := ⟨⟨_, Try.underlying73, rfl⟩, let ⟨i, h, h1, h2, _⟩ := info_parts info73; ⟨i, h, h2, h1, rfl⟩⟩
instance : TBuild Try.prog 73 6 [.slice none 0 0, .slice none 0 0, .slice none 0 0, .slice none 0 0, .slice none 0 0, .bool false] := .str (let ⟨i, h, h1, _, _⟩ := info_parts info73; ⟨i, h, h1, rfl⟩) ⟨_, Try.underlying73, by kernel_rfl⟩
instance : TField Try.prog 73 0 0 := ⟨let ⟨i, h, _, h2, _⟩ := info_parts info24; ⟨_, _, i, Try.underlying73, rfl, rfl, h, h2, _, Try.underlying24, rfl⟩⟩
instance : TField Try.prog 73 1 1 := ⟨let ⟨i, h, _, h2, _⟩ := info_parts info30; ⟨_, _, i, Try.underlying73, rfl, rfl, h, h2, _, Try.underlying30, rfl⟩⟩
instance : TField Try.prog 73 2 2 := ⟨let ⟨i, h, _, h2, _⟩ := info_parts info24; ⟨_, _, i, Try.underlying73, rfl, rfl, h, h2, _, Try.underlying24, rfl⟩⟩
instance : TField Try.prog 73 3 3 := ⟨let ⟨i, h, _, h2, _⟩ := info_parts info24; ⟨_, _, i, Try.underlying73, rfl, rfl, h, h2, _, Try.underlying24, rfl⟩⟩
instance : TField Try.prog 73 4 4 := ⟨let ⟨i, h, _, h2, _⟩ := info_parts info71; ⟨_, _, i, Try.underlying73, rfl, rfl, h, h2, _, Try.underlying71, rfl⟩⟩
instance : TField Try.prog 73 5 5 := ⟨let ⟨i, h, _, h2, _⟩ := info_parts info4; ⟨_, _, i, Try.underlying73, rfl, rfl, h, h2, _, Try.underlying4, rfl⟩⟩
theorem info74 : (Try.prog.info? 74).map (fun i => (i.zero, i.size, i.bytes)) = some (some (.nilFunc), 1, 8) := by kernel_rfl
instance : TCell Try.prog 74 := ⟨⟨_, Try.underlying74, rfl⟩, let ⟨i, h, _, h2, _⟩ := info_parts info74; ⟨i, h, h2⟩⟩
instance : TElem Try.prog 74 (.nilFunc) 8 := ⟨let ⟨i, h, h1, h2, h3⟩ := info_parts info74; ⟨i, h, h2, h1, h3⟩, by decide⟩
theorem info75 : (Try.prog.info? 75).map (fun i => (i.zero, i.size, i.bytes)) = some (some (.nilFunc), 1, 8) := by kernel_rfl
instance : TCell Try.prog 75 := ⟨⟨_, Try.underlying75, rfl⟩, let ⟨i, h, _, h2, _⟩ := info_parts info75; ⟨i, h, h2⟩⟩
instance : TElem Try.prog 75 (.nilFunc) 8 := ⟨let ⟨i, h, h1, h2, h3⟩ := info_parts info75; ⟨i, h, h2, h1, h3⟩, by decide⟩
theorem info76 : (Try.prog.info? 76).map (fun i => (i.zero, i.size, i.bytes)) = some (some (.nilFunc), 1, 8) := by kernel_rfl
instance : TCell Try.prog 76 := ⟨⟨_, Try.underlying76, rfl⟩, let ⟨i, h, _, h2, _⟩ := info_parts info76; ⟨i, h, h2⟩⟩
instance : TElem Try.prog 76 (.nilFunc) 8 := ⟨let ⟨i, h, h1, h2, h3⟩ := info_parts info76; ⟨i, h, h2, h1, h3⟩, by decide⟩
theorem info77 : (Try.prog.info? 77).map (fun i => (i.zero, i.size, i.bytes)) = some (some (.nilFunc), 1, 8) := by kernel_rfl
instance : TCell Try.prog 77 := ⟨⟨_, Try.underlying77, rfl⟩, let ⟨i, h, _, h2, _⟩ := info_parts info77; ⟨i, h, h2⟩⟩
instance : TElem Try.prog 77 (.nilFunc) 8 := ⟨let ⟨i, h, h1, h2, h3⟩ := info_parts info77; ⟨i, h, h2, h1, h3⟩, by decide⟩
theorem info78 : (Try.prog.info? 78).map (fun i => (i.zero, i.size, i.bytes)) = some (some (.nilFunc), 1, 8) := by kernel_rfl
instance : TCell Try.prog 78 := ⟨⟨_, Try.underlying78, rfl⟩, let ⟨i, h, _, h2, _⟩ := info_parts info78; ⟨i, h, h2⟩⟩
instance : TElem Try.prog 78 (.nilFunc) 8 := ⟨let ⟨i, h, h1, h2, h3⟩ := info_parts info78; ⟨i, h, h2, h1, h3⟩, by decide⟩
theorem info79 : (Try.prog.info? 79).map (fun i => (i.zero, i.size, i.bytes)) = some (some (.nilFunc), 1, 8) := by kernel_rfl
instance : TCell Try.prog 79 := ⟨⟨_, Try.underlying79, rfl⟩, let ⟨i, h, _, h2, _⟩ := info_parts info79; ⟨i, h, h2⟩⟩
instance : TElem Try.prog 79 (.nilFunc) 8 := ⟨let ⟨i, h, h1, h2, h3⟩ := info_parts info79; ⟨i, h, h2, h1, h3⟩, by decide⟩
theorem info80 : (Try.prog.info? 80).map (fun i => (i.zero, i.size, i.bytes)) = some (some (.nilFunc), 1, 8) := by kernel_rfl
instance : TCell Try.prog 80 := ⟨⟨_, Try.underlying80, rfl⟩, let ⟨i, h, _, h2, _⟩ := info_parts info80; ⟨i, h, h2⟩⟩
instance : TElem Try.prog 80 (.nilFunc) 8 := ⟨let ⟨i, h, h1, h2, h3⟩ := info_parts info80; ⟨i, h, h2, h1, h3⟩, by decide⟩
theorem info81 : (Try.prog.info? 81).map (fun i => (i.zero, i.size, i.bytes)) = some (some (.nilFunc), 1, 8) := by kernel_rfl
instance : TCell Try.prog 81 := ⟨⟨_, Try.underlying81, rfl⟩, let ⟨i, h, _, h2, _⟩ := info_parts info81; ⟨i, h, h2⟩⟩
instance : TElem Try.prog 81 (.nilFunc) 8 := ⟨let ⟨i, h, h1, h2, h3⟩ := info_parts info81; ⟨i, h, h2, h1, h3⟩, by decide⟩
theorem info82 : (Try.prog.info? 82).map (fun i => (i.zero, i.size, i.bytes)) = some (some (.nilFunc), 1, 8) := by kernel_rfl
instance : TCell Try.prog 82 := ⟨⟨_, Try.underlying82, rfl⟩, let ⟨i, h, _, h2, _⟩ := info_parts info82; ⟨i, h, h2⟩⟩
instance : TElem Try.prog 82 (.nilFunc) 8 := ⟨let ⟨i, h, h1, h2, h3⟩ := info_parts info82; ⟨i, h, h2, h1, h3⟩, by decide⟩
theorem info83 : (Try.prog.info? 83).map (fun i => (i.zero, i.size, i.bytes)) = some (some (.pointer none), 1, 8) := by kernel_rfl
instance : TCell Try.prog 83 := ⟨⟨_, Try.underlying83, rfl⟩, let ⟨i, h, _, h2, _⟩ := info_parts info83; ⟨i, h, h2⟩⟩
instance : TElem Try.prog 83 (.pointer none) 8 := ⟨let ⟨i, h, h1, h2, h3⟩ := info_parts info83; ⟨i, h, h2, h1, h3⟩, by decide⟩
theorem info84 : (Try.prog.info? 84).map (fun i => (i.zero, i.size, i.bytes)) = some (some (.nilFunc), 1, 8) := by kernel_rfl
instance : TCell Try.prog 84 := ⟨⟨_, Try.underlying84, rfl⟩, let ⟨i, h, _, h2, _⟩ := info_parts info84; ⟨i, h, h2⟩⟩
instance : TElem Try.prog 84 (.nilFunc) 8 := ⟨let ⟨i, h, h1, h2, h3⟩ := info_parts info84; ⟨i, h, h2, h1, h3⟩, by decide⟩
theorem info85 : (Try.prog.info? 85).map (fun i => (i.zero, i.size, i.bytes)) = some (some (.nilFunc), 1, 8) := by kernel_rfl
instance : TCell Try.prog 85 := ⟨⟨_, Try.underlying85, rfl⟩, let ⟨i, h, _, h2, _⟩ := info_parts info85; ⟨i, h, h2⟩⟩
instance : TElem Try.prog 85 (.nilFunc) 8 := ⟨let ⟨i, h, h1, h2, h3⟩ := info_parts info85; ⟨i, h, h2, h1, h3⟩, by decide⟩
theorem info86 : (Try.prog.info? 86).map (fun i => (i.zero, i.size, i.bytes)) = some (some (.nilFunc), 1, 8) := by kernel_rfl
instance : TCell Try.prog 86 := ⟨⟨_, Try.underlying86, rfl⟩, let ⟨i, h, _, h2, _⟩ := info_parts info86; ⟨i, h, h2⟩⟩
instance : TElem Try.prog 86 (.nilFunc) 8 := ⟨let ⟨i, h, h1, h2, h3⟩ := info_parts info86; ⟨i, h, h2, h1, h3⟩, by decide⟩
theorem info87 : (Try.prog.info? 87).map (fun i => (i.zero, i.size, i.bytes)) = some (some (.nilFunc), 1, 8) := by kernel_rfl
instance : TCell Try.prog 87 := ⟨⟨_, Try.underlying87, rfl⟩, let ⟨i, h, _, h2, _⟩ := info_parts info87; ⟨i, h, h2⟩⟩
instance : TElem Try.prog 87 (.nilFunc) 8 := ⟨let ⟨i, h, h1, h2, h3⟩ := info_parts info87; ⟨i, h, h2, h1, h3⟩, by decide⟩
instance : TKind Try.prog 88 .i64 := ⟨Try.underlying88⟩
theorem info88 : (Try.prog.info? 88).map (fun i => (i.zero, i.size, i.bytes)) = some (some (.int .i64 0), 1, 8) := by kernel_rfl
instance : TCell Try.prog 88 := ⟨⟨_, Try.underlying88, rfl⟩, let ⟨i, h, _, h2, _⟩ := info_parts info88; ⟨i, h, h2⟩⟩
instance : TElem Try.prog 88 (.int .i64 0) 8 := ⟨let ⟨i, h, h1, h2, h3⟩ := info_parts info88; ⟨i, h, h2, h1, h3⟩, by decide⟩
theorem info90 : (Try.prog.info? 90).map (fun i => (i.zero, i.size, i.bytes)) = some (some (.nilFunc), 1, 8) := by kernel_rfl
instance : TCell Try.prog 90 := ⟨⟨_, Try.underlying90, rfl⟩, let ⟨i, h, _, h2, _⟩ := info_parts info90; ⟨i, h, h2⟩⟩
instance : TElem Try.prog 90 (.nilFunc) 8 := ⟨let ⟨i, h, h1, h2, h3⟩ := info_parts info90; ⟨i, h, h2, h1, h3⟩, by decide⟩
theorem info91 : (Try.prog.info? 91).map (fun i => (i.zero, i.size, i.bytes)) = some (some (.nilFunc), 1, 8) := by kernel_rfl
instance : TCell Try.prog 91 := ⟨⟨_, Try.underlying91, rfl⟩, let ⟨i, h, _, h2, _⟩ := info_parts info91; ⟨i, h, h2⟩⟩
instance : TElem Try.prog 91 (.nilFunc) 8 := ⟨let ⟨i, h, h1, h2, h3⟩ := info_parts info91; ⟨i, h, h2, h1, h3⟩, by decide⟩
theorem info92 : (Try.prog.info? 92).map (fun i => (i.zero, i.size, i.bytes)) = some (some (.nilFunc), 1, 8) := by kernel_rfl
instance : TCell Try.prog 92 := ⟨⟨_, Try.underlying92, rfl⟩, let ⟨i, h, _, h2, _⟩ := info_parts info92; ⟨i, h, h2⟩⟩
instance : TElem Try.prog 92 (.nilFunc) 8 := ⟨let ⟨i, h, h1, h2, h3⟩ := info_parts info92; ⟨i, h, h2, h1, h3⟩, by decide⟩
theorem info93 : (Try.prog.info? 93).map (fun i => (i.zero, i.size, i.bytes)) = some (some (.nilFunc), 1, 8) := by kernel_rfl
instance : TCell Try.prog 93 := ⟨⟨_, Try.underlying93, rfl⟩, let ⟨i, h, _, h2, _⟩ := info_parts info93; ⟨i, h, h2⟩⟩
instance : TElem Try.prog 93 (.nilFunc) 8 := ⟨let ⟨i, h, h1, h2, h3⟩ := info_parts info93; ⟨i, h, h2, h1, h3⟩, by decide⟩
theorem info95 : (Try.prog.info? 95).map (fun i => (i.zero, i.size, i.bytes)) = some (some (.nilFunc), 1, 8) := by kernel_rfl
instance : TCell Try.prog 95 := ⟨⟨_, Try.underlying95, rfl⟩, let ⟨i, h, _, h2, _⟩ := info_parts info95; ⟨i, h, h2⟩⟩
instance : TElem Try.prog 95 (.nilFunc) 8 := ⟨let ⟨i, h, h1, h2, h3⟩ := info_parts info95; ⟨i, h, h2, h1, h3⟩, by decide⟩
theorem info96 : (Try.prog.info? 96).map (fun i => (i.zero, i.size, i.bytes)) = some (some (.nilFunc), 1, 8) := by kernel_rfl
instance : TCell Try.prog 96 := ⟨⟨_, Try.underlying96, rfl⟩, let ⟨i, h, _, h2, _⟩ := info_parts info96; ⟨i, h, h2⟩⟩
instance : TElem Try.prog 96 (.nilFunc) 8 := ⟨let ⟨i, h, h1, h2, h3⟩ := info_parts info96; ⟨i, h, h2, h1, h3⟩, by decide⟩
instance : TKind Try.prog 97 .u32 := ⟨Try.underlying97⟩
theorem info97 : (Try.prog.info? 97).map (fun i => (i.zero, i.size, i.bytes)) = some (some (.int .u32 0), 1, 4) := by kernel_rfl
instance : TCell Try.prog 97 := ⟨⟨_, Try.underlying97, rfl⟩, let ⟨i, h, _, h2, _⟩ := info_parts info97; ⟨i, h, h2⟩⟩
instance : TElem Try.prog 97 (.int .u32 0) 4 := ⟨let ⟨i, h, h1, h2, h3⟩ := info_parts info97; ⟨i, h, h2, h1, h3⟩, by decide⟩
theorem info98 : (Try.prog.info? 98).map (fun i => (i.zero, i.size, i.bytes)) = some (some (.nilFunc), 1, 8) := by kernel_rfl
instance : TCell Try.prog 98 := ⟨⟨_, Try.underlying98, rfl⟩, let ⟨i, h, _, h2, _⟩ := info_parts info98; ⟨i, h, h2⟩⟩
instance : TElem Try.prog 98 (.nilFunc) 8 := ⟨let ⟨i, h, h1, h2, h3⟩ := info_parts info98; ⟨i, h, h2, h1, h3⟩, by decide⟩
instance : TKind Try.prog 99 .u64 := ⟨Try.underlying99⟩
theorem info99 : (Try.prog.info? 99).map (fun i => (i.zero, i.size, i.bytes)) = some (some (.int .u64 0), 1, 8) := by kernel_rfl
instance : TCell Try.prog 99 := ⟨⟨_, Try.underlying99, rfl⟩, let ⟨i, h, _, h2, _⟩ := info_parts info99; ⟨i, h, h2⟩⟩
instance : TElem Try.prog 99 (.int .u64 0) 8 := ⟨let ⟨i, h, h1, h2, h3⟩ := info_parts info99; ⟨i, h, h2, h1, h3⟩, by decide⟩
theorem info100 : (Try.prog.info? 100).map (fun i => (i.zero, i.size, i.bytes)) = some (some (.nilFunc), 1, 8) := by kernel_rfl
instance : TCell Try.prog 100 := ⟨⟨_, Try.underlying100, rfl⟩, let ⟨i, h, _, h2, _⟩ := info_parts info100; ⟨i, h, h2⟩⟩
instance : TElem Try.prog 100 (.nilFunc) 8 := ⟨let ⟨i, h, h1, h2, h3⟩ := info_parts info100; ⟨i, h, h2, h1, h3⟩, by decide⟩
theorem info101 : (Try.prog.info? 101).map (fun i => (i.zero, i.size, i.bytes)) = some (some (.nilFunc), 1, 8) := by kernel_rfl
instance : TCell Try.prog 101 := ⟨⟨_, Try.underlying101, rfl⟩, let ⟨i, h, _, h2, _⟩ := info_parts info101; ⟨i, h, h2⟩⟩
instance : TElem Try.prog 101 (.nilFunc) 8 := ⟨let ⟨i, h, h1, h2, h3⟩ := info_parts info101; ⟨i, h, h2, h1, h3⟩, by decide⟩
theorem info102 : (Try.prog.info? 102).map (fun i => (i.zero, i.size, i.bytes)) = some (some (.nilFunc), 1, 8) := by kernel_rfl
instance : TCell Try.prog 102 := ⟨⟨_, Try.underlying102, rfl⟩, let ⟨i, h, _, h2, _⟩ := info_parts info102; ⟨i, h, h2⟩⟩
instance : TElem Try.prog 102 (.nilFunc) 8 := ⟨let ⟨i, h, h1, h2, h3⟩ := info_parts info102; ⟨i, h, h2, h1, h3⟩, by decide⟩
theorem info103 : (Try.prog.info? 103).map (fun i => (i.zero, i.size, i.bytes)) = some (some (.pointer none), 1, 8) := by kernel_rfl
instance : TCell Try.prog 103 := ⟨⟨_, Try.underlying103, rfl⟩, let ⟨i, h, _, h2, _⟩ := info_parts info103; ⟨i, h, h2⟩⟩
instance : TElem Try.prog 103 (.pointer none) 8 := ⟨let ⟨i, h, h1, h2, h3⟩ := info_parts info103; ⟨i, h, h2, h1, h3⟩, by decide⟩
theorem info104 : (Try.prog.info? 104).map (fun i => (i.zero, i.size, i.bytes)) = some (some (.nilFunc), 1, 8) := by kernel_rfl
instance : TCell Try.prog 104 := ⟨⟨_, Try.underlying104, rfl⟩, let ⟨i, h, _, h2, _⟩ := info_parts info104; ⟨i, h, h2⟩⟩
instance : TElem Try.prog 104 (.nilFunc) 8 := ⟨let ⟨i, h, h1, h2, h3⟩ := info_parts info104; ⟨i, h, h2, h1, h3⟩, by decide⟩
theorem info105 : (Try.prog.info? 105).map (fun i => (i.zero, i.size, i.bytes)) = some (some (.pointer none), 1, 8) := by kernel_rfl
instance : TCell Try.prog 105 := ⟨⟨_, Try.underlying105, rfl⟩, let ⟨i, h, _, h2, _⟩ := info_parts info105; ⟨i, h, h2⟩⟩
instance : TElem Try.prog 105 (.pointer none) 8 := ⟨let ⟨i, h, h1, h2, h3⟩ := info_parts info105; ⟨i, h, h2, h1, h3⟩, by decide⟩
theorem info107 : (Try.prog.info? 107).map (fun i => (i.zero, i.size, i.bytes)) = some (some (.nilFunc), 1, 8) := by kernel_rfl
instance : TCell Try.prog 107 := ⟨⟨_, Try.underlying107, rfl⟩, let ⟨i, h, _, h2, _⟩ := info_parts info107; ⟨i, h, h2⟩⟩
instance : TElem Try.prog 107 (.nilFunc) 8 := ⟨let ⟨i, h, h1, h2, h3⟩ := info_parts info107; ⟨i, h, h2, h1, h3⟩, by decide⟩
theorem info108 : (Try.prog.info? 108).map (fun i => (i.zero, i.size, i.bytes)) = some (some (.nilFunc), 1, 8) := by kernel_rfl
instance : TCell Try.prog 108 := ⟨⟨_, Try.underlying108, rfl⟩, let ⟨i, h, _, h2, _⟩ := info_parts info108; ⟨i, h, h2⟩⟩
instance : TElem Try.prog 108 (.nilFunc) 8 := ⟨let ⟨i, h, h1, h2, h3⟩ := info_parts info108; ⟨i, h, h2, h1, h3⟩, by decide⟩
theorem info114 : (Try.prog.info? 114).map (fun i => (i.zero, i.size, i.bytes)) = some (some (.nilFunc), 1, 8) := by kernel_rfl
instance : TCell Try.prog 114 := ⟨⟨_, Try.underlying114, rfl⟩, let ⟨i, h, _, h2, _⟩ := info_parts info114; ⟨i, h, h2⟩⟩
instance : TElem Try.prog 114 (.nilFunc) 8 := ⟨let ⟨i, h, h1, h2, h3⟩ := info_parts info114; ⟨i, h, h2, h1, h3⟩, by decide⟩
instance : TKind Try.prog 115 .u8 := ⟨Try.underlying115⟩
theorem info115 : (Try.prog.info? 115).map (fun i => (i.zero, i.size, i.bytes)) = some (some (.int .u8 0), 1, 1) := by kernel_rfl
instance : TCell Try.prog 115 := ⟨⟨_, Try.underlying115, rfl⟩, let ⟨i, h, _, h2, _⟩ := info_parts info115; ⟨i, h, h2⟩⟩
instance : TElem Try.prog 115 (.int .u8 0) 1 := ⟨let ⟨i, h, h1, h2, h3⟩ := info_parts info115; ⟨i, h, h2, h1, h3⟩, by decide⟩
instance : TKind Try.prog 116 .u8 := ⟨Try.underlying116⟩
theorem info116 : (Try.prog.info? 116).map (fun i => (i.zero, i.size, i.bytes)) = some (some (.int .u8 0), 1, 1) := by kernel_rfl
instance : TCell Try.prog 116 := ⟨⟨_, Try.underlying116, rfl⟩, let ⟨i, h, _, h2, _⟩ := info_parts info116; ⟨i, h, h2⟩⟩
instance : TElem Try.prog 116 (.int .u8 0) 1 := ⟨let ⟨i, h, h1, h2, h3⟩ := info_parts info116; ⟨i, h, h2, h1, h3⟩, by decide⟩
theorem info117 : (Try.prog.info? 117).map (fun i => (i.zero, i.size, i.bytes)) = some (some (.nilFunc), 1, 8) := by kernel_rfl
instance : TCell Try.prog 117 := ⟨⟨_, Try.underlying117, rfl⟩, let ⟨i, h, _, h2, _⟩ := info_parts info117; ⟨i, h, h2⟩⟩
instance : TElem Try.prog 117 (.nilFunc) 8 := ⟨let ⟨i, h, h1, h2, h3⟩ := info_parts info117; ⟨i, h, h2, h1, h3⟩, by decide⟩
theorem info118 : (Try.prog.info? 118).map (fun i => (i.zero, i.size, i.bytes)) = some (some (.pointer none), 1, 8) := by kernel_rfl
instance : TCell Try.prog 118 := ⟨⟨_, Try.underlying118, rfl⟩, let ⟨i, h, _, h2, _⟩ := info_parts info118; ⟨i, h, h2⟩⟩
instance : TElem Try.prog 118 (.pointer none) 8 := ⟨let ⟨i, h, h1, h2, h3⟩ := info_parts info118; ⟨i, h, h2, h1, h3⟩, by decide⟩
instance : TKind Try.prog 119 .i32 := ⟨Try.underlying119⟩
theorem info119 : (Try.prog.info? 119).map (fun i => (i.zero, i.size, i.bytes)) = some (some (.int .i32 0), 1, 4) := by kernel_rfl
instance : TCell Try.prog 119 := ⟨⟨_, Try.underlying119, rfl⟩, let ⟨i, h, _, h2, _⟩ := info_parts info119; ⟨i, h, h2⟩⟩
instance : TElem Try.prog 119 (.int .i32 0) 4 := ⟨let ⟨i, h, h1, h2, h3⟩ := info_parts info119; ⟨i, h, h2, h1, h3⟩, by decide⟩
instance : TKind Try.prog 120 .i32 := ⟨Try.underlying120⟩
theorem info120 : (Try.prog.info? 120).map (fun i => (i.zero, i.size, i.bytes)) = some (some (.int .i32 0), 1, 4) := by kernel_rfl
instance : TCell Try.prog 120 := ⟨⟨_, Try.underlying120, rfl⟩, let ⟨i, h, _, h2, _⟩ := info_parts info120; ⟨i, h, h2⟩⟩
instance : TElem Try.prog 120 (.int .i32 0) 4 := ⟨let ⟨i, h, h1, h2, h3⟩ := info_parts info120; ⟨i, h, h2, h1, h3⟩, by decide⟩
end Go.Proofs.Ytcolpjpppdmanaa
/-
  Contracts of the small functions that all seats share. No condition.
-/
namespace Go.Proofs.Ytcolpjpppdmanaa
open Go Go.RowKit
attribute [local irreducible] AWp AOps ResIs Ret1 QOp LOp COp AFnV AFn Imms LeE LeO
set_option maxHeartbeats 1000000
set_option linter.unusedSimpArgs false
set_option linter.unusedVariables false

theorem inRange_c (n a b : Int) : AFnV Try.prog 33 [.i n, .i a, .i b] (.bool (decide (a ≤ n ∧ n ≤ b))) := by
  (refine AFnV.start Try.func33 Try.ntmps33 rfl (by kernel_rfl) fun hk => ?_; simp only [Env.start, enumF, List.length_cons, List.length_nil, Nat.reduceAdd, Nat.reduceSub, List.cons_append, List.nil_append])
  repeat' (first
  | (apply AOps.nil; try simp only [List.nil_append, List.cons_append, List.set_cons_zero, List.set_cons_succ, List.length_cons, List.length_nil, Nat.reduceAdd, AV.sh, AV.sh1, AV.sh0, AO.sh, List.map_cons, List.map_nil, Nat.zero_add, Nat.add_zero, setAll])
  | ((apply AOps.splitP; exact rfl; exact rfl) <;> intro h)
  | ((apply AOps.splitN; exact rfl; exact rfl) <;> intro h)
  | (apply w_move; exact rfl; exact rfl)
  | (apply w_assign; exact rfl; exact rfl)
  | apply AWp.seq
  | apply AWp.region
  | ((apply AWp.condP; exact rfl) <;> intro h)
  | ((apply AWp.condN; exact rfl) <;> intro h)
  | (apply AWp.condT; exact rfl)
  | (apply AWp.condF; exact rfl)
  | ((apply AWp.condB; exact rfl) <;> intro h)
  | apply AWp.block
  | apply AWp.ret
  | apply AWp.exit
  | apply AWp.skip
  | (apply AWp.regionQ; kernel_rfl; kernel_rfl)
  | (apply if_pos'; exact rfl)
  | (apply if_neg'; decide)
  | (apply w_skip; exact rfl)
  | (apply w_pickT; exact rfl; exact rfl; exact rfl)
  | (apply w_pickF; exact rfl; exact rfl; exact rfl)
  | (apply w_len; exact rfl; exact rfl; first | exact .ints _ | exact .intss _ | exact .sli rfl | exact .sls rfl | exact .slr rfl | exact .orow rfl | exact .nil)
  | ((first | apply w_lss | apply w_leq | apply w_gtr | apply w_geq | apply w_eql | apply w_neq | apply w_add | apply w_sub | apply w_mul | apply w_idx | apply w_ld | apply w_fld | apply w_fa | apply w_extv | apply w_min | apply w_max | apply w_slhi | apply w_sllo | apply w_bs2); iterate 3 exact rfl)
  | ((first | apply w_eqlb | apply w_neqb | apply w_idxs | apply w_lds | apply w_ext); iterate 3 exact rfl)
  | (apply w_rem; exact rfl; exact rfl; exact rfl; (focus (omega; done)); (focus (omega; done)))
  | (apply w_quo; exact rfl; exact rfl; exact rfl; (focus (omega; done)); (focus (omega; done)))
  | (apply w_remT; exact rfl; exact rfl; exact rfl)
  | (apply w_quoT; exact rfl; exact rfl; exact rfl)
  | ((first | apply w_not | apply w_neg | apply w_conv | apply w_build0 | apply w_bs1 | apply w_boxa); iterate 2 exact rfl)
  | (apply w_idxo; exact rfl; exact rfl; (first | exact .sli rfl | exact .sls rfl | exact .slr rfl); exact rfl)
  | ((first | apply w_idxr | apply w_ldr); iterate 4 exact rfl)
  | (apply w_ldo; iterate 4 exact rfl)
  | (apply w_ldls; iterate 4 exact rfl)
  | (apply w_ldrp; iterate 4 exact rfl)
  | (apply w_ldb; iterate 5 exact rfl)
  | (apply w_ldst; iterate 5 exact rfl)
  | ((first | apply w_sllh | apply w_stbi); iterate 4 exact rfl)
  | ((first | apply w_oslo | apply w_oshi | apply w_stbii); iterate 4 exact rfl)
  | (apply w_copy; exact rfl; (first | exact .own rfl rfl rfl | exact .osub); exact rfl; rotate_left 1; exact rfl; (first | exact .ints _ | exact .sli rfl | exact .orow rfl | exact .nil | exact .osub rfl (by simp; omega)))
  | (apply w_build1; exact rfl; exact rfl; (first | exact one_val rfl rfl | exact one_ints | exact one_intss | exact one_own rfl True.intro))
  | (apply w_build2; exact rfl; exact rfl; exact rfl; (first | exact one_val rfl rfl | exact one_ints | exact one_intss | exact one_own rfl True.intro); (first | exact one_val rfl rfl | exact one_ints | exact one_intss | exact one_own rfl True.intro))
  | (apply w_bs0; iterate 1 exact rfl)
  | (apply w_appn; exact rfl; exact rfl; (first | exact .ints _ | exact .sli rfl | exact .orow rfl | exact .nil | exact .osub rfl (by simp; omega)); exact rfl)
  | (apply w_app; exact rfl; exact rfl; exact rfl; exact rfl; (first | exact .ints _ | exact .sli rfl | exact .orow rfl | exact .nil | exact .osub rfl (by simp; omega)); rotate_left 1; simp only [Env.mp, List.map_cons, List.map_nil, List.set_cons_zero, List.set_cons_succ, AV.kill, AV.kill1, AO.kill, AV.noRow, AV.noRow1, AO.via, reduceIte, Nat.reduceEqDiff, Nat.reduceLT, Env.up, Nat.zero_ne_one, Nat.one_ne_zero, Nat.reduceAdd, List.cons_append, List.nil_append]; rotate_left 1)
  | (apply w_alst; iterate 2 exact rfl)
  | (apply w_alone; iterate 3 exact rfl)
  | (apply w_mki; exact rfl; exact rfl; rotate_left 3; exact rfl; rotate_left 1)
  | (apply w_mkr; exact rfl; exact rfl; rotate_left 3; exact rfl; rotate_left 1)
  | (apply w_strow; exact rfl; exact rfl; rotate_left 1; exact rfl; exact rfl; exact rfl; exact rfl; simp only [Env.mp, List.map_cons, List.map_nil, List.set_cons_zero, List.set_cons_succ, AV.kill, AV.kill1, AO.kill, AV.noRow, AV.noRow1, AO.via, reduceIte, Nat.reduceEqDiff, Nat.reduceLT, Env.up, Nat.zero_ne_one, Nat.one_ne_zero, Nat.reduceAdd, List.cons_append, List.nil_append]; rotate_left 1)
  | (apply w_sti; exact rfl; exact rfl; rotate_left 1; exact rfl; rotate_left 2)
  | (apply w_stst; iterate 5 exact rfl)
  | (apply w_stbv; iterate 6 exact rfl)
  | (apply w_stbo; exact rfl; exact rfl; exact rfl; exact rfl; exact rfl; exact True.intro)
  | ((apply AOps.splitB; exact rfl; exact rfl) <;> intro h)
  | apply AllOf.nil
  | (apply AllOf.cons; exact rfl)
  | (apply AAny.take; exact rfl; exact rfl; kernel_rfl; kernel_rfl)
  | (apply AAny.all; exact rfl)
  | (apply AAny.done; exact rfl)
  | (apply inI_of <;> omega)
  | omega
  | (simp <;> omega))
  · exact .bool Try.results33 rfl (by simp [*])
  · exact .bool Try.results33 rfl (by simp [*])

theorem l01In_c (n a b : Int) : AFnV Try.prog 20 [.i n, .i a, .i b] (.bool (decide (a ≤ n ∧ n ≤ b))) := by
  (refine AFnV.start Try.func20 Try.ntmps20 rfl (by kernel_rfl) fun hk => ?_; simp only [Env.start, enumF, List.length_cons, List.length_nil, Nat.reduceAdd, Nat.reduceSub, List.cons_append, List.nil_append])
  repeat' (first
  | (apply AOps.nil; try simp only [List.nil_append, List.cons_append, List.set_cons_zero, List.set_cons_succ, List.length_cons, List.length_nil, Nat.reduceAdd, AV.sh, AV.sh1, AV.sh0, AO.sh, List.map_cons, List.map_nil, Nat.zero_add, Nat.add_zero, setAll])
  | ((apply AOps.splitP; exact rfl; exact rfl) <;> intro h)
  | ((apply AOps.splitN; exact rfl; exact rfl) <;> intro h)
  | (apply w_move; exact rfl; exact rfl)
  | (apply w_assign; exact rfl; exact rfl)
  | apply AWp.seq
  | apply AWp.region
  | ((apply AWp.condP; exact rfl) <;> intro h)
  | ((apply AWp.condN; exact rfl) <;> intro h)
  | (apply AWp.condT; exact rfl)
  | (apply AWp.condF; exact rfl)
  | ((apply AWp.condB; exact rfl) <;> intro h)
  | apply AWp.block
  | apply AWp.ret
  | apply AWp.exit
  | apply AWp.skip
  | (apply AWp.regionQ; kernel_rfl; kernel_rfl)
  | (apply if_pos'; exact rfl)
  | (apply if_neg'; decide)
  | (apply w_skip; exact rfl)
  | (apply w_pickT; exact rfl; exact rfl; exact rfl)
  | (apply w_pickF; exact rfl; exact rfl; exact rfl)
  | (apply w_len; exact rfl; exact rfl; first | exact .ints _ | exact .intss _ | exact .sli rfl | exact .sls rfl | exact .slr rfl | exact .orow rfl | exact .nil)
  | ((first | apply w_lss | apply w_leq | apply w_gtr | apply w_geq | apply w_eql | apply w_neq | apply w_add | apply w_sub | apply w_mul | apply w_idx | apply w_ld | apply w_fld | apply w_fa | apply w_extv | apply w_min | apply w_max | apply w_slhi | apply w_sllo | apply w_bs2); iterate 3 exact rfl)
  | ((first | apply w_eqlb | apply w_neqb | apply w_idxs | apply w_lds | apply w_ext); iterate 3 exact rfl)
  | (apply w_rem; exact rfl; exact rfl; exact rfl; (focus (omega; done)); (focus (omega; done)))
  | (apply w_quo; exact rfl; exact rfl; exact rfl; (focus (omega; done)); (focus (omega; done)))
  | (apply w_remT; exact rfl; exact rfl; exact rfl)
  | (apply w_quoT; exact rfl; exact rfl; exact rfl)
  | ((first | apply w_not | apply w_neg | apply w_conv | apply w_build0 | apply w_bs1 | apply w_boxa); iterate 2 exact rfl)
  | (apply w_idxo; exact rfl; exact rfl; (first | exact .sli rfl | exact .sls rfl | exact .slr rfl); exact rfl)
  | ((first | apply w_idxr | apply w_ldr); iterate 4 exact rfl)
  | (apply w_ldo; iterate 4 exact rfl)
  | (apply w_ldls; iterate 4 exact rfl)
  | (apply w_ldrp; iterate 4 exact rfl)
  | (apply w_ldb; iterate 5 exact rfl)
  | (apply w_ldst; iterate 5 exact rfl)
  | ((first | apply w_sllh | apply w_stbi); iterate 4 exact rfl)
  | ((first | apply w_oslo | apply w_oshi | apply w_stbii); iterate 4 exact rfl)
  | (apply w_copy; exact rfl; (first | exact .own rfl rfl rfl | exact .osub); exact rfl; rotate_left 1; exact rfl; (first | exact .ints _ | exact .sli rfl | exact .orow rfl | exact .nil | exact .osub rfl (by simp; omega)))
  | (apply w_build1; exact rfl; exact rfl; (first | exact one_val rfl rfl | exact one_ints | exact one_intss | exact one_own rfl True.intro))
  | (apply w_build2; exact rfl; exact rfl; exact rfl; (first | exact one_val rfl rfl | exact one_ints | exact one_intss | exact one_own rfl True.intro); (first | exact one_val rfl rfl | exact one_ints | exact one_intss | exact one_own rfl True.intro))
  | (apply w_bs0; iterate 1 exact rfl)
  | (apply w_appn; exact rfl; exact rfl; (first | exact .ints _ | exact .sli rfl | exact .orow rfl | exact .nil | exact .osub rfl (by simp; omega)); exact rfl)
  | (apply w_app; exact rfl; exact rfl; exact rfl; exact rfl; (first | exact .ints _ | exact .sli rfl | exact .orow rfl | exact .nil | exact .osub rfl (by simp; omega)); rotate_left 1; simp only [Env.mp, List.map_cons, List.map_nil, List.set_cons_zero, List.set_cons_succ, AV.kill, AV.kill1, AO.kill, AV.noRow, AV.noRow1, AO.via, reduceIte, Nat.reduceEqDiff, Nat.reduceLT, Env.up, Nat.zero_ne_one, Nat.one_ne_zero, Nat.reduceAdd, List.cons_append, List.nil_append]; rotate_left 1)
  | (apply w_alst; iterate 2 exact rfl)
  | (apply w_alone; iterate 3 exact rfl)
  | (apply w_mki; exact rfl; exact rfl; rotate_left 3; exact rfl; rotate_left 1)
  | (apply w_mkr; exact rfl; exact rfl; rotate_left 3; exact rfl; rotate_left 1)
  | (apply w_strow; exact rfl; exact rfl; rotate_left 1; exact rfl; exact rfl; exact rfl; exact rfl; simp only [Env.mp, List.map_cons, List.map_nil, List.set_cons_zero, List.set_cons_succ, AV.kill, AV.kill1, AO.kill, AV.noRow, AV.noRow1, AO.via, reduceIte, Nat.reduceEqDiff, Nat.reduceLT, Env.up, Nat.zero_ne_one, Nat.one_ne_zero, Nat.reduceAdd, List.cons_append, List.nil_append]; rotate_left 1)
  | (apply w_sti; exact rfl; exact rfl; rotate_left 1; exact rfl; rotate_left 2)
  | (apply w_stst; iterate 5 exact rfl)
  | (apply w_stbv; iterate 6 exact rfl)
  | (apply w_stbo; exact rfl; exact rfl; exact rfl; exact rfl; exact rfl; exact True.intro)
  | ((apply AOps.splitB; exact rfl; exact rfl) <;> intro h)
  | apply AllOf.nil
  | (apply AllOf.cons; exact rfl)
  | (apply AAny.take; exact rfl; exact rfl; kernel_rfl; kernel_rfl)
  | (apply AAny.all; exact rfl)
  | (apply AAny.done; exact rfl)
  | (apply inI_of <;> omega)
  | omega
  | (simp <;> omega))
  · exact .bool Try.results20 rfl (by simp [*])
  · exact .bool Try.results20 rfl (by simp [*])

def withinL (xs : List Int) (a b : Int) : Bool := xs.all fun x => decide (a ≤ x ∧ x ≤ b)

theorem withinL_snoc (xs : List Int) (a b : Int) (i : Int) (h0 : 0 ≤ i) (h1 : i < xs.length) : withinL (xs.take (i + 1).toNat) a b = (withinL (xs.take i.toNat) a b && decide (a ≤ geti xs i ∧ geti xs i ≤ b)) := by
  have e : (i + 1).toNat = i.toNat + 1 := by omega
  have hi : i.toNat < xs.length := by omega
  rw [e, List.take_succ_eq_append_getElem hi]
  rw [withinL, List.all_append]
  simp [withinL, geti, hi]
theorem withinL_false (xs : List Int) (a b : Int) (i : Int) (h0 : 0 ≤ i) (h1 : i < xs.length) (h : ¬ (a ≤ geti xs i ∧ geti xs i ≤ b)) : withinL xs a b = false := by
  unfold withinL
  rw [List.all_eq_false]
  exact ⟨geti xs i, geti_mem h0 h1, by simpa using h⟩

theorem within_c (xs : List Int) (a b : Int) : AFnV Try.prog 19 [.ints xs, .i a, .i b] (.bool (withinL xs a b)) := by
  (refine AFnV.start Try.func19 Try.ntmps19 rfl (by kernel_rfl) fun hk => ?_; simp only [Env.start, enumF, List.length_cons, List.length_nil, Nat.reduceAdd, Nat.reduceSub, List.cons_append, List.nil_append])
  obtain ⟨hk, hl⟩ : ArgOk (.ints xs) := hk _ (by simp)
  repeat' (first
  | (apply AOps.nil; try simp only [List.nil_append, List.cons_append, List.set_cons_zero, List.set_cons_succ, List.length_cons, List.length_nil, Nat.reduceAdd, AV.sh, AV.sh1, AV.sh0, AO.sh, List.map_cons, List.map_nil, Nat.zero_add, Nat.add_zero, setAll])
  | ((apply AOps.splitP; exact rfl; exact rfl) <;> intro h)
  | ((apply AOps.splitN; exact rfl; exact rfl) <;> intro h)
  | (apply w_move; exact rfl; exact rfl)
  | (apply w_assign; exact rfl; exact rfl)
  | apply AWp.seq
  | apply AWp.region
  | ((apply AWp.condP; exact rfl) <;> intro h)
  | ((apply AWp.condN; exact rfl) <;> intro h)
  | (apply AWp.condT; exact rfl)
  | (apply AWp.condF; exact rfl)
  | ((apply AWp.condB; exact rfl) <;> intro h)
  | apply AWp.block
  | apply AWp.ret
  | apply AWp.exit
  | apply AWp.skip
  | (apply AWp.regionQ; kernel_rfl; kernel_rfl)
  | (apply if_pos'; exact rfl)
  | (apply if_neg'; decide)
  | (apply w_skip; exact rfl)
  | (apply w_pickT; exact rfl; exact rfl; exact rfl)
  | (apply w_pickF; exact rfl; exact rfl; exact rfl)
  | (apply w_len; exact rfl; exact rfl; first | exact .ints _ | exact .intss _ | exact .sli rfl | exact .sls rfl | exact .slr rfl | exact .orow rfl | exact .nil)
  | (apply w_call (inRange_c _ _ _); exact rfl; exact rfl; focus ((repeat (first | exact im_nil | refine im_cons rfl (.val _) ?_ | refine im_cons rfl (.ints _) ?_ | refine im_cons rfl (.intss _) ?_ | refine im_cons rfl (.sli rfl) ?_ | refine im_cons rfl (.sls rfl) ?_ | refine im_cons rfl (.orow rfl) ?_ | refine im_cons rfl (.osub rfl (by simp; omega)) ?_ | refine im_cons rfl (.nil) ?_ | refine im_cons rfl (.nils) ?_ | refine im_cons rfl (im_agg2 (.val _) (.ints _)) ?_ | refine im_cons rfl (im_agg2 (.val _) (.sli rfl)) ?_ | refine im_cons rfl (im_agg2 (.val _) (.nil)) ?_ | refine im_cons rfl (im_agg2 (.ints _) (.intss _)) ?_ | refine im_cons rfl (im_agg2 (.ints _) (.sls rfl)) ?_ | refine im_cons rfl (im_agg2 (.sli rfl) (.intss _)) ?_ | refine im_cons rfl (im_agg2 (.sli rfl) (.sls rfl)) ?_ | refine im_cons rfl (im_agg1 (.ints _)) ?_ | refine im_cons rfl (im_agg1 (.sli rfl)) ?_ | refine im_cons rfl (im_agg1 (.intss _)) ?_ | refine im_cons rfl (im_agg1 (.sls rfl)) ?_ | refine im_cons rfl (im_agg1 (.nil)) ?_ | refine im_cons rfl (im_agg1 (.nils)) ?_)); done))
  | ((first | apply w_lss | apply w_leq | apply w_gtr | apply w_geq | apply w_eql | apply w_neq | apply w_add | apply w_sub | apply w_mul | apply w_idx | apply w_ld | apply w_fld | apply w_fa | apply w_extv | apply w_min | apply w_max | apply w_slhi | apply w_sllo | apply w_bs2); iterate 3 exact rfl)
  | ((first | apply w_eqlb | apply w_neqb | apply w_idxs | apply w_lds | apply w_ext); iterate 3 exact rfl)
  | (apply w_rem; exact rfl; exact rfl; exact rfl; (focus (omega; done)); (focus (omega; done)))
  | (apply w_quo; exact rfl; exact rfl; exact rfl; (focus (omega; done)); (focus (omega; done)))
  | (apply w_remT; exact rfl; exact rfl; exact rfl)
  | (apply w_quoT; exact rfl; exact rfl; exact rfl)
  | ((first | apply w_not | apply w_neg | apply w_conv | apply w_build0 | apply w_bs1 | apply w_boxa); iterate 2 exact rfl)
  | (apply w_idxo; exact rfl; exact rfl; (first | exact .sli rfl | exact .sls rfl | exact .slr rfl); exact rfl)
  | ((first | apply w_idxr | apply w_ldr); iterate 4 exact rfl)
  | (apply w_ldo; iterate 4 exact rfl)
  | (apply w_ldls; iterate 4 exact rfl)
  | (apply w_ldrp; iterate 4 exact rfl)
  | (apply w_ldb; iterate 5 exact rfl)
  | (apply w_ldst; iterate 5 exact rfl)
  | ((first | apply w_sllh | apply w_stbi); iterate 4 exact rfl)
  | ((first | apply w_oslo | apply w_oshi | apply w_stbii); iterate 4 exact rfl)
  | (apply w_copy; exact rfl; (first | exact .own rfl rfl rfl | exact .osub); exact rfl; rotate_left 1; exact rfl; (first | exact .ints _ | exact .sli rfl | exact .orow rfl | exact .nil | exact .osub rfl (by simp; omega)))
  | (apply w_build1; exact rfl; exact rfl; (first | exact one_val rfl rfl | exact one_ints | exact one_intss | exact one_own rfl True.intro))
  | (apply w_build2; exact rfl; exact rfl; exact rfl; (first | exact one_val rfl rfl | exact one_ints | exact one_intss | exact one_own rfl True.intro); (first | exact one_val rfl rfl | exact one_ints | exact one_intss | exact one_own rfl True.intro))
  | (apply w_bs0; iterate 1 exact rfl)
  | (apply w_appn; exact rfl; exact rfl; (first | exact .ints _ | exact .sli rfl | exact .orow rfl | exact .nil | exact .osub rfl (by simp; omega)); exact rfl)
  | (apply w_app; exact rfl; exact rfl; exact rfl; exact rfl; (first | exact .ints _ | exact .sli rfl | exact .orow rfl | exact .nil | exact .osub rfl (by simp; omega)); rotate_left 1; simp only [Env.mp, List.map_cons, List.map_nil, List.set_cons_zero, List.set_cons_succ, AV.kill, AV.kill1, AO.kill, AV.noRow, AV.noRow1, AO.via, reduceIte, Nat.reduceEqDiff, Nat.reduceLT, Env.up, Nat.zero_ne_one, Nat.one_ne_zero, Nat.reduceAdd, List.cons_append, List.nil_append]; rotate_left 1)
  | (apply w_alst; iterate 2 exact rfl)
  | (apply w_alone; iterate 3 exact rfl)
  | (apply w_mki; exact rfl; exact rfl; rotate_left 3; exact rfl; rotate_left 1)
  | (apply w_mkr; exact rfl; exact rfl; rotate_left 3; exact rfl; rotate_left 1)
  | (apply w_strow; exact rfl; exact rfl; rotate_left 1; exact rfl; exact rfl; exact rfl; exact rfl; simp only [Env.mp, List.map_cons, List.map_nil, List.set_cons_zero, List.set_cons_succ, AV.kill, AV.kill1, AO.kill, AV.noRow, AV.noRow1, AO.via, reduceIte, Nat.reduceEqDiff, Nat.reduceLT, Env.up, Nat.zero_ne_one, Nat.one_ne_zero, Nat.reduceAdd, List.cons_append, List.nil_append]; rotate_left 1)
  | (apply w_sti; exact rfl; exact rfl; rotate_left 1; exact rfl; rotate_left 2)
  | (apply w_stst; iterate 5 exact rfl)
  | (apply w_stbv; iterate 6 exact rfl)
  | (apply w_stbo; exact rfl; exact rfl; exact rfl; exact rfl; exact rfl; exact True.intro)
  | ((apply AOps.splitB; exact rfl; exact rfl) <;> intro h)
  | apply AllOf.nil
  | (apply AllOf.cons; exact rfl)
  | (apply AAny.take; exact rfl; exact rfl; kernel_rfl; kernel_rfl)
  | (apply AAny.all; exact rfl)
  | (apply AAny.done; exact rfl)
  | (apply inI_of <;> omega)
  | omega
  | (simp <;> omega))
  refine AWp.loop (ι := Int) (fun i => ⟨21, [(0, .ints xs), (1, .i a), (2, .i b), (9, .ints xs), (10, .i xs.length), (11, .i i)]⟩) (fun _ => []) (fun i => 0 ≤ i ∧ i ≤ xs.length ∧ withinL (xs.take i.toNat) a b = true) (fun i => (xs.length - i).toNat) 0 ⟨by omega, by omega, rfl⟩ ⟨lee rfl (by (repeat (first | exact le_nil | refine le_eq rfl rfl ?_ | refine le_eq rfl (congrArg AV.i (by omega)) ?_))), by (repeat (first | exact lo_nil | refine lo_dead ?_ | refine lo_eq rfl ?_)), rfl, rfl⟩ ?_
  rintro i ⟨h0, h1, h2⟩
  repeat' (first
  | (apply AOps.nil; try simp only [List.nil_append, List.cons_append, List.set_cons_zero, List.set_cons_succ, List.length_cons, List.length_nil, Nat.reduceAdd, AV.sh, AV.sh1, AV.sh0, AO.sh, List.map_cons, List.map_nil, Nat.zero_add, Nat.add_zero, setAll])
  | ((apply AOps.splitP; exact rfl; exact rfl) <;> intro h)
  | ((apply AOps.splitN; exact rfl; exact rfl) <;> intro h)
  | (apply w_move; exact rfl; exact rfl)
  | (apply w_assign; exact rfl; exact rfl)
  | apply AWp.seq
  | apply AWp.region
  | ((apply AWp.condP; exact rfl) <;> intro h)
  | ((apply AWp.condN; exact rfl) <;> intro h)
  | (apply AWp.condT; exact rfl)
  | (apply AWp.condF; exact rfl)
  | ((apply AWp.condB; exact rfl) <;> intro h)
  | apply AWp.block
  | apply AWp.ret
  | apply AWp.exit
  | apply AWp.skip
  | (apply AWp.regionQ; kernel_rfl; kernel_rfl)
  | (apply if_pos'; exact rfl)
  | (apply if_neg'; decide)
  | (apply w_skip; exact rfl)
  | (apply w_pickT; exact rfl; exact rfl; exact rfl)
  | (apply w_pickF; exact rfl; exact rfl; exact rfl)
  | (apply w_len; exact rfl; exact rfl; first | exact .ints _ | exact .intss _ | exact .sli rfl | exact .sls rfl | exact .slr rfl | exact .orow rfl | exact .nil)
  | (apply w_call (inRange_c _ _ _); exact rfl; exact rfl; focus ((repeat (first | exact im_nil | refine im_cons rfl (.val _) ?_ | refine im_cons rfl (.ints _) ?_ | refine im_cons rfl (.intss _) ?_ | refine im_cons rfl (.sli rfl) ?_ | refine im_cons rfl (.sls rfl) ?_ | refine im_cons rfl (.orow rfl) ?_ | refine im_cons rfl (.osub rfl (by simp; omega)) ?_ | refine im_cons rfl (.nil) ?_ | refine im_cons rfl (.nils) ?_ | refine im_cons rfl (im_agg2 (.val _) (.ints _)) ?_ | refine im_cons rfl (im_agg2 (.val _) (.sli rfl)) ?_ | refine im_cons rfl (im_agg2 (.val _) (.nil)) ?_ | refine im_cons rfl (im_agg2 (.ints _) (.intss _)) ?_ | refine im_cons rfl (im_agg2 (.ints _) (.sls rfl)) ?_ | refine im_cons rfl (im_agg2 (.sli rfl) (.intss _)) ?_ | refine im_cons rfl (im_agg2 (.sli rfl) (.sls rfl)) ?_ | refine im_cons rfl (im_agg1 (.ints _)) ?_ | refine im_cons rfl (im_agg1 (.sli rfl)) ?_ | refine im_cons rfl (im_agg1 (.intss _)) ?_ | refine im_cons rfl (im_agg1 (.sls rfl)) ?_ | refine im_cons rfl (im_agg1 (.nil)) ?_ | refine im_cons rfl (im_agg1 (.nils)) ?_)); done))
  | ((first | apply w_lss | apply w_leq | apply w_gtr | apply w_geq | apply w_eql | apply w_neq | apply w_add | apply w_sub | apply w_mul | apply w_idx | apply w_ld | apply w_fld | apply w_fa | apply w_extv | apply w_min | apply w_max | apply w_slhi | apply w_sllo | apply w_bs2); iterate 3 exact rfl)
  | ((first | apply w_eqlb | apply w_neqb | apply w_idxs | apply w_lds | apply w_ext); iterate 3 exact rfl)
  | (apply w_rem; exact rfl; exact rfl; exact rfl; (focus (omega; done)); (focus (omega; done)))
  | (apply w_quo; exact rfl; exact rfl; exact rfl; (focus (omega; done)); (focus (omega; done)))
  | (apply w_remT; exact rfl; exact rfl; exact rfl)
  | (apply w_quoT; exact rfl; exact rfl; exact rfl)
  | ((first | apply w_not | apply w_neg | apply w_conv | apply w_build0 | apply w_bs1 | apply w_boxa); iterate 2 exact rfl)
  | (apply w_idxo; exact rfl; exact rfl; (first | exact .sli rfl | exact .sls rfl | exact .slr rfl); exact rfl)
  | ((first | apply w_idxr | apply w_ldr); iterate 4 exact rfl)
  | (apply w_ldo; iterate 4 exact rfl)
  | (apply w_ldls; iterate 4 exact rfl)
  | (apply w_ldrp; iterate 4 exact rfl)
  | (apply w_ldb; iterate 5 exact rfl)
  | (apply w_ldst; iterate 5 exact rfl)
  | ((first | apply w_sllh | apply w_stbi); iterate 4 exact rfl)
  | ((first | apply w_oslo | apply w_oshi | apply w_stbii); iterate 4 exact rfl)
  | (apply w_copy; exact rfl; (first | exact .own rfl rfl rfl | exact .osub); exact rfl; rotate_left 1; exact rfl; (first | exact .ints _ | exact .sli rfl | exact .orow rfl | exact .nil | exact .osub rfl (by simp; omega)))
  | (apply w_build1; exact rfl; exact rfl; (first | exact one_val rfl rfl | exact one_ints | exact one_intss | exact one_own rfl True.intro))
  | (apply w_build2; exact rfl; exact rfl; exact rfl; (first | exact one_val rfl rfl | exact one_ints | exact one_intss | exact one_own rfl True.intro); (first | exact one_val rfl rfl | exact one_ints | exact one_intss | exact one_own rfl True.intro))
  | (apply w_bs0; iterate 1 exact rfl)
  | (apply w_appn; exact rfl; exact rfl; (first | exact .ints _ | exact .sli rfl | exact .orow rfl | exact .nil | exact .osub rfl (by simp; omega)); exact rfl)
  | (apply w_app; exact rfl; exact rfl; exact rfl; exact rfl; (first | exact .ints _ | exact .sli rfl | exact .orow rfl | exact .nil | exact .osub rfl (by simp; omega)); rotate_left 1; simp only [Env.mp, List.map_cons, List.map_nil, List.set_cons_zero, List.set_cons_succ, AV.kill, AV.kill1, AO.kill, AV.noRow, AV.noRow1, AO.via, reduceIte, Nat.reduceEqDiff, Nat.reduceLT, Env.up, Nat.zero_ne_one, Nat.one_ne_zero, Nat.reduceAdd, List.cons_append, List.nil_append]; rotate_left 1)
  | (apply w_alst; iterate 2 exact rfl)
  | (apply w_alone; iterate 3 exact rfl)
  | (apply w_mki; exact rfl; exact rfl; rotate_left 3; exact rfl; rotate_left 1)
  | (apply w_mkr; exact rfl; exact rfl; rotate_left 3; exact rfl; rotate_left 1)
  | (apply w_strow; exact rfl; exact rfl; rotate_left 1; exact rfl; exact rfl; exact rfl; exact rfl; simp only [Env.mp, List.map_cons, List.map_nil, List.set_cons_zero, List.set_cons_succ, AV.kill, AV.kill1, AO.kill, AV.noRow, AV.noRow1, AO.via, reduceIte, Nat.reduceEqDiff, Nat.reduceLT, Env.up, Nat.zero_ne_one, Nat.one_ne_zero, Nat.reduceAdd, List.cons_append, List.nil_append]; rotate_left 1)
  | (apply w_sti; exact rfl; exact rfl; rotate_left 1; exact rfl; rotate_left 2)
  | (apply w_stst; iterate 5 exact rfl)
  | (apply w_stbv; iterate 6 exact rfl)
  | (apply w_stbo; exact rfl; exact rfl; exact rfl; exact rfl; exact rfl; exact True.intro)
  | ((apply AOps.splitB; exact rfl; exact rfl) <;> intro h)
  | apply AllOf.nil
  | (apply AllOf.cons; exact rfl)
  | (apply AAny.take; exact rfl; exact rfl; kernel_rfl; kernel_rfl)
  | (apply AAny.all; exact rfl)
  | (apply AAny.done; exact rfl)
  | (apply inI_of <;> omega)
  | omega
  | (simp <;> omega))
  · exact .bool Try.results19 rfl (withinL_false xs a b i h0 (by omega) h).symm
  · exact ⟨i + 1, ⟨by omega, by omega, by rw [withinL_snoc xs a b i h0 (by omega)]; simp [*]⟩, by omega, ⟨lee rfl (by (repeat (first | exact le_nil | refine le_eq rfl rfl ?_ | refine le_eq rfl (congrArg AV.i (by omega)) ?_))), by (repeat (first | exact lo_nil | refine lo_dead ?_ | refine lo_eq rfl ?_)), rfl, rfl⟩⟩
  · rw [List.take_of_length_le (by omega)] at h2
    exact .bool Try.results19 rfl h2.symm
end Go.Proofs.Ytcolpjpppdmanaa
/-
  Contracts of the laws' own helpers over lists of integers. No condition.
-/
namespace Go.Proofs.Ytcolpjpppdmanaa
open Go Go.RowKit
attribute [local irreducible] AWp AOps ResIs Ret1 QOp LOp COp AFnV AFn Imms LeE LeO
set_option maxHeartbeats 1000000
set_option linter.unusedSimpArgs false
set_option linter.unusedVariables false

/-- The new slice of integers that a function hands back alone. -/
def IsInts (e : TypeId) (xs : List Int) (r : AV) (os : List AO) : Prop := r = .own 0 ∧ os = [.sli e xs]

end Go.Proofs.Ytcolpjpppdmanaa
/-
  A source of numbers: a struct of bytes, a place and a hash behind a pointer; functions that write to it in its place, whatever it then holds. No condition.
-/
namespace Go.Proofs.Ytcolpjpppdmanaa
open Go Go.RowKit
set_option linter.unusedSimpArgs false

def SOk (bs : List Int) (at_ h : Int) : Prop := (0 ≤ at_ ∧ at_ ≤ bs.length) ∧ (0 ≤ h ∧ h < 18446744073709551616)
/-- The struct in memory. -/
structure Sk (T : TypeId) (base : Nat) (w : World) (g0 : Gh) (vC : Value) (at_ h : Int) : Prop where
  cell : w.heap[g0.b]? = some (.cells #[vC, .int .i64 at_, .int .u64 h] T (0, 0))
  one : vC.oneCell' = true
  hb : base ≤ g0.b
  bl : g0.bl = [g0.b]
  v : g0.v = .pointer (some ⟨g0.b, 0, none⟩)
def AFnS (P : Program) (f : FuncId) (T : TypeId) (bs : List Int) (as0 : List Value) (Q : Value → Prop) : Prop :=
  HasBody P f ∧ ∀ base w g0 vC at_ h, base ≤ w.heap.size → Sk T base w g0 vC at_ h → SOk bs at_ h → BysAt w (fun b => b ∉ g0.bl) vC bs →
    Calls P f (g0.v :: as0).toArray w fun ev w' => ∃ rv at' h', ev = .returned rv ∧ Q rv ∧ SOk bs at' h' ∧ Sk T base w' g0 vC at' h' ∧ Below base w w' ∧ ∀ b, b < w.heap.size → b ∉ g0.bl → w'.heap[b]? = w.heap[b]?
abbrev skL (T : TypeId) (bs : List Int) (vC : Value) (at_ h : Int) : AO := .bx T [.ro (roB vC bs), .val (.int .i64 at_), .val (.int .u64 h)]
def SkEnd (P : Program) (fn : Func) (T : TypeId) (bs : List Int) (vC : Value) (K : Kp) (Q : Value → Prop) (env : Env) (os : List AO) : Prop :=
  ∃ rv at' h', ResIs P fn env os (.val rv) ∧ Q rv ∧ SOk bs at' h' ∧ ∃ tl, os = .keep 2 K :: skL T bs vC at' h' :: tl

set_option maxHeartbeats 2000000 in
theorem AFnS.of {P : Program} {f : FuncId} {fn : Func} {c : Code} {T : TypeId} {bs : List Int} {as0 : List Value} {args' : List AV} {Q : Value → Prop} {n : Nat} (hf : P.funcs[f]? = some fn) (hb : fn.body = some c) (hnm : (fn.name == "runtime.NumGoroutine") = false)
    (hn : fn.ntmps - (as0.length + 1) = n) (ha : args' = .optr 1 0 :: as0.map AV.val)
    (h : ∀ K vC at_ h, SOk bs at_ h → AWp P c (SkEnd P fn T bs vC K Q) (fun _ _ _ => False) (SkEnd P fn T bs vC K Q) (Env.start args' n) [.keep 2 K, skL T bs vC at_ h]) :
    AFnS P f T bs as0 Q := by
  refine ⟨⟨fn, c, hf, hnm, hb⟩, fun base w g0 vC at_ hh hbase hC hI hW => calls_of_wp hf hb ?_⟩
  have hvs : ((g0.v :: as0).toArray).size = as0.length + 1 := by simp
  rw [show fn.ntmps - ((g0.v :: as0).toArray).size = n by rw [hvs]; exact hn]
  obtain ⟨c1, c1', c2, c3, c4⟩ := hC
  let bl : List Nat := (List.range w.heap.size).filter fun b => decide (base ≤ b) && !(g0.bl).contains b
  let gk : Gh := ⟨undef, 0, bl, []⟩
  let K : Kp := ⟨fun b => w.heap[b]?, [gk, g0]⟩
  have hlt : g0.b < w.heap.size := (Array.getElem?_eq_some_iff.1 c1).1
  have hbl : ∀ b, b ∈ bl ↔ b < w.heap.size ∧ base ≤ b ∧ b ∉ g0.bl := by
    intro b
    simp only [bl, List.mem_filter, List.mem_range, Bool.and_eq_true, decide_eq_true_eq, Bool.not_eq_true', List.contains_eq_mem, decide_eq_false_iff_not]
  have okk : ∀ b, b ∉ g0.bl → okOf [gk, g0] [.keep 2 K, skL T bs vC at_ hh] b := by
    intro b hb i x y hx hy hl
    match i with
    | 0 => cases hy; exact hl.elim
    | 1 => cases hx; exact hb
    | i + 2 => simp at hx
  have kp : Keeps (fun b => b ∉ g0.bl) (okOf [gk, g0] [.keep 2 K, skL T bs vC at_ hh]) w w := fun b hb _ => ⟨okk b hb, rfl⟩
  have hrel : Rel base w [gk, g0] (Env.start args' n) [.keep 2 K, skL T bs vC at_ hh] ((g0.v :: as0).toArray ++ Array.replicate n undef) := by
    refine ⟨hbase, rfl, by simp [Env.start, ha], fun i => ?_, ?_, ?_, ?_⟩
    · refine start_rv args' n (g0.v :: as0).toArray (fun i => ?_) i
      rw [ha]
      match i with
      | 0 =>
        show RV w _ _ g0.v (.optr 1 0)
        rw [c4]
        exact .optr (g := g0) rfl
      | i + 1 =>
        have e1 : ((g0.v :: as0).toArray).getD (i + 1) undef = as0.getD i undef := by simp [Array.getD_eq_getD_getElem?, List.getD_eq_getElem?_getD]
        have e2 : (AV.optr 1 0 :: as0.map AV.val).getD (i + 1) .any = (as0.map AV.val).getD i .any := rfl
        rw [e1, e2]
        rw [List.getD_eq_getElem?_getD, List.getD_eq_getElem?_getD, List.getElem?_map]
        cases as0[i]? with
        | none => exact .any _
        | some z => exact .val z
    · intro i x y hx hy
      match i with
      | 0 =>
        cases hx; cases hy
        exact ⟨fun b _ => rfl, rfl, fun i x h => h⟩
      | 1 =>
        cases hx; cases hy
        refine ⟨[vC, .int .i64 at_, .int .u64 hh], c1, c2, c3, c4, rfl, ?_, fun j => ?_⟩
        · intro z hz
          simp only [List.mem_cons, List.not_mem_nil, or_false] at hz
          rcases hz with rfl | rfl | rfl
          · exact c1'
          · rfl
          · rfl
        · match j with
          | 0 => exact .ro ⟨rfl, hW.mono kp⟩
          | 1 => exact .val _
          | 2 => exact .val _
          | j + 3 => exact .any _
      | i + 2 => simp at hx
    · intro i j a b o1 o2 hij ha1 hb1 ho1 ho2 _ _ c hc1 hc2
      match i, j with
      | 0, 0 => omega
      | 0, 1 =>
        cases ha1; cases hb1
        exact ((hbl c).1 hc1).2.2 hc2
      | 1, 0 =>
        cases ha1; cases hb1
        exact ((hbl c).1 hc2).2.2 hc1
      | 1, 1 => omega
      | i + 2, _ => simp at ha1
      | 0, j + 2 => simp at hb1
      | 1, j + 2 => simp at hb1
    · intro i x y hx hy _ b hb
      match i with
      | 0 => cases hx; exact ⟨((hbl b).1 hb).2.1, ((hbl b).1 hb).1⟩
      | 1 =>
        cases hx
        rw [c3] at hb
        simp only [List.mem_cons, List.not_mem_nil, or_false] at hb
        subst hb; exact ⟨c2, hlt⟩
      | i + 2 => simp at hx
  have fin : ∀ {env : Env} {os1 : List AO} {gs2 : List Gh} {a : Act} {w' : World}, Rel base w' gs2 env os1 a.tmps → Below base w w' → SkEnd P fn T bs vC K Q env os1 →
      ∃ u, (results fn a.tmps).run P w' = .ok u w' ∧ (∃ rv at' h', Ending.returned u = .returned rv ∧ Q rv ∧ SOk bs at' h' ∧ Sk T base w' g0 vC at' h' ∧ Below base w w' ∧ ∀ b, b < w.heap.size → b ∉ g0.bl → w'.heap[b]? = w.heap[b]?) := by
    rintro env os1 gs2 a w' hr hbel ⟨rv, at', h', hres, hQ, hI', tl, rfl⟩
    obtain ⟨u, hu, hv⟩ := hres _ _ _ _ hr
    cases hv
    have hgl := hr.hl
    obtain ⟨x0, hx0⟩ : ∃ x, gs2[0]? = some x := ⟨_, List.getElem?_eq_getElem (by rw [hgl]; simp)⟩
    obtain ⟨r1, r2, r3⟩ := hr.ho 0 _ _ hx0 rfl
    have p0 := r3 0 gk rfl
    have p1 := r3 1 g0 rfl
    have e0 : x0 = gk := by rw [hx0] at p0; exact Option.some.inj p0
    subst e0
    have o1 := hr.ho 1 _ _ p1 rfl
    obtain ⟨cs, d1, d2, d3, d4, d5, d6, d7⟩ := o1
    match cs, d5 with
    | [z0, z1, z2], _ =>
      have q0 := d7 0
      have q1 := d7 1
      have q2 := d7 2
      have w0 : z0 = vC := by cases q0 with | ro h => exact h.1
      have w1 : z1 = .int .i64 at' := by cases q1; rfl
      have w2 : z2 = .int .u64 h' := by cases q2; rfl
      subst w0 w1 w2
      refine ⟨_, hu, _, at', h', rfl, hQ, hI', ⟨d1, c1', c2, c3, c4⟩, hbel, fun b hb hok => ?_⟩
      rcases Nat.lt_or_ge b base with h6 | h6
      · exact hbel.block b h6
      · exact r1 b ((hbl b).2 ⟨hb, h6, hok⟩)
  refine wp_mono (h K vC at_ hh hI base w w _ _ hrel (Below.refl _ _)) ?_
  intro ev a w' hq
  cases ev with
  | normal =>
    obtain ⟨env, os1, gs1, hr, hd, hbel, hx⟩ := hq
    obtain ⟨u, hu, hw⟩ := fin hr hbel hx
    exact ⟨hd, u, hu, hw⟩
  | exit j => obtain ⟨_, _, _, _, _, _, hx⟩ := hq; exact hx.elim
  | ret =>
    obtain ⟨env, os1, gs1, hr, hd, hbel, hx⟩ := hq
    obtain ⟨u, hu, hw⟩ := fin hr hbel hx
    exact ⟨hd, u, hu, hw⟩
  | goto l => exact (hq : False).elim
  | panic ch => exact (hq : False).elim
  | outgrown => exact (hq : False).elim
theorem AFnS.start {P : Program} {f : FuncId} {fn : Func} {nt : Nat} {T : TypeId} {bs : List Int} {as0 : List Value} {Q : Value → Prop} (hf : P.funcs[f]? = some fn) (hnt : fn.ntmps = nt) {c : Code} (hb : fn.body = some c) (hnm : (fn.name == "runtime.NumGoroutine") = false)
    (h : ∀ K vC at_ h, SOk bs at_ h → AWp P c (SkEnd P fn T bs vC K Q) (fun _ _ _ => False) (SkEnd P fn T bs vC K Q) (Env.start (.optr 1 0 :: as0.map AV.val) (nt - (as0.length + 1))) [.keep 2 K, skL T bs vC at_ h]) :
    AFnS P f T bs as0 Q := AFnS.of hf hb hnm (by rw [hnt]) rfl h

section
variable {P : Program} {env : Env} {os : List AO} {d : Option Tmp} {ty : TypeId} {pos : String} {af : Array Edge} {g : Option (Nat × Bool)}
theorem q_build23 {t : TypeId} {z0 z1 z2 : Value} {wl : Bool} [ht : TBuild P t 3 [z0, z1, z2]] {x1 x2 : Operand} {a1 a2 : AV} (h1 : AV.ev env x1 = a1) (h2 : AV.ev env x2 = a2)
    (o1 : OneC env os a1) (o2 : OneC env os a2) (hz : z1.oneCell' = true) :
    QOp P wl ⟨d, .build t #[(0, x1), (2, x2)], ty, pos, af, g⟩ env os (.agg [a1, .val z1, a2]) :=
  .of_run fun _ w gs tm hr => by
    have v1 := hr.ev x1
    rw [h1] at v1
    have v2 := hr.ev x2
    rw [h2] at v2
    obtain ⟨p1, c1⟩ := o1 _ _ _ _ hr _ v1
    obtain ⟨p2, c2⟩ := o2 _ _ _ _ hr _ v2
    refine ⟨.agg [Act.eval ⟨tm, []⟩ x1, z1, Act.eval ⟨tm, []⟩ x2].toArray, .agg rfl (by simp; exact ⟨p1, hz, p2⟩) (rv_list rfl fun i hi => ?_), fun w' _ => ?_⟩
    · match i, hi with
      | 0, _ => exact v1
      | 1, _ => exact .val _
      | 2, _ => exact v2
    · have hb : P.built t (#[(0, Act.eval ⟨tm, []⟩ x1), (2, Act.eval ⟨tm, []⟩ x2)] : Array (Nat × Value)).toList = some #[Act.eval ⟨tm, []⟩ x1, z1, Act.eval ⟨tm, []⟩ x2] := by
        rcases ht.bl with e | e <;> rw [e] <;> simp [Instr.fill, c1, c2, List.range_succ]
      simp [execOp, run_build (P := P) w' t _ _ hb]
end
theorem wrap_u64 (n : Int) : 0 ≤ IntKind.u64.wrap n ∧ IntKind.u64.wrap n < 18446744073709551616 := by
  simp only [IntKind.wrap, IntKind.bits, IntKind.signed]
  simp; omega
theorem one_rb {env : Env} {os : List AO} {u : Value} {bs : List Int} : OneC env os (.ro (roB u bs)) := fun _ _ _ _ _ v h => by
  cases h with
  | ro h =>
    obtain ⟨_, ⟨a, c, rfl, _⟩, _⟩ := (h : v = u ∧ BysAt _ _ v bs)
    exact ⟨rfl, rfl⟩

section
variable {P : Program} {env : Env} {os : List AO} {d : Tmp} {ty : TypeId} {pos : String} {af : Array Edge} {g : Option (Nat × Bool)} {l rest : List Oper} {K : APost} {q : Md}
theorem w_lenby {t e : TypeId} [TSlice P t e] {x : Operand} {a : AV} {bs : List Int} (hw : wantedA l env ⟨some d, .call { callee := .builtin .len, args := #[x], argTypes := #[t] }, ty, pos, af, g⟩ = some true) (hx : evo env x = some a) (ha : RdB a bs)
    (h' : AOps P q l rest K (env.up d (.i bs.length)) os) : AOps P q l (⟨some d, .call { callee := .builtin .len, args := #[x], argTypes := #[t] }, ty, pos, af, g⟩ :: rest) K env os := AOps.qo hw (q_lenb (ev_of hx) ha) h'
theorem w_idxby {t e : TypeId} [TSlice P t e] [TCell P e] {x y : Operand} {a : AV} {bs : List Int} {i : Int} (hw : wantedA l env ⟨some d, .indexAddr t x y, ty, pos, af, g⟩ = some true) (hx : evo env x = some a) (ha : RdB a bs) (hy : evo env y = some (.i i)) (h0 : 0 ≤ i) (h1 : i < bs.length)
    (h' : AOps P q l rest K (env.up d (.ro (byP bs i))) os) : AOps P q l (⟨some d, .indexAddr t x y, ty, pos, af, g⟩ :: rest) K env os := AOps.qo hw (q_idxby (ev_of hx) ha (ev_of hy) h0 h1) h'
theorem w_ldby {t : TypeId} [TCell P t] {x : Operand} {bs : List Int} {i : Int} (hw : wantedA l env ⟨some d, .load t x, ty, pos, af, g⟩ = some true) (hq : q.wl = false) (hx : evo env x = some (.ro (byP bs i)))
    (h' : AOps P q l rest K (env.up d (.val (.int .u8 (geti bs i)))) os) : AOps P q l (⟨some d, .load t x, ty, pos, af, g⟩ :: rest) K env os := AOps.qo hw (by rw [hq]; exact q_ldby (ev_of hx)) h'
theorem w_umul {xt yt : TypeId} {x y : Operand} {a b : Int} (hw : wantedA l env ⟨some d, .binOp .mul xt x y yt, ty, pos, af, g⟩ = some true) (ha : evo env x = some (.val (.int .u64 a))) (hb : evo env y = some (.val (.int .u64 b)))
    (h' : ∀ c : Int, (0 ≤ c ∧ c < 18446744073709551616) → AOps P q l rest K (env.up d (.val (.int .u64 c))) os) : AOps P q l (⟨some d, .binOp .mul xt x y yt, ty, pos, af, g⟩ :: rest) K env os := AOps.qo hw (q_umul (ev_of ha) (ev_of hb)) (h' _ (wrap_u64 _))
theorem w_uadd {xt yt : TypeId} {x y : Operand} {a b : Int} (hw : wantedA l env ⟨some d, .binOp .add xt x y yt, ty, pos, af, g⟩ = some true) (ha : evo env x = some (.val (.int .u64 a))) (hb : evo env y = some (.val (.int .u64 b)))
    (h' : ∀ c : Int, (0 ≤ c ∧ c < 18446744073709551616) → AOps P q l rest K (env.up d (.val (.int .u64 c))) os) : AOps P q l (⟨some d, .binOp .add xt x y yt, ty, pos, af, g⟩ :: rest) K env os := AOps.qo hw (q_uadd (ev_of ha) (ev_of hb)) (h' _ (wrap_u64 _))
theorem w_umulx {xt yt : TypeId} {x y : Operand} {a b : Int} (hw : wantedA l env ⟨some d, .binOp .mul xt x y yt, ty, pos, af, g⟩ = some true) (ha : evo env x = some (.val (.int .u64 a))) (hb : evo env y = some (.val (.int .u64 b)))
    (h' : AOps P q l rest K (env.up d (.val (.int .u64 (IntKind.u64.wrap (a * b))))) os) : AOps P q l (⟨some d, .binOp .mul xt x y yt, ty, pos, af, g⟩ :: rest) K env os := AOps.qo hw (q_umul (ev_of ha) (ev_of hb)) h'
theorem w_uaddx {xt yt : TypeId} {x y : Operand} {a b : Int} (hw : wantedA l env ⟨some d, .binOp .add xt x y yt, ty, pos, af, g⟩ = some true) (ha : evo env x = some (.val (.int .u64 a))) (hb : evo env y = some (.val (.int .u64 b)))
    (h' : AOps P q l rest K (env.up d (.val (.int .u64 (IntKind.u64.wrap (a + b))))) os) : AOps P q l (⟨some d, .binOp .add xt x y yt, ty, pos, af, g⟩ :: rest) K env os := AOps.qo hw (q_uadd (ev_of ha) (ev_of hb)) h'
theorem w_ushr {xt yt : TypeId} {x y : Operand} {a : Int} (hw : wantedA l env ⟨some d, .binOp .shr xt x y yt, ty, pos, af, g⟩ = some true) (ha : evo env x = some (.val (.int .u64 a))) (hb : evo env y = some (.val (.int .u64 33))) (h0 : 0 ≤ a ∧ a < 18446744073709551616)
    (h' : ∀ c : Int, (0 ≤ c ∧ c < 18446744073709551616) → AOps P q l rest K (env.up d (.val (.int .u64 c))) os) : AOps P q l (⟨some d, .binOp .shr xt x y yt, ty, pos, af, g⟩ :: rest) K env os :=
  AOps.qo hw (show QOp P q.wl _ env os (.val (.int .u64 (a / 8589934592))) from q_bin (ev_of ha) (ev_of hb) (by simp [go_sem]) fun w => by
    have e : IntKind.u64.wrap (a / 8589934592) = a / 8589934592 := by simp [IntKind.wrap, IntKind.bits, IntKind.signed]; omega
    simp [go_sem, e]) (h' _ (by omega))
theorem w_uand {xt yt : TypeId} {x y : Operand} {a : Int} (hw : wantedA l env ⟨some d, .binOp .and xt x y yt, ty, pos, af, g⟩ = some true) (ha : evo env x = some (.val (.int .u64 a))) (hb : evo env y = some (.val (.int .u64 16777215))) (h0 : 0 ≤ a ∧ a < 18446744073709551616)
    (h' : ∀ c : Int, (0 ≤ c ∧ c ≤ 16777215) → AOps P q l rest K (env.up d (.val (.int .u64 c))) os) : AOps P q l (⟨some d, .binOp .and xt x y yt, ty, pos, af, g⟩ :: rest) K env os := by
  obtain ⟨n, rfl⟩ : ∃ n : Nat, a = n := ⟨a.toNat, by omega⟩
  have hle : n &&& 16777215 ≤ 16777215 := Nat.and_le_right
  refine AOps.qo hw (show QOp P q.wl _ env os (.val (.int .u64 ((n &&& 16777215 : Nat) : Int))) from q_bin (ev_of ha) (ev_of hb) (by simp [go_sem]) fun w => ?_) (h' _ (by omega))
  have e := bits_and_u64_nat n 16777215 (by omega) (by decide)
  have e2 : ((16777215 : Nat) : Int) = 16777215 := rfl
  rw [e2] at e
  simp [go_sem, e]
theorem w_convbi {src dst : TypeId} [TKind P src .u8] [TKind P dst .i64] {x : Operand} {a : Int} (hw : wantedA l env ⟨some d, .convert src dst x, ty, pos, af, g⟩ = some true) (ha : evo env x = some (.val (.int .u8 a))) (h0 : 0 ≤ a ∧ a ≤ 255)
    (h' : AOps P q l rest K (env.up d (.i a)) os) : AOps P q l (⟨some d, .convert src dst x, ty, pos, af, g⟩ :: rest) K env os :=
  AOps.qo hw (q_convb (k := .i64) (ev_of ha) (by simp [IntKind.wrap, IntKind.bits, IntKind.signed]; omega)) h'
theorem w_convbu {src dst : TypeId} [TKind P src .u8] [TKind P dst .u64] {x : Operand} {a : Int} (hw : wantedA l env ⟨some d, .convert src dst x, ty, pos, af, g⟩ = some true) (ha : evo env x = some (.val (.int .u8 a))) (h0 : 0 ≤ a ∧ a ≤ 255)
    (h' : AOps P q l rest K (env.up d (.val (.int .u64 a))) os) : AOps P q l (⟨some d, .convert src dst x, ty, pos, af, g⟩ :: rest) K env os :=
  AOps.qo hw (q_convb (k := .u64) (ev_of ha) (by simp [IntKind.wrap, IntKind.bits, IntKind.signed]; omega)) h'
theorem w_build23 {t : TypeId} {z0 z1 z2 : Value} [TBuild P t 3 [z0, z1, z2]] {x1 x2 : Operand} {a1 a2 : AV} (hw : wantedA l env ⟨some d, .build t #[(0, x1), (2, x2)], ty, pos, af, g⟩ = some true) (h1 : evo env x1 = some a1) (h2 : evo env x2 = some a2)
    (hz : z1.oneCell' = true) (o1 : OneC env os a1) (o2 : OneC env os a2) (h' : AOps P q l rest K (env.up d (.agg [a1, .val z1, a2])) os) : AOps P q l (⟨some d, .build t #[(0, x1), (2, x2)], ty, pos, af, g⟩ :: rest) K env os :=
  AOps.qo hw (q_build23 (ev_of h1) (ev_of h2) o1 o2 hz) h'
end
end Go.Proofs.Ytcolpjpppdmanaa
/-
  Functions that make a source of numbers out of bytes. No condition.
-/
namespace Go.Proofs.Ytcolpjpppdmanaa
open Go Go.RowKit

def AFnF (P : Program) (f : FuncId) (T : TypeId) (bs : List Int) : Prop :=
  HasBody P f ∧ ∀ w vC, BysAt w (fun _ => True) vC bs → Calls P f #[vC] w fun ev w' => ∃ g0 at_ h, ev = .returned g0.v ∧ SOk bs at_ h ∧ Sk T w.heap.size w' g0 vC at_ h ∧ Below w.heap.size w w'
theorem AFnF.of {P : Program} {f : FuncId} {fn : Func} {c : Code} {T : TypeId} {bs : List Int} {n : Nat} (hf : P.funcs[f]? = some fn) (hb : fn.body = some c) (hnm : (fn.name == "runtime.NumGoroutine") = false) (hn : fn.ntmps - 1 = n)
    (h : ∀ vC, AWp P c (fun _ _ => False) (fun _ _ _ => False) (fun env os => ∃ k at_ h, ResIs P fn env os (.optr k 0) ∧ os[k]? = some (skL T bs vC at_ h) ∧ SOk bs at_ h) (Env.start [.ro (roB vC bs)] n) []) : AFnF P f T bs := by
  refine ⟨⟨fn, c, hf, hnm, hb⟩, fun w vC hvC => calls_of_wp hf hb ?_⟩
  rw [show fn.ntmps - (#[vC] : Array Value).size = n from hn]
  have hvs : RVs w [.ro (roB vC bs)] #[vC] := ⟨rfl, fun i => by
    match i with
    | 0 => exact .ro ⟨rfl, hvC⟩
    | i + 1 => exact .any _⟩
  refine wp_mono (h vC w.heap.size w w [] _ (Rel.start hvs n) (Below.refl _ _)) ?_
  intro e a w' hq
  cases e with
  | normal => obtain ⟨_, _, _, _, _, _, hx⟩ := hq; exact hx.elim
  | exit j => obtain ⟨_, _, _, _, _, _, hx⟩ := hq; exact hx.elim
  | ret =>
    obtain ⟨env, os, gs, hr, hd, hbel, k, at_, hh, h1, h2, h3⟩ := hq
    obtain ⟨u, hu, hv⟩ := h1 _ _ _ _ hr
    cases hv with
    | @optr _ _ g hg =>
      obtain ⟨cs, d1, d2, d3, d4, d5, d6, d7⟩ := hr.ho _ _ _ hg h2
      match cs, d5 with
      | [z0, z1, z2], _ =>
        have q0 := d7 0
        have q1 := d7 1
        have q2 := d7 2
        have w0 : z0 = vC := by cases q0 with | ro h => exact h.1
        have w1 : z1 = .int .i64 at_ := by cases q1; rfl
        have w2 : z2 = .int .u64 hh := by cases q2; rfl
        subst w0 w1 w2
        exact ⟨hd, _, hu, g, at_, hh, by rw [d4], h3, ⟨d1, d6 _ (by simp), d2, d3, d4⟩, hbel⟩
  | goto l => exact (hq : False).elim
  | panic ch => exact (hq : False).elim
  | outgrown => exact (hq : False).elim
theorem AFnF.start {P : Program} {f : FuncId} {fn : Func} {nt : Nat} {T : TypeId} {bs : List Int} (hf : P.funcs[f]? = some fn) (hnt : fn.ntmps = nt) {c : Code} (hb : fn.body = some c) (hnm : (fn.name == "runtime.NumGoroutine") = false)
    (h : ∀ vC, AWp P c (fun _ _ => False) (fun _ _ _ => False) (fun env os => ∃ k at_ h, ResIs P fn env os (.optr k 0) ∧ os[k]? = some (skL T bs vC at_ h) ∧ SOk bs at_ h) (Env.start [.ro (roB vC bs)] (nt - 1)) []) : AFnF P f T bs :=
  AFnF.of hf hb hnm (by rw [hnt]) h

section
variable {P : Program} {env : Env} {os : List AO} {d : Option Tmp} {ty : TypeId} {pos : String} {af : Array Edge} {g : Option (Nat × Bool)}
end
section
variable {P : Program} {env : Env} {os : List AO} {d : Tmp} {ty : TypeId} {pos : String} {af : Array Edge} {l rest : List Oper} {K : APost}
end
end Go.Proofs.Ytcolpjpppdmanaa
/-
  The source of the draws: a number from it, and the source itself. Condition: not too many bytes.
-/
namespace Go.Proofs.Ytcolpjpppdmanaa
open Go Go.RowKit
attribute [local irreducible] AWp AOps ResIs Ret1 QOp LOp COp AFnV AFn Imms LeE LeO
set_option maxHeartbeats 1000000
set_option linter.unusedSimpArgs false
set_option linter.unusedVariables false

/-- A number below n, or 0. -/
def Nx (n : Int) (rv : Value) : Prop := ∃ x : Int, rv = .int .i64 x ∧ 0 ≤ x ∧ (1 ≤ n → x < n) ∧ (n < 1 → x = 0)
set_option maxHeartbeats 4000000 in
theorem l01Next_c (bs : List Int) (hl : bs.length ≤ 1048576) (hbs : ∀ i, 0 ≤ geti bs i ∧ geti bs i ≤ 255) (n : Int) (hn : n ≤ 4611686018427387904) :
    AFnS Try.prog 17 57 bs [.int .i64 n] (Nx n) := by
  (refine AFnS.start Try.func17 Try.ntmps17 rfl (by kernel_rfl) fun K vC at0 hh0 hI0 => ?_; simp only [Env.start, enumF, List.map_cons, List.map_nil, List.length_cons, List.length_nil, Nat.reduceAdd, Nat.reduceSub, Nat.zero_add, List.cons_append, List.nil_append])
  obtain ⟨⟨a0, a1⟩, h0⟩ := hI0
  have hb0 := hbs at0
  repeat' (first | (apply AOps.nil; try simp only [List.nil_append, List.cons_append, List.set_cons_zero, List.set_cons_succ, List.length_cons, List.length_nil, Nat.reduceAdd, AV.sh, AV.sh1, AV.sh0, AO.sh, List.map_cons, List.map_nil, Nat.zero_add, Nat.add_zero, setAll]) | (apply w_move; exact rfl; exact rfl) | (apply w_assign; exact rfl; exact rfl) | apply AWp.seq | apply AWp.region | ((apply AWp.condP; exact rfl) <;> intro h) | apply AWp.ret | apply AWp.skip | (apply AWp.regionQ; kernel_rfl; kernel_rfl) | ((first | apply w_nilck | apply w_convi); iterate 2 exact rfl) | (apply w_lenby; exact rfl; exact rfl; (exact rdB_ro _ _)) | (apply w_idxby; exact rfl; exact rfl; (exact rdB_ro _ _); exact rfl) | (apply w_ldby; exact rfl; exact rfl; (focus exact rfl)) | (apply w_umul; exact rfl; exact rfl; exact rfl; intro cU hU) | (apply w_uadd; exact rfl; exact rfl; exact rfl; intro cU hU) | (apply w_ushr; exact rfl; exact rfl; exact rfl; (focus (assumption)); intro cU hU) | (apply w_uand; exact rfl; exact rfl; exact rfl; (focus (assumption)); intro cU hU) | (apply w_convbi; exact rfl; exact rfl; exact hbs _) | omega | ((first | apply w_lss | apply w_add | apply w_ld | apply w_fa); iterate 3 exact rfl) | (apply w_rem; exact rfl; exact rfl; exact rfl; (focus (omega; done)); (focus (omega; done))) | (apply w_ldb; iterate 5 exact rfl) | (apply w_stbv; iterate 6 exact rfl) | (apply inI_of <;> omega))
  · exact ⟨_, _, _, .v1 Try.results17 rfl, ⟨0, rfl, by omega, by omega, fun _ => rfl⟩, ⟨⟨a0, a1⟩, h0⟩, _, rfl⟩
  · have hm := Int.emod_nonneg (cU + geti bs at0) (b := n) (by omega)
    have hm2 := Int.emod_lt_of_pos (cU + geti bs at0) (b := n) (by omega)
    exact ⟨_, _, _, .v1 Try.results17 rfl, ⟨_, rfl, hm, fun _ => hm2, fun _ => by omega⟩, ⟨⟨by omega, by omega⟩, by assumption⟩, _, rfl⟩
  · have hm := Int.emod_nonneg cU (b := n) (by omega)
    have hm2 := Int.emod_lt_of_pos cU (b := n) (by omega)
    exact ⟨_, _, _, .v1 Try.results17 rfl, ⟨_, rfl, hm, fun _ => hm2, fun _ => by omega⟩, ⟨⟨by omega, by omega⟩, by assumption⟩, _, rfl⟩
set_option maxHeartbeats 4000000 in
theorem l01From_c (bs : List Int) (hl : bs.length ≤ 1048576) (hbs : ∀ i, 0 ≤ geti bs i ∧ geti bs i ≤ 255) : AFnF Try.prog 16 57 bs := by
  (refine AFnF.start Try.func16 Try.ntmps16 rfl (by kernel_rfl) fun vC => ?_; simp only [Env.start, enumF, List.map_cons, List.map_nil, List.length_cons, List.length_nil, Nat.reduceAdd, Nat.reduceSub, Nat.zero_add, List.cons_append, List.nil_append])
  repeat' (first | (apply AOps.nil; try simp only [List.nil_append, List.cons_append, List.set_cons_zero, List.set_cons_succ, List.length_cons, List.length_nil, Nat.reduceAdd, AV.sh, AV.sh1, AV.sh0, AO.sh, List.map_cons, List.map_nil, Nat.zero_add, Nat.add_zero, setAll]) | (apply w_move; exact rfl; exact rfl) | (apply w_assign; exact rfl; exact rfl) | apply AWp.seq | apply AWp.region | apply AWp.block | ((first | apply w_convu | apply w_boxa); iterate 2 exact rfl) | (apply w_lenby; exact rfl; exact rfl; (exact rdB_ro _ _)) | (apply w_uadd; exact rfl; exact rfl; exact rfl; intro cU hU) | (apply w_build23; exact rfl; exact rfl; exact rfl; exact rfl; (exact one_rb); exact one_val rfl rfl) | omega)
  refine AWp.loop (ι := Nat × Int) (fun x => ⟨38, [(0, .ro (roB vC bs)), (3, .optr 0 0), (4, .i x.1)]⟩) (fun x => [skL 57 bs vC 0 x.2]) (fun x => x.1 ≤ bs.length ∧ (0 ≤ x.2 ∧ x.2 < 18446744073709551616)) (fun x => bs.length - x.1) (0, cU) ⟨Nat.zero_le _, hU⟩ ⟨lee rfl (by (repeat (first | exact le_nil | refine le_eq rfl rfl ?_))), by (repeat (first | exact lo_nil | refine lo_eq rfl ?_)), rfl, rfl⟩ ?_
  rintro ⟨i, hv⟩ ⟨i0, hh⟩
  simp only at i0 hh
  by_cases hi : i < bs.length
  · by_cases h4 : i < 4096
    · repeat' (first | (apply AOps.nil; try simp only [List.nil_append, List.cons_append, List.set_cons_zero, List.set_cons_succ, List.length_cons, List.length_nil, Nat.reduceAdd, AV.sh, AV.sh1, AV.sh0, AO.sh, List.map_cons, List.map_nil, Nat.zero_add, Nat.add_zero, setAll]) | ((apply AOps.splitP; exact rfl; exact rfl) <;> intro h) | (apply w_move; exact rfl; exact rfl) | (apply w_assign; exact rfl; exact rfl) | apply AWp.seq | apply AWp.region | ((apply AWp.condP; exact rfl) <;> intro h) | (apply AWp.condF; exact rfl) | apply AWp.block | apply AWp.ret | apply AWp.exit | apply AWp.skip | (apply w_skip; exact rfl) | (apply w_pickT; exact rfl; exact rfl; exact rfl) | (apply w_pickF; exact rfl; exact rfl; exact rfl) | (apply w_lenby; exact rfl; exact rfl; (exact rdB_ro _ _)) | omega | ((apply w_lss); iterate 3 exact rfl))
      have hw := wrap_u64 (IntKind.u64.wrap (IntKind.u64.wrap (hv * 1099511628211) + geti bs i) + 11)
      refine AWp.regionG [] (by kernel_rfl) (envC := ⟨38, [(0, .ro (roB vC bs)), (3, .optr 0 0), (4, .i i)]⟩) (osC := [skL 57 bs vC 0 (IntKind.u64.wrap (IntKind.u64.wrap (IntKind.u64.wrap (hv * 1099511628211) + geti bs i) + 11))]) rfl (by first | exact rfl | (simp [AO.lim, AV.lim, bL_lim]; done)) ?_ ?_
      · repeat' (first | (apply AOps.nil; try simp only [List.nil_append, List.cons_append, List.set_cons_zero, List.set_cons_succ, List.length_cons, List.length_nil, Nat.reduceAdd, AV.sh, AV.sh1, AV.sh0, AO.sh, List.map_cons, List.map_nil, Nat.zero_add, Nat.add_zero, setAll]) | (apply w_move; exact rfl; exact rfl) | ((first | apply w_umulx | apply w_uaddx | apply w_idx | apply w_ld | apply w_fa); iterate 3 exact rfl) | ((apply w_nilck); iterate 2 exact rfl) | (apply w_idxby; exact rfl; exact rfl; (exact rdB_ro _ _); exact rfl) | (apply w_ldby; exact rfl; exact rfl; (focus exact rfl)) | (apply w_convbu; exact rfl; exact rfl; exact hbs _) | apply AllOfG.nil | (apply AllOfG.consQ; exact rfl; exact rfl) | (apply AllOfG.consS; exact rfl; exact rfl) | (apply AAnyG.takeW; exact rfl; exact rfl; kernel_rfl; kernel_rfl) | (apply AAnyG.takeL; exact rfl; exact rfl; kernel_rfl) | (apply AAnyG.all; exact rfl) | (apply AAnyG.done; exact rfl) | omega | (apply w_ldb; iterate 5 exact rfl) | (apply w_stbv; iterate 6 exact rfl))
        all_goals (apply Or.inl; refine ⟨lee rfl ?_, ?_, rfl, (by first | exact rfl | (simp [AO.lim, AV.lim, bL_lim]; done))⟩; (focus ((repeat (first | exact le_nil | refine le_eq rfl rfl ?_)); done)); (focus ((repeat (first | exact lo_nil | refine lo_eq rfl ?_)); done)))
      generalize IntKind.u64.wrap (IntKind.u64.wrap (IntKind.u64.wrap (hv * 1099511628211) + geti bs i) + 11) = h2 at *
      repeat' (first | (apply AOps.nil; try simp only [List.nil_append, List.cons_append, List.set_cons_zero, List.set_cons_succ, List.length_cons, List.length_nil, Nat.reduceAdd, AV.sh, AV.sh1, AV.sh0, AO.sh, List.map_cons, List.map_nil, Nat.zero_add, Nat.add_zero, setAll]) | (apply w_move; exact rfl; exact rfl) | (apply w_assign; exact rfl; exact rfl) | apply AWp.region | ((apply w_add); iterate 3 exact rfl) | (apply inI_of <;> omega))
      exact ⟨(i + 1, h2), ⟨by simp only; omega, hw⟩, by simp only; omega, ⟨lee rfl (by (repeat (first | exact le_nil | refine le_eq rfl rfl ?_))), by (repeat (first | exact lo_nil | refine lo_eq rfl ?_)), rfl, rfl⟩⟩
    · repeat' (first | (apply AOps.nil; try simp only [List.nil_append, List.cons_append, List.set_cons_zero, List.set_cons_succ, List.length_cons, List.length_nil, Nat.reduceAdd, AV.sh, AV.sh1, AV.sh0, AO.sh, List.map_cons, List.map_nil, Nat.zero_add, Nat.add_zero, setAll]) | ((apply AOps.splitP; exact rfl; exact rfl) <;> intro h) | (apply w_move; exact rfl; exact rfl) | (apply w_assign; exact rfl; exact rfl) | apply AWp.seq | apply AWp.region | ((apply AWp.condP; exact rfl) <;> intro h) | (apply AWp.condF; exact rfl) | apply AWp.block | apply AWp.ret | apply AWp.exit | apply AWp.skip | (apply w_skip; exact rfl) | (apply w_pickT; exact rfl; exact rfl; exact rfl) | (apply w_pickF; exact rfl; exact rfl; exact rfl) | (apply w_lenby; exact rfl; exact rfl; (exact rdB_ro _ _)) | omega | ((apply w_lss); iterate 3 exact rfl))
      exact ⟨0, 0, hv, .v1 Try.results16 rfl, rfl, ⟨by omega, by omega⟩, hh⟩
  · repeat' (first | (apply AOps.nil; try simp only [List.nil_append, List.cons_append, List.set_cons_zero, List.set_cons_succ, List.length_cons, List.length_nil, Nat.reduceAdd, AV.sh, AV.sh1, AV.sh0, AO.sh, List.map_cons, List.map_nil, Nat.zero_add, Nat.add_zero, setAll]) | ((apply AOps.splitP; exact rfl; exact rfl) <;> intro h) | (apply w_move; exact rfl; exact rfl) | (apply w_assign; exact rfl; exact rfl) | apply AWp.seq | apply AWp.region | (apply AWp.condF; exact rfl) | apply AWp.ret | apply AWp.exit | (apply w_skip; exact rfl) | (apply w_pickF; exact rfl; exact rfl; exact rfl) | (apply w_lenby; exact rfl; exact rfl; (exact rdB_ro _ _)) | omega | ((apply w_lss); iterate 3 exact rfl))
    exact ⟨0, 0, hv, .v1 Try.results16 rfl, rfl, ⟨by omega, by omega⟩, hh⟩
end Go.Proofs.Ytcolpjpppdmanaa
/-
  A literal slice of four own rows, read as rows. No condition.
-/
namespace Go.Proofs.Ytcolpjpppdmanaa
open Go Go.RowKit
set_option linter.unusedSimpArgs false

section
variable {P : Program} {env : Env} {os : List AO} {d : Option Tmp} {ty : TypeId} {pos : String} {af : Array Edge} {g : Option (Nat × Bool)}
end
/-- An own row that is handed on reads as its numbers. -/
theorem reads_row {base : Nat} {w : World} {gs : List Gh} {os : List AO} {ok : Nat → Prop} (hro : ∀ (h : Nat) g o, gs[h]? = some g → os[h]? = some o → RO base w (okOf gs os) gs g o) {k : Nat} {e : TypeId} {ys : List Int} (hs : os[k]? = some (.sli e ys))
    (hok : ∀ g o, gs[k]? = some g → os[k]? = some o → o ≠ .dead → ∀ b, b ∈ g.bl → ok b) {v : Value} (hv : RV w (okOf gs os) gs v (.own k)) : IntsAt w ok v ys := by
  cases hv with
  | @own _ g hg =>
    obtain ⟨a1, a2, a3⟩ := hro _ _ _ hg hs
    refine ⟨?_, a2⟩
    obtain ⟨p, cap, e0⟩ := ownsRow_slice a1
    rcases Nat.eq_zero_or_pos ys.length with h0 | h0
    · have : ys = [] := List.length_eq_zero_iff.1 h0
      subst this
      rcases a1.2 with ⟨h1, h2⟩ | ⟨b, cap, cur, h1, r⟩
      · rw [h1]; exact ⟨none, 0, rfl, by simp, by simp [maxLen], fun hp => by simp at hp⟩
      · rw [h1]; exact ⟨_, cap, rfl, by simp, r.2.2.2.1, fun hp => by simp at hp⟩
    · obtain ⟨b, cap, e1, e2, _⟩ := own_slice a1 (i := 0) (by simpa using h0)
      have hb : g.b = b := a3.eq e2
      rcases a1.2 with ⟨h1, h2⟩ | ⟨b', cap', cur, h1, r⟩
      · rw [h1] at e1; simp at h2; subst h2; simp at h0
      · rw [h1]
        refine ⟨_, cap', by simp, ?_, r.2.2.2.1, fun _ => ⟨b', 0, rfl, ?_, fun i u hu => ?_⟩⟩
        · have := r.2.2.1; simpa using this
        · refine hok _ _ hg hs (by simp) b' ?_
          rw [h1] at e1; cases e1
          rcases a3 with ⟨h3, h4⟩ | ⟨h3, h4⟩
          · rw [h1] at h3; cases h3
          · rw [h4, hb]; simp
        · have hi := (List.getElem?_eq_some_iff.1 hu).1
          have h9 := (own_slice a1 (i := i) hi)
          obtain ⟨b2, cap2, e3, e4, e5, _⟩ := h9
          rw [h1] at e3; cases e3
          rw [Nat.zero_add, e5]; exact hu
section
variable {P : Program} {env : Env} {os : List AO} {d : Tmp} {ty : TypeId} {pos : String} {af : Array Edge} {l rest : List Oper} {K : APost}
end
end Go.Proofs.Ytcolpjpppdmanaa
/-
  A source of numbers whose place and hash are not told; drawn regions that come to one of a family of states; functions that draw a list, or pick from one. No condition.
-/
namespace Go.Proofs.Ytcolpjpppdmanaa
open Go Go.RowKit
set_option linter.unusedSimpArgs false

section
variable {P : Program} {N : APost} {X : Nat → APost} {Rt : APost} {env : Env} {os : List AO} {l : List Oper}
/-- A region that draws its order: every order comes to a state of the family. -/
theorem AWp.regionAI {ι : Type} (I : ι → Prop) (E : ι → Env) (O : ι → List AO) {id : Nat} (hm : P.follows .mixedOrders = true) {n : Nat} (hn : l.length = n) {listed : List Bool} (hl : List.replicate n false = listed)
    (h : AAny P l n listed (fun e o => ∃ x, I x ∧ (Fit e o (E x) (O x) ∨ ∃ σ, FitS σ e o (E x) (O x))) env os) (hk : ∀ x, I x → N (E x) (O x)) : AWp P (.region id l.toArray true) N X Rt env os := by
  intro base w0 w gs tm hr hb
  have hbel : Below w.heap.size w { w with drawn := w.drawn + 1 } := (Below.refl _ _).drew
  refine wp_region_any hm ?_
  have := h base w0 _ gs tm (hr.below hbel) (hb.trans (hbel.mono hr.hb)) X Rt
  rw [← hl] at this
  have e1 : (List.replicate n false).toArray = Array.replicate l.toArray.size false := by simp [hn]
  rw [e1] at this
  have e2 : l.toArray.size = n := by simpa using hn
  rw [e2] at this ⊢
  refine AWp.regionA.wpAny_monoQ ?_ this
  intro e a w' hq
  cases e with
  | normal =>
    obtain ⟨env', os', gs', r1, r2, r3, x, hx, hf⟩ := hq
    rcases hf with hf | ⟨σ, hf⟩
    · obtain ⟨gs2, r4⟩ := r1.fit hf
      exact ⟨_, _, gs2, r4, r2, r3, hk x hx⟩
    · obtain ⟨gs2, r4⟩ := r1.fits hf
      exact ⟨_, _, gs2, r4, r2, r3, hk x hx⟩
  | exit j => exact hq
  | ret => exact hq
  | goto l => exact hq
  | panic ch => exact hq
  | outgrown => exact hq
end

def atR (n : Nat) : Ro where
  p _ _ v := ∃ a : Int, v = .int .i64 a ∧ 0 ≤ a ∧ a ≤ n
  up _ h := h
def hR : Ro where
  p _ _ v := ∃ a : Int, v = .int .u64 a ∧ 0 ≤ a ∧ a < 18446744073709551616
  up _ h := h
abbrev skO (T : TypeId) (bs : List Int) (a0 : AV) : AO := .bx T [a0, .ro (atR bs.length), .ro hR]

section
variable {P : Program} {env : Env} {os : List AO} {d : Option Tmp} {ty : TypeId} {pos : String} {af : Array Edge} {g : Option (Nat × Bool)}
/-- What is known of a source. -/
theorem sk_at {base : Nat} {w : World} {gs : List Gh} {tm : Array Value} {h0 : Nat} {T : TypeId} {bs : List Int} {a0 : AV} (hr : Rel base w gs env os tm) (o0 : os[h0]? = some (skO T bs a0)) (ra : RdB a0 bs) :
    ∃ g0 z0 at_ hh, gs[h0]? = some g0 ∧ Sk T base w g0 z0 at_ hh ∧ SOk bs at_ hh ∧ BysAt w (fun b => b ∉ g0.bl) z0 bs ∧ RV w (okOf gs os) gs z0 a0 ∧ (∀ b, okOf gs os b → b ∉ g0.bl) := by
  obtain ⟨g0, q0⟩ : ∃ x, gs[h0]? = some x := ⟨_, List.getElem?_eq_getElem (by rw [hr.hl]; exact (List.getElem?_eq_some_iff.1 o0).1)⟩
  obtain ⟨cs, d1, d2, d3, d4, d5, d6, d7⟩ := hr.ho _ _ _ q0 o0
  match cs, d5 with
  | [z0, z1, z2], _ =>
    have t0 : RV w (okOf gs os) gs z0 a0 := d7 0
    have t1 : RV w (okOf gs os) gs z1 (.ro (atR bs.length)) := d7 1
    have t2 : RV w (okOf gs os) gs z2 (.ro hR) := d7 2
    cases t1 with
    | ro t1 =>
      cases t2 with
      | ro t2 =>
        obtain ⟨at_, rfl, b1, b2⟩ := t1
        obtain ⟨hh, rfl, b3, b4⟩ := t2
        have okb : ∀ b, okOf gs os b → b ∉ g0.bl := fun b hb => hb h0 g0 _ q0 o0 trivial
        exact ⟨g0, z0, at_, hh, q0, ⟨d1, d6 _ (by simp), d2, d3, d4⟩, ⟨⟨b1, b2⟩, b3, b4⟩, (ra _ _ _ _ t0).mono fun b hb _ => ⟨okb b hb, rfl⟩, t0, okb⟩
/-- The source after a call. -/
theorem sk_back {base : Nat} {w w' : World} {gs : List Gh} {tm : Array Value} {h0 : Nat} {T : TypeId} {bs : List Int} {a0 : AV} (hr : Rel base w gs env os tm) (o0 : os[h0]? = some (skO T bs a0)) {g0 : Gh} {z0 : Value} {at' h' : Int} (q0 : gs[h0]? = some g0)
    (t0 : RV w (okOf gs os) gs z0 a0) (hI' : SOk bs at' h') (hWk' : Sk T base w' g0 z0 at' h') (hsz : w.heap.size ≤ w'.heap.size) (hfr : ∀ b, b < w.heap.size → b ∉ g0.bl → w'.heap[b]? = w.heap[b]?) : Rel base w' gs env os tm := by
  obtain ⟨c1, c1', c2, c3, c4⟩ := hWk'
  obtain ⟨⟨k1, k2⟩, k3, k4⟩ := hI'
  have l0 := (List.getElem?_eq_some_iff.1 o0).1
  refine hr.upds [h0] rfl (fun i hi => rfl) (fun i hi o o' ho ho' => ?_) (fun b hb hn => ?_) hsz (fun kp i hi gx o' hgx ho' => ?_)
  · simp only [List.mem_cons, List.not_mem_nil, or_false] at hi
    subst hi
    rw [o0] at ho ho'; cases ho; cases ho'
    exact ⟨trivial, trivial⟩
  · exact hfr b hb (hn h0 (by simp) _ q0)
  · simp only [List.mem_cons, List.not_mem_nil, or_false] at hi
    subst hi
    rw [o0] at ho'; cases ho'
    rw [q0] at hgx; cases hgx
    refine ⟨[z0, .int .i64 at', .int .u64 h'], c1, c2, c3, c4, rfl, ?_, fun j => ?_⟩
    · intro z hz
      simp only [List.mem_cons, List.not_mem_nil, or_false] at hz
      rcases hz with rfl | rfl | rfl
      · exact c1'
      · rfl
      · rfl
    · match j with
      | 0 => exact t0.mono kp fun _ _ h => h
      | 1 => exact .ro ⟨at', rfl, k1, k2⟩
      | 2 => exact .ro ⟨h', rfl, k3, k4⟩
      | j + 3 => exact .any _
theorem c_callso {f : FuncId} {T : TypeId} {bs : List Int} {as0 : List Value} {Q : Value → Prop} {h0 : Nat} {a0 : AV} (hc : AFnS P f T bs as0 Q) {x : Operand} {xs : List Operand} {ats : Array TypeId} (hx : AV.ev env x = .optr h0 0)
    (o0 : os[h0]? = some (skO T bs a0)) (hxs : xs.map (AV.ev env) = as0.map AV.val) (ra : RdB a0 bs) :
    COp P ⟨d, .call { callee := .value (.func f), args := (x :: xs).toArray, argTypes := ats }, ty, pos, af, g⟩ env os (fun r e' o => ∃ rv, r = .val rv ∧ e' = env ∧ Q rv ∧ o = os) := by
  intro base w gs tm hr
  obtain ⟨g0, z0, at_, hh, q0, hWk, hI, hW, t0, okb⟩ := sk_at hr o0 ra
  have hxv := hr.ev x
  rw [hx] at hxv
  have ex : Act.eval ⟨tm, []⟩ x = g0.v := by
    generalize Act.eval ⟨tm, []⟩ x = v at hxv
    cases hxv with
    | optr hh => rw [q0] at hh; cases hh; exact hWk.v.symm
  have exs : xs.map (Act.eval ⟨tm, []⟩) = as0 := by
    have hlen : xs.length = as0.length := by simpa using congrArg List.length hxs
    apply List.ext_getElem (by simpa using hlen)
    intro i k1 k2
    have k3 : i < xs.length := by simpa using k1
    have : AV.ev env xs[i] = .val as0[i] := by
      have := congrArg (fun l => l[i]?) hxs
      simpa [List.getElem?_eq_getElem k3, List.getElem?_eq_getElem k2] using this
    simpa using hr.evv this
  refine ⟨f, _, run_call hc.1 (x :: xs) ats _ rfl w, ?_⟩
  have eargs : ((x :: xs).map (Act.eval ⟨tm, []⟩)).toArray = (g0.v :: as0).toArray := by rw [List.map_cons, ex, exs]
  rw [eargs]
  refine (hc.2 base w g0 z0 at_ hh hr.hb hWk hI hW).mono ?_
  rintro ev w' ⟨rv, at', h', rfl, hQ, hI', hWk', hbel, hfr⟩
  exact ⟨rv, .val rv, env, _, gs, rfl, ⟨rv, rfl, rfl, hQ, rfl⟩, sk_back hr o0 q0 t0 hI' hWk' hbel.size hfr, .val rv, hbel⟩
theorem c_callsof {f : FuncId} {T : TypeId} {bs : List Int} {a0 : AV} (hc : AFnF P f T bs) {x : Operand} {ats : Array TypeId} (hx : AV.ev env x = a0) (ra : RdB a0 bs) :
    COp P ⟨d, .call { callee := .value (.func f), args := #[x], argTypes := ats }, ty, pos, af, g⟩ env os (fun r e' o => r = .optr os.length 0 ∧ e' = env ∧ o = os ++ [skO T bs a0]) := by
  intro base w gs tm hr
  have t0 := hr.ev x
  rw [hx] at t0
  have hb0 := ra _ _ _ _ t0
  refine ⟨f, _, run_call hc.1 [x] ats _ rfl w, ?_⟩
  refine (hc.2 w (Act.eval ⟨tm, []⟩ x) (hb0.mono fun b hb _ => ⟨trivial, rfl⟩)).mono ?_
  rintro ev w' ⟨g0, at', h', rfl, ⟨⟨k1, k2⟩, k3, k4⟩, hSk, hbel⟩
  obtain ⟨c1, c1', c2, c3, c4⟩ := hSk
  have hlt : g0.b < w'.heap.size := (Array.getElem?_eq_some_iff.1 c1).1
  have hno : skO T bs a0 ≠ .dead → ∀ b, b ∈ g0.bl → w.heap.size ≤ b ∧ b < w'.heap.size := fun _ b hb => by
    rw [c3] at hb
    simp only [List.mem_cons, List.not_mem_nil, or_false] at hb
    subst hb; exact ⟨c2, hlt⟩
  have k := keeps_new (o := skO T bs a0) hr.hl hbel hno
  have hgs : ∀ (i : Nat) g', gs[i]? = some g' → (gs ++ [g0])[i]? = some g' := fun i g' e => by
    rw [List.getElem?_append_left (List.getElem?_eq_some_iff.1 e).1]; exact e
  refine ⟨g0.v, .optr os.length 0, env, _, gs ++ [g0], rfl, ⟨rfl, rfl, rfl⟩, hr.new hbel _ g0 hno ?_, ?_, hbel.mono hr.hb⟩
  · refine ⟨[Act.eval ⟨tm, []⟩ x, .int .i64 at', .int .u64 h'], c1, Nat.le_trans hr.hb c2, c3, c4, rfl, ?_, fun j => ?_⟩
    · intro z hz
      simp only [List.mem_cons, List.not_mem_nil, or_false] at hz
      rcases hz with rfl | rfl | rfl
      · exact c1'
      · rfl
      · rfl
    · match j with
      | 0 => exact t0.mono k hgs
      | 1 => exact .ro ⟨at', rfl, k1, k2⟩
      | 2 => exact .ro ⟨h', rfl, k3, k4⟩
      | j + 3 => exact .any _
  · rw [c4, ← hr.hl]
    exact .optr len_new
end
section
variable {P : Program} {env : Env} {os : List AO} {d : Tmp} {ty : TypeId} {pos : String} {af : Array Edge} {l rest : List Oper} {K : APost}
/-- A call under a guard that is met. -/
theorem AOps.cag {op : Op} {g : Option (Nat × Bool)} {Q : AV → Env → List AO → Prop} (hw : wantedA l env ⟨some d, op, ty, pos, af, g⟩ = some true) (ho : COp P ⟨some d, op, ty, pos, af, g⟩ env os Q) (h : ∀ r e o, Q r e o → AOps P .seq l rest K (e.up d r) o) :
    AOps P .seq l (⟨some d, op, ty, pos, af, g⟩ :: rest) K env os := by
  intro base w0 w gs tm hr hb X Rt
  obtain ⟨f, args, hrun, hc⟩ := ho base w gs tm hr
  have hwa := wantedA_spec hr hw
  unfold wpList
  rw [if_pos hwa]
  refine .inl ?_
  unfold Oper.wp
  rw [hrun]
  refine hc.mono ?_
  rintro e w' ⟨v, r, env1, os1, gs', rfl, hq, hr', hv, hb'⟩
  exact h r env1 os1 hq base w0 w' gs' _ (hr'.put hv d) (hb.trans hb') X Rt
theorem w_callso {g : Option (Nat × Bool)} {f : FuncId} {T : TypeId} {bs : List Int} {as0 : List Value} {Q : Value → Prop} {h0 : Nat} {a0 : AV} {x : Operand} {xs : List Operand} {ats : Array TypeId} (hc : AFnS P f T bs as0 Q)
    (hw : wantedA l env ⟨some d, .call { callee := .value (.func f), args := (x :: xs).toArray, argTypes := ats }, ty, pos, af, g⟩ = some true) (hx : evo env x = some (.optr h0 0))
    (o0 : os[h0]? = some (skO T bs a0)) (hxs : xs.map (AV.ev env) = as0.map AV.val) (ra : RdB a0 bs)
    (h' : ∀ rv, Q rv → AOps P .seq l rest K (env.up d (.val rv)) os) :
    AOps P .seq l (⟨some d, .call { callee := .value (.func f), args := (x :: xs).toArray, argTypes := ats }, ty, pos, af, g⟩ :: rest) K env os :=
  AOps.cag hw (c_callso hc (ev_of hx) o0 hxs ra) fun r e' o ⟨rv, e1, e2, h3, e5⟩ => by subst e1; subst e2; subst e5; exact h' rv h3
theorem w_callsof {f : FuncId} {T : TypeId} {bs : List Int} {a0 : AV} {m : Nat} {x : Operand} {ats : Array TypeId} (hc : AFnF P f T bs) (hx : evo env x = some a0) (ra : RdB a0 bs) (hm : os.length = m)
    (h' : AOps P .seq l rest K (env.up d (.optr m 0)) (os ++ [skO T bs a0])) :
    AOps P .seq l (⟨some d, .call { callee := .value (.func f), args := #[x], argTypes := ats }, ty, pos, af, none⟩ :: rest) K env os := by
  subst hm
  exact AOps.ca (c_callsof hc (ev_of hx) ra) fun r e' o ⟨e1, e2, e5⟩ => by subst e1; subst e2; subst e5; exact h'
end

/-! ### Functions that draw a struct of a number and a list -/
def AFnD (P : Program) (f : FuncId) (T e : TypeId) (bs : List Int) (Q : Int → List Int → Prop) : Prop :=
  HasBody P f ∧ ∀ base w g0 vC at_ h, base ≤ w.heap.size → Sk T base w g0 vC at_ h → SOk bs at_ h → BysAt w (fun b => b ∉ g0.bl) vC bs →
    Calls P f #[g0.v] w fun ev w' => ∃ n xs g1 at' h', ev = .returned (.agg #[.int .i64 n, g1.v]) ∧ Q n xs ∧ SOk bs at' h' ∧ Sk T base w' g0 vC at' h' ∧ RO w.heap.size w' (fun _ => True) [] g1 (.sli e xs) ∧
      (∀ b, b ∈ g1.bl → w.heap.size ≤ b ∧ b < w'.heap.size) ∧ Below base w w' ∧ ∀ b, b < w.heap.size → b ∉ g0.bl → w'.heap[b]? = w.heap[b]?
def DEnd (P : Program) (fn : Func) (T e : TypeId) (bs : List Int) (vC : Value) (K : Kp) (Q : Int → List Int → Prop) (env : Env) (os : List AO) : Prop :=
  ∃ n xs A, ResIs P fn env os (.agg [.val (.int .i64 n), A]) ∧ ((∃ k, A = .own (k + 2) ∧ os[k + 2]? = some (.sli e xs)) ∨ (A = .val (.slice none 0 0) ∧ xs = [])) ∧ Q n xs ∧ ∃ tl, os = .keep 2 K :: skO T bs (.ro (roB vC bs)) :: tl
theorem ownsRow_up {w : World} {b0 b1 : Nat} {e : TypeId} {size n : Nat} {v : Value} {xs : List Value} (h : w.ownsRow b0 e size v n xs) (hb : ∀ b, v.ownBlock = some b → b1 ≤ b) : w.ownsRow b1 e size v n xs := by
  refine ⟨h.1, ?_⟩
  rcases h.2 with h2 | ⟨b, cap, cur, rfl, r⟩
  · exact .inl h2
  · exact .inr ⟨b, cap, cur, rfl, hb b rfl, r.2⟩

set_option maxHeartbeats 2000000 in
theorem AFnD.of {P : Program} {f : FuncId} {fn : Func} {c : Code} {T e : TypeId} {bs : List Int} {Q : Int → List Int → Prop} {n : Nat} (hf : P.funcs[f]? = some fn) (hb : fn.body = some c) (hnm : (fn.name == "runtime.NumGoroutine") = false)
    (hn : fn.ntmps - 1 = n)
    (h : ∀ K vC, AWp P c (DEnd P fn T e bs vC K Q) (fun _ _ _ => False) (DEnd P fn T e bs vC K Q) (Env.start [.optr 1 0] n) [.keep 2 K, skO T bs (.ro (roB vC bs))]) :
    AFnD P f T e bs Q := by
  refine ⟨⟨fn, c, hf, hnm, hb⟩, fun base w g0 vC at_ hh hbase hC hI hW => calls_of_wp hf hb ?_⟩
  rw [show fn.ntmps - (#[g0.v] : Array Value).size = n from hn]
  obtain ⟨c1, c1', c2, c3, c4⟩ := hC
  obtain ⟨⟨i1, i2⟩, i3, i4⟩ := hI
  let bl : List Nat := (List.range w.heap.size).filter fun b => decide (base ≤ b) && !(g0.bl).contains b
  let gk : Gh := ⟨undef, 0, bl, []⟩
  let K : Kp := ⟨fun b => w.heap[b]?, [gk, g0]⟩
  have hlt : g0.b < w.heap.size := (Array.getElem?_eq_some_iff.1 c1).1
  have hbl : ∀ b, b ∈ bl ↔ b < w.heap.size ∧ base ≤ b ∧ b ∉ g0.bl := by
    intro b
    simp only [bl, List.mem_filter, List.mem_range, Bool.and_eq_true, decide_eq_true_eq, Bool.not_eq_true', List.contains_eq_mem, decide_eq_false_iff_not]
  have okk : ∀ b, b ∉ g0.bl → okOf [gk, g0] [.keep 2 K, skO T bs (.ro (roB vC bs))] b := by
    intro b hb i x y hx hy hl
    match i with
    | 0 => cases hy; exact hl.elim
    | 1 => cases hx; exact hb
    | i + 2 => simp at hx
  have kp : Keeps (fun b => b ∉ g0.bl) (okOf [gk, g0] [.keep 2 K, skO T bs (.ro (roB vC bs))]) w w := fun b hb _ => ⟨okk b hb, rfl⟩
  have hrel : Rel base w [gk, g0] (Env.start [.optr 1 0] n) [.keep 2 K, skO T bs (.ro (roB vC bs))] (#[g0.v] ++ Array.replicate n undef) := by
    refine ⟨hbase, rfl, by simp [Env.start], fun i => ?_, ?_, ?_, ?_⟩
    · refine start_rv [.optr 1 0] n #[g0.v] (fun i => ?_) i
      match i with
      | 0 =>
        show RV w _ _ g0.v (.optr 1 0)
        rw [c4]
        exact .optr (g := g0) rfl
      | i + 1 => exact .any _
    · intro i x y hx hy
      match i with
      | 0 =>
        cases hx; cases hy
        exact ⟨fun b _ => rfl, rfl, fun i x h => h⟩
      | 1 =>
        cases hx; cases hy
        refine ⟨[vC, .int .i64 at_, .int .u64 hh], c1, c2, c3, c4, rfl, ?_, fun j => ?_⟩
        · intro z hz
          simp only [List.mem_cons, List.not_mem_nil, or_false] at hz
          rcases hz with rfl | rfl | rfl
          · exact c1'
          · rfl
          · rfl
        · match j with
          | 0 => exact .ro ⟨rfl, hW.mono kp⟩
          | 1 => exact .ro ⟨at_, rfl, i1, i2⟩
          | 2 => exact .ro ⟨hh, rfl, i3, i4⟩
          | j + 3 => exact .any _
      | i + 2 => simp at hx
    · intro i j a b o1 o2 hij ha1 hb1 ho1 ho2 _ _ c hc1 hc2
      match i, j with
      | 0, 0 => omega
      | 0, 1 =>
        cases ha1; cases hb1
        exact ((hbl c).1 hc1).2.2 hc2
      | 1, 0 =>
        cases ha1; cases hb1
        exact ((hbl c).1 hc2).2.2 hc1
      | 1, 1 => omega
      | i + 2, _ => simp at ha1
      | 0, j + 2 => simp at hb1
      | 1, j + 2 => simp at hb1
    · intro i x y hx hy _ b hb
      match i with
      | 0 => cases hx; exact ⟨((hbl b).1 hb).2.1, ((hbl b).1 hb).1⟩
      | 1 =>
        cases hx
        rw [c3] at hb
        simp only [List.mem_cons, List.not_mem_nil, or_false] at hb
        subst hb; exact ⟨c2, hlt⟩
      | i + 2 => simp at hx
  have fin : ∀ {env : Env} {os1 : List AO} {gs2 : List Gh} {a : Act} {w' : World}, Rel base w' gs2 env os1 a.tmps → Below base w w' → DEnd P fn T e bs vC K Q env os1 →
      ∃ u, (results fn a.tmps).run P w' = .ok u w' ∧ (∃ n xs g1 at' h', Ending.returned u = .returned (.agg #[.int .i64 n, g1.v]) ∧ Q n xs ∧ SOk bs at' h' ∧ Sk T base w' g0 vC at' h' ∧ RO w.heap.size w' (fun _ => True) [] g1 (.sli e xs) ∧
      (∀ b, b ∈ g1.bl → w.heap.size ≤ b ∧ b < w'.heap.size) ∧ Below base w w' ∧ ∀ b, b < w.heap.size → b ∉ g0.bl → w'.heap[b]? = w.heap[b]?) := by
    rintro env os1 gs2 a w' hr hbel ⟨n1, xs, A, hres, hA, hQ, tl, rfl⟩
    obtain ⟨u, hu, hv⟩ := hres _ _ _ _ hr
    have hgl := hr.hl
    obtain ⟨x0, hx0⟩ : ∃ x, gs2[0]? = some x := ⟨_, List.getElem?_eq_getElem (by rw [hgl]; simp)⟩
    obtain ⟨r1, r2, r3⟩ := hr.ho 0 _ _ hx0 rfl
    have p0 := r3 0 gk rfl
    have p1 := r3 1 g0 rfl
    have e0 : x0 = gk := by rw [hx0] at p0; exact Option.some.inj p0
    subst e0
    have o1 := hr.ho 1 _ _ p1 rfl
    obtain ⟨cs, d1, d2, d3, d4, d5, d6, d7⟩ := o1
    match cs, d5 with
    | [z0, z1, z2], _ =>
      have q0 := d7 0
      have q1 : RV w' _ gs2 z1 (.ro (atR bs.length)) := d7 1
      have q2 : RV w' _ gs2 z2 (.ro hR) := d7 2
      have w0 : z0 = vC := by cases q0 with | ro h => exact h.1
      obtain ⟨at', e1, b1, b2⟩ : ∃ a : Int, z1 = .int .i64 a ∧ 0 ≤ a ∧ a ≤ bs.length := by cases q1 with | ro h => exact h
      obtain ⟨h', e2, b3, b4⟩ : ∃ a : Int, z2 = .int .u64 a ∧ 0 ≤ a ∧ a < 18446744073709551616 := by cases q2 with | ro h => exact h
      subst w0 e1 e2
      have hfr : ∀ b, b < w.heap.size → b ∉ g0.bl → w'.heap[b]? = w.heap[b]? := fun b hb hok => by
        rcases Nat.lt_or_ge b base with h6 | h6
        · exact hbel.block b h6
        · exact r1 b ((hbl b).2 ⟨hb, h6, hok⟩)
      have hSk : Sk T base w' g0 z0 at' h' := ⟨d1, c1', c2, c3, c4⟩
      have hag : ∃ s, u = .agg #[.int .i64 n1, s] ∧ RV w' (okOf gs2 (.keep 2 K :: skO T bs (.ro (roB z0 bs)) :: tl)) gs2 s A := by
        cases hv with
        | @agg vs _ f1 f2 f3 =>
          match vs, f1 with
          | [s0, s1], _ =>
            have t0 := f3 0
            have t1 := f3 1
            simp only [List.getD_cons_zero, List.getD_cons_succ] at t0 t1
            cases t0
            exact ⟨s1, rfl, t1⟩
      obtain ⟨s, rfl, hs⟩ := hag
      rcases hA with ⟨k, rfl, hk⟩ | ⟨rfl, rfl⟩
      · cases hs with
        | @own _ g1 hg =>
          obtain ⟨a1, a2, a3⟩ := hr.ho _ _ _ hg hk
          have hbnd : ∀ b, b ∈ g1.bl → w.heap.size ≤ b ∧ b < w'.heap.size := fun b hb => by
            have h5 := hr.hn _ _ _ hg hk (by simp) b hb
            refine ⟨?_, h5.2⟩
            rcases Nat.lt_or_ge b w.heap.size with h6 | h6
            · exfalso
              by_cases h7 : b ∈ g0.bl
              · exact hr.hd (k + 2) 1 g1 g0 _ _ (by omega) hg p1 hk rfl (by simp) (by simp) b hb h7
              · exact hr.hd (k + 2) 0 g1 gk _ _ (by omega) hg p0 hk rfl (by simp) (by simp) b hb ((hbl b).2 ⟨h6, h5.1, h7⟩)
            · exact h6
          refine ⟨_, hu, n1, xs, g1, at', h', rfl, hQ, ⟨⟨b1, b2⟩, b3, b4⟩, hSk, ⟨ownsRow_up a1 fun b hb => ?_, a2, a3⟩, hbnd, hbel, hfr⟩
          exact (hbnd b (by
            rcases a3 with ⟨h3, h4⟩ | ⟨h3, h4⟩
            · rw [h3] at hb; cases hb
            · rw [h4]; rw [h3] at hb; cases hb; simp)).1
      · cases hs
        refine ⟨_, hu, n1, [], ⟨.slice none 0 0, 0, [], []⟩, at', h', rfl, hQ, ⟨⟨b1, b2⟩, b3, b4⟩, hSk, ⟨⟨rfl, .inl ⟨rfl, rfl⟩⟩, by simp, .inl ⟨rfl, rfl⟩⟩, fun b hb => by simp at hb, hbel, hfr⟩
  refine wp_mono (h K vC base w w _ _ hrel (Below.refl _ _)) ?_
  intro ev a w' hq
  cases ev with
  | normal =>
    obtain ⟨env, os1, gs1, hr, hd, hbel, hx⟩ := hq
    obtain ⟨u, hu, hw⟩ := fin hr hbel hx
    exact ⟨hd, u, hu, hw⟩
  | exit j => obtain ⟨_, _, _, _, _, _, hx⟩ := hq; exact hx.elim
  | ret =>
    obtain ⟨env, os1, gs1, hr, hd, hbel, hx⟩ := hq
    obtain ⟨u, hu, hw⟩ := fin hr hbel hx
    exact ⟨hd, u, hu, hw⟩
  | goto l => exact (hq : False).elim
  | panic ch => exact (hq : False).elim
  | outgrown => exact (hq : False).elim
theorem AFnD.start {P : Program} {f : FuncId} {fn : Func} {nt : Nat} {T e : TypeId} {bs : List Int} {Q : Int → List Int → Prop} (hf : P.funcs[f]? = some fn) (hnt : fn.ntmps = nt) {c : Code} (hb : fn.body = some c) (hnm : (fn.name == "runtime.NumGoroutine") = false)
    (h : ∀ K vC, AWp P c (DEnd P fn T e bs vC K Q) (fun _ _ _ => False) (DEnd P fn T e bs vC K Q) (Env.start [.optr 1 0] (nt - 1)) [.keep 2 K, skO T bs (.ro (roB vC bs))]) :
    AFnD P f T e bs Q := AFnD.of hf hb hnm (by rw [hnt]) h
end Go.Proofs.Ytcolpjpppdmanaa
/-
  Functions that draw a list, called; functions that pick from a list. No condition.
-/
namespace Go.Proofs.Ytcolpjpppdmanaa
open Go Go.RowKit
set_option linter.unusedSimpArgs false

section
variable {P : Program} {env : Env} {os : List AO} {d : Option Tmp} {ty : TypeId} {pos : String} {af : Array Edge} {g : Option (Nat × Bool)}
end
section
variable {P : Program} {env : Env} {os : List AO} {d : Tmp} {ty : TypeId} {pos : String} {af : Array Edge} {l rest : List Oper} {K : APost}
end

/-! ### Functions that are handed a list -/
def AFnL (P : Program) (f : FuncId) (T : TypeId) (bs : List Int) (L : List Int) (Q : Value → Prop) : Prop :=
  HasBody P f ∧ ∀ base w g0 vC vL at_ h, base ≤ w.heap.size → Sk T base w g0 vC at_ h → SOk bs at_ h → BysAt w (fun b => b ∉ g0.bl) vC bs → IntsAt w (fun b => b ∉ g0.bl) vL L →
    Calls P f #[g0.v, vL] w fun ev w' => ∃ rv at' h', ev = .returned rv ∧ Q rv ∧ SOk bs at' h' ∧ Sk T base w' g0 vC at' h' ∧ Below base w w' ∧ ∀ b, b < w.heap.size → b ∉ g0.bl → w'.heap[b]? = w.heap[b]?
theorem AFnL.mono {P : Program} {f : FuncId} {T : TypeId} {bs L : List Int} {Q Q' : Value → Prop} (h : AFnL P f T bs L Q) (hq : ∀ v, Q v → Q' v) : AFnL P f T bs L Q' :=
  ⟨h.1, fun base w g0 vC vL at_ hh a b c d e => (h.2 base w g0 vC vL at_ hh a b c d e).mono fun _ _ ⟨rv, at', h', k1, k2, k3⟩ => ⟨rv, at', h', k1, hq _ k2, k3⟩⟩
def LEnd (P : Program) (fn : Func) (T : TypeId) (bs : List Int) (vC : Value) (K : Kp) (Q : Value → Prop) (env : Env) (os : List AO) : Prop :=
  ∃ rv, ResIs P fn env os (.val rv) ∧ Q rv ∧ ∃ tl, os = .keep 2 K :: skO T bs (.ro (roB vC bs)) :: tl
set_option maxHeartbeats 2000000 in
theorem AFnL.of {P : Program} {f : FuncId} {fn : Func} {c : Code} {T : TypeId} {bs L : List Int} {Q : Value → Prop} {n : Nat} (hf : P.funcs[f]? = some fn) (hb : fn.body = some c) (hnm : (fn.name == "runtime.NumGoroutine") = false)
    (hn : fn.ntmps - 2 = n)
    (h : ∀ K vC, AWp P c (LEnd P fn T bs vC K Q) (fun _ _ _ => False) (LEnd P fn T bs vC K Q) (Env.start [.optr 1 0, .ints L] n) [.keep 2 K, skO T bs (.ro (roB vC bs))]) :
    AFnL P f T bs L Q := by
  refine ⟨⟨fn, c, hf, hnm, hb⟩, fun base w g0 vC vL at_ hh hbase hC hI hW hL => calls_of_wp hf hb ?_⟩
  rw [show fn.ntmps - (#[g0.v, vL] : Array Value).size = n from hn]
  obtain ⟨c1, c1', c2, c3, c4⟩ := hC
  obtain ⟨⟨i1, i2⟩, i3, i4⟩ := hI
  let bl : List Nat := (List.range w.heap.size).filter fun b => decide (base ≤ b) && !(g0.bl).contains b
  let gk : Gh := ⟨undef, 0, bl, []⟩
  let K : Kp := ⟨fun b => w.heap[b]?, [gk, g0]⟩
  have hlt : g0.b < w.heap.size := (Array.getElem?_eq_some_iff.1 c1).1
  have hbl : ∀ b, b ∈ bl ↔ b < w.heap.size ∧ base ≤ b ∧ b ∉ g0.bl := by
    intro b
    simp only [bl, List.mem_filter, List.mem_range, Bool.and_eq_true, decide_eq_true_eq, Bool.not_eq_true', List.contains_eq_mem, decide_eq_false_iff_not]
  have okk : ∀ b, b ∉ g0.bl → okOf [gk, g0] [.keep 2 K, skO T bs (.ro (roB vC bs))] b := by
    intro b hb i x y hx hy hl
    match i with
    | 0 => cases hy; exact hl.elim
    | 1 => cases hx; exact hb
    | i + 2 => simp at hx
  have kp : Keeps (fun b => b ∉ g0.bl) (okOf [gk, g0] [.keep 2 K, skO T bs (.ro (roB vC bs))]) w w := fun b hb _ => ⟨okk b hb, rfl⟩
  have hrel : Rel base w [gk, g0] (Env.start [.optr 1 0, .ints L] n) [.keep 2 K, skO T bs (.ro (roB vC bs))] (#[g0.v, vL] ++ Array.replicate n undef) := by
    refine ⟨hbase, rfl, by simp [Env.start], fun i => ?_, ?_, ?_, ?_⟩
    · refine start_rv [.optr 1 0, .ints L] n #[g0.v, vL] (fun i => ?_) i
      match i with
      | 0 =>
        show RV w _ _ g0.v (.optr 1 0)
        rw [c4]
        exact .optr (g := g0) rfl
      | 1 => exact .ints (hL.mono kp)
      | i + 2 => exact .any _
    · intro i x y hx hy
      match i with
      | 0 =>
        cases hx; cases hy
        exact ⟨fun b _ => rfl, rfl, fun i x h => h⟩
      | 1 =>
        cases hx; cases hy
        refine ⟨[vC, .int .i64 at_, .int .u64 hh], c1, c2, c3, c4, rfl, ?_, fun j => ?_⟩
        · intro z hz
          simp only [List.mem_cons, List.not_mem_nil, or_false] at hz
          rcases hz with rfl | rfl | rfl
          · exact c1'
          · rfl
          · rfl
        · match j with
          | 0 => exact .ro ⟨rfl, hW.mono kp⟩
          | 1 => exact .ro ⟨at_, rfl, i1, i2⟩
          | 2 => exact .ro ⟨hh, rfl, i3, i4⟩
          | j + 3 => exact .any _
      | i + 2 => simp at hx
    · intro i j a b o1 o2 hij ha1 hb1 ho1 ho2 _ _ c hc1 hc2
      match i, j with
      | 0, 0 => omega
      | 0, 1 =>
        cases ha1; cases hb1
        exact ((hbl c).1 hc1).2.2 hc2
      | 1, 0 =>
        cases ha1; cases hb1
        exact ((hbl c).1 hc2).2.2 hc1
      | 1, 1 => omega
      | i + 2, _ => simp at ha1
      | 0, j + 2 => simp at hb1
      | 1, j + 2 => simp at hb1
    · intro i x y hx hy _ b hb
      match i with
      | 0 => cases hx; exact ⟨((hbl b).1 hb).2.1, ((hbl b).1 hb).1⟩
      | 1 =>
        cases hx
        rw [c3] at hb
        simp only [List.mem_cons, List.not_mem_nil, or_false] at hb
        subst hb; exact ⟨c2, hlt⟩
      | i + 2 => simp at hx
  have fin : ∀ {env : Env} {os1 : List AO} {gs2 : List Gh} {a : Act} {w' : World}, Rel base w' gs2 env os1 a.tmps → Below base w w' → LEnd P fn T bs vC K Q env os1 →
      ∃ u, (results fn a.tmps).run P w' = .ok u w' ∧ (∃ rv at' h', Ending.returned u = .returned rv ∧ Q rv ∧ SOk bs at' h' ∧ Sk T base w' g0 vC at' h' ∧ Below base w w' ∧ ∀ b, b < w.heap.size → b ∉ g0.bl → w'.heap[b]? = w.heap[b]?) := by
    rintro env os1 gs2 a w' hr hbel ⟨rv, hres, hQ, tl, rfl⟩
    obtain ⟨u, hu, hv⟩ := hres _ _ _ _ hr
    cases hv
    have hgl := hr.hl
    obtain ⟨x0, hx0⟩ : ∃ x, gs2[0]? = some x := ⟨_, List.getElem?_eq_getElem (by rw [hgl]; simp)⟩
    obtain ⟨r1, r2, r3⟩ := hr.ho 0 _ _ hx0 rfl
    have p0 := r3 0 gk rfl
    have p1 := r3 1 g0 rfl
    have e0 : x0 = gk := by rw [hx0] at p0; exact Option.some.inj p0
    subst e0
    have o1 := hr.ho 1 _ _ p1 rfl
    obtain ⟨cs, d1, d2, d3, d4, d5, d6, d7⟩ := o1
    match cs, d5 with
    | [z0, z1, z2], _ =>
      have q0 := d7 0
      have q1 : RV w' _ gs2 z1 (.ro (atR bs.length)) := d7 1
      have q2 : RV w' _ gs2 z2 (.ro hR) := d7 2
      have w0 : z0 = vC := by cases q0 with | ro h => exact h.1
      obtain ⟨at', e1, b1, b2⟩ : ∃ a : Int, z1 = .int .i64 a ∧ 0 ≤ a ∧ a ≤ bs.length := by cases q1 with | ro h => exact h
      obtain ⟨h', e2, b3, b4⟩ : ∃ a : Int, z2 = .int .u64 a ∧ 0 ≤ a ∧ a < 18446744073709551616 := by cases q2 with | ro h => exact h
      subst w0 e1 e2
      refine ⟨_, hu, _, at', h', rfl, hQ, ⟨⟨b1, b2⟩, b3, b4⟩, ⟨d1, c1', c2, c3, c4⟩, hbel, fun b hb hok => ?_⟩
      rcases Nat.lt_or_ge b base with h6 | h6
      · exact hbel.block b h6
      · exact r1 b ((hbl b).2 ⟨hb, h6, hok⟩)
  refine wp_mono (h K vC base w w _ _ hrel (Below.refl _ _)) ?_
  intro ev a w' hq
  cases ev with
  | normal =>
    obtain ⟨env, os1, gs1, hr, hd, hbel, hx⟩ := hq
    obtain ⟨u, hu, hw⟩ := fin hr hbel hx
    exact ⟨hd, u, hu, hw⟩
  | exit j => obtain ⟨_, _, _, _, _, _, hx⟩ := hq; exact hx.elim
  | ret =>
    obtain ⟨env, os1, gs1, hr, hd, hbel, hx⟩ := hq
    obtain ⟨u, hu, hw⟩ := fin hr hbel hx
    exact ⟨hd, u, hu, hw⟩
  | goto l => exact (hq : False).elim
  | panic ch => exact (hq : False).elim
  | outgrown => exact (hq : False).elim
theorem AFnL.start {P : Program} {f : FuncId} {fn : Func} {nt : Nat} {T : TypeId} {bs L : List Int} {Q : Value → Prop} (hf : P.funcs[f]? = some fn) (hnt : fn.ntmps = nt) {c : Code} (hb : fn.body = some c) (hnm : (fn.name == "runtime.NumGoroutine") = false)
    (h : ∀ K vC, AWp P c (LEnd P fn T bs vC K Q) (fun _ _ _ => False) (LEnd P fn T bs vC K Q) (Env.start [.optr 1 0, .ints L] (nt - 2)) [.keep 2 K, skO T bs (.ro (roB vC bs))]) :
    AFnL P f T bs L Q := AFnL.of hf hb hnm (by rw [hnt]) h
section
variable {P : Program} {env : Env} {os : List AO} {d : Option Tmp} {ty : TypeId} {pos : String} {af : Array Edge} {g : Option (Nat × Bool)}
theorem c_callsol {f : FuncId} {T e : TypeId} {bs L : List Int} {Q : Value → Prop} {h0 k : Nat} {a0 : AV} (hc : AFnL P f T bs L Q) {x y : Operand} {ats : Array TypeId} (hx : AV.ev env x = .optr h0 0) (hy : AV.ev env y = .own k)
    (o0 : os[h0]? = some (skO T bs a0)) (ok : os[k]? = some (.sli e L)) (ra : RdB a0 bs) (hne : (h0 == k) = false) :
    COp P ⟨d, .call { callee := .value (.func f), args := #[x, y], argTypes := ats }, ty, pos, af, g⟩ env os (fun r e' o => ∃ rv, r = .val rv ∧ e' = env ∧ Q rv ∧ o = os) := by
  have hne : h0 ≠ k := by simpa using hne
  intro base w gs tm hr
  obtain ⟨g0, z0, at_, hh, q0, hWk, hI, hW, t0, okb⟩ := sk_at hr o0 ra
  have hxv := hr.ev x
  rw [hx] at hxv
  have ex : Act.eval ⟨tm, []⟩ x = g0.v := by
    generalize Act.eval ⟨tm, []⟩ x = v at hxv
    cases hxv with
    | optr hh => rw [q0] at hh; cases hh; exact hWk.v.symm
  have hyv := hr.ev y
  rw [hy] at hyv
  have hL : IntsAt w (fun b => b ∉ g0.bl) (Act.eval ⟨tm, []⟩ y) L := reads_row (os := os) (fun h g o hg ho => hr.ho h g o hg ho) ok (fun g1 o1 hg1 ho1 hnd b hb hm => by
    rw [ok] at ho1; cases ho1
    exact hr.hd h0 k g0 g1 _ _ hne q0 hg1 o0 ok (by simp) (by simp) b hm hb) hyv
  refine ⟨f, _, run_call hc.1 [x, y] ats _ rfl w, ?_⟩
  have eargs : ([x, y].map (Act.eval ⟨tm, []⟩)).toArray = #[g0.v, Act.eval ⟨tm, []⟩ y] := by simp [ex]
  rw [eargs]
  refine (hc.2 base w g0 z0 _ at_ hh hr.hb hWk hI hW hL).mono ?_
  rintro ev w' ⟨rv, at', h', rfl, hQ, hI', hWk', hbel, hfr⟩
  exact ⟨rv, .val rv, env, _, gs, rfl, ⟨rv, rfl, rfl, hQ, rfl⟩, sk_back hr o0 q0 t0 hI' hWk' hbel.size hfr, .val rv, hbel⟩
end
section
variable {P : Program} {env : Env} {os : List AO} {d : Tmp} {ty : TypeId} {pos : String} {af : Array Edge} {l rest : List Oper} {K : APost}
theorem w_callsol {f : FuncId} {T e : TypeId} {bs L : List Int} {Q : Value → Prop} {h0 k : Nat} {a0 : AV} {x y : Operand} {ats : Array TypeId} (hc : AFnL P f T bs L Q) (hx : evo env x = some (.optr h0 0)) (hy : evo env y = some (.own k))
    (o0 : os[h0]? = some (skO T bs a0)) (ok : os[k]? = some (.sli e L)) (ra : RdB a0 bs) (hne : (h0 == k) = false)
    (h' : ∀ rv, Q rv → AOps P .seq l rest K (env.up d (.val rv)) os) :
    AOps P .seq l (⟨some d, .call { callee := .value (.func f), args := #[x, y], argTypes := ats }, ty, pos, af, none⟩ :: rest) K env os :=
  AOps.ca (c_callsol hc (ev_of hx) (ev_of hy) o0 ok ra hne) fun r e' o ⟨rv, e1, e2, h3, e5⟩ => by subst e1; subst e2; subst e5; exact h' rv h3
end
/-! ### Literal lists of five, six and seven numbers -/
theorem ar5 : Array.range 5 = #[0, 1, 2, 3, 4] := by apply Array.ext'; simp [List.range_succ]
theorem ar6 : Array.range 6 = #[0, 1, 2, 3, 4, 5] := by apply Array.ext'; simp [List.range_succ]
section
variable {P : Program} {env : Env} {os : List AO} {d : Tmp} {ty : TypeId} {pos : String} {af : Array Edge} {l rest : List Oper} {K : APost}
theorem w_bs5 {t e : TypeId} {bytes : Nat} [ht : TSlice P t e] [he : TElem P e (.int .i64 0) bytes] {x0 x1 x2 x3 x4 : Operand} {a0 a1 a2 a3 a4 : Int} {m : Nat} (h0 : evo env x0 = some (.i a0)) (h1 : evo env x1 = some (.i a1)) (h2 : evo env x2 = some (.i a2)) (h3 : evo env x3 = some (.i a3)) (h4 : evo env x4 = some (.i a4)) (hm : os.length = m)
    (i0 : inI a0) (i1 : inI a1) (i2 : inI a2) (i3 : inI a3) (i4 : inI a4) (h' : AOps P .seq l rest K (env.up d (.own m)) (os ++ [.sli e [a0, a1, a2, a3, a4]])) : AOps P .seq l (⟨some d, .buildSlice t 5 #[(0, x0), (1, x1), (2, x2), (3, x3), (4, x4)], ty, pos, af, none⟩ :: rest) K env os :=
  AOps.lo (hm ▸ (show LOp P ⟨some d, .buildSlice t 5 #[(0, x0), (1, x1), (2, x2), (3, x3), (4, x4)], ty, pos, af, none⟩ env os (.own os.length) env (os ++ [.sli e [a0, a1, a2, a3, a4]]) from by
    refine l_laid (zs := [a0, a1, a2, a3, a4]) (by simp; exact ⟨i0, i1, i2, i3, i4⟩) (by simp [maxLen]) fun base w gs tm hr => ?_
    obtain ⟨ii, hi, hs, hz, hby⟩ := he.info
    simp [execOp, Instr.buildSlice, run_underlying ht.und, sizeOf, typeInfo, zeroValue, hi, hs, hz, Instr.fill, newRow, hr.evv (ev_of h0), hr.evv (ev_of h1), hr.evv (ev_of h2), hr.evv (ev_of h3), hr.evv (ev_of h4), Value.cells, ar5])) h'
theorem w_bs6 {t e : TypeId} {bytes : Nat} [ht : TSlice P t e] [he : TElem P e (.int .i64 0) bytes] {x0 x1 x2 x3 x4 x5 : Operand} {a0 a1 a2 a3 a4 a5 : Int} {m : Nat} (h0 : evo env x0 = some (.i a0)) (h1 : evo env x1 = some (.i a1)) (h2 : evo env x2 = some (.i a2)) (h3 : evo env x3 = some (.i a3)) (h4 : evo env x4 = some (.i a4)) (h5 : evo env x5 = some (.i a5)) (hm : os.length = m)
    (i0 : inI a0) (i1 : inI a1) (i2 : inI a2) (i3 : inI a3) (i4 : inI a4) (i5 : inI a5) (h' : AOps P .seq l rest K (env.up d (.own m)) (os ++ [.sli e [a0, a1, a2, a3, a4, a5]])) : AOps P .seq l (⟨some d, .buildSlice t 6 #[(0, x0), (1, x1), (2, x2), (3, x3), (4, x4), (5, x5)], ty, pos, af, none⟩ :: rest) K env os :=
  AOps.lo (hm ▸ (show LOp P ⟨some d, .buildSlice t 6 #[(0, x0), (1, x1), (2, x2), (3, x3), (4, x4), (5, x5)], ty, pos, af, none⟩ env os (.own os.length) env (os ++ [.sli e [a0, a1, a2, a3, a4, a5]]) from by
    refine l_laid (zs := [a0, a1, a2, a3, a4, a5]) (by simp; exact ⟨i0, i1, i2, i3, i4, i5⟩) (by simp [maxLen]) fun base w gs tm hr => ?_
    obtain ⟨ii, hi, hs, hz, hby⟩ := he.info
    simp [execOp, Instr.buildSlice, run_underlying ht.und, sizeOf, typeInfo, zeroValue, hi, hs, hz, Instr.fill, newRow, hr.evv (ev_of h0), hr.evv (ev_of h1), hr.evv (ev_of h2), hr.evv (ev_of h3), hr.evv (ev_of h4), hr.evv (ev_of h5), Value.cells, ar6])) h'
end
end Go.Proofs.Ytcolpjpppdmanaa
/-
  Functions that make a source of numbers out of bytes and a number. No condition.
-/
namespace Go.Proofs.Ytcolpjpppdmanaa
open Go Go.RowKit

def AFnG (P : Program) (f : FuncId) (T : TypeId) (bs : List Int) (u : Value) : Prop :=
  HasBody P f ∧ ∀ w vC, BysAt w (fun _ => True) vC bs → Calls P f #[vC, u] w fun ev w' => ∃ g0 at_ h, ev = .returned g0.v ∧ SOk bs at_ h ∧ Sk T w.heap.size w' g0 vC at_ h ∧ Below w.heap.size w w'
theorem AFnG.of {P : Program} {f : FuncId} {fn : Func} {c : Code} {T : TypeId} {bs : List Int} {u : Value} {n : Nat} (hf : P.funcs[f]? = some fn) (hb : fn.body = some c) (hnm : (fn.name == "runtime.NumGoroutine") = false) (hn : fn.ntmps - 2 = n)
    (h : ∀ vC, AWp P c (fun _ _ => False) (fun _ _ _ => False) (fun env os => ∃ k at_ h, ResIs P fn env os (.optr k 0) ∧ os[k]? = some (skL T bs vC at_ h) ∧ SOk bs at_ h) (Env.start [.ro (roB vC bs), .val u] n) []) : AFnG P f T bs u := by
  refine ⟨⟨fn, c, hf, hnm, hb⟩, fun w vC hvC => calls_of_wp hf hb ?_⟩
  rw [show fn.ntmps - (#[vC, u] : Array Value).size = n from hn]
  have hvs : RVs w [.ro (roB vC bs), .val u] #[vC, u] := ⟨rfl, fun i => by
    match i with
    | 0 => exact .ro ⟨rfl, hvC⟩
    | 1 => exact .val _
    | i + 2 => exact .any _⟩
  refine wp_mono (h vC w.heap.size w w [] _ (Rel.start hvs n) (Below.refl _ _)) ?_
  intro e a w' hq
  cases e with
  | normal => obtain ⟨_, _, _, _, _, _, hx⟩ := hq; exact hx.elim
  | exit j => obtain ⟨_, _, _, _, _, _, hx⟩ := hq; exact hx.elim
  | ret =>
    obtain ⟨env, os, gs, hr, hd, hbel, k, at_, hh, h1, h2, h3⟩ := hq
    obtain ⟨u, hu, hv⟩ := h1 _ _ _ _ hr
    cases hv with
    | @optr _ _ g hg =>
      obtain ⟨cs, d1, d2, d3, d4, d5, d6, d7⟩ := hr.ho _ _ _ hg h2
      match cs, d5 with
      | [z0, z1, z2], _ =>
        have q0 := d7 0
        have q1 := d7 1
        have q2 := d7 2
        have w0 : z0 = vC := by cases q0 with | ro h => exact h.1
        have w1 : z1 = .int .i64 at_ := by cases q1; rfl
        have w2 : z2 = .int .u64 hh := by cases q2; rfl
        subst w0 w1 w2
        exact ⟨hd, _, hu, g, at_, hh, by rw [d4], h3, ⟨d1, d6 _ (by simp), d2, d3, d4⟩, hbel⟩
  | goto l => exact (hq : False).elim
  | panic ch => exact (hq : False).elim
  | outgrown => exact (hq : False).elim
theorem AFnG.start {P : Program} {f : FuncId} {fn : Func} {nt : Nat} {T : TypeId} {bs : List Int} {u : Value} (hf : P.funcs[f]? = some fn) (hnt : fn.ntmps = nt) {c : Code} (hb : fn.body = some c) (hnm : (fn.name == "runtime.NumGoroutine") = false)
    (h : ∀ vC, AWp P c (fun _ _ => False) (fun _ _ _ => False) (fun env os => ∃ k at_ h, ResIs P fn env os (.optr k 0) ∧ os[k]? = some (skL T bs vC at_ h) ∧ SOk bs at_ h) (Env.start [.ro (roB vC bs), .val u] (nt - 2)) []) : AFnG P f T bs u :=
  AFnG.of hf hb hnm (by rw [hnt]) h
section
variable {P : Program} {env : Env} {os : List AO} {d : Option Tmp} {ty : TypeId} {pos : String} {af : Array Edge} {g : Option (Nat × Bool)}
end
section
variable {P : Program} {env : Env} {os : List AO} {d : Tmp} {ty : TypeId} {pos : String} {af : Array Edge} {l rest : List Oper} {K : APost}
end
end Go.Proofs.Ytcolpjpppdmanaa
/-
  Picks from lists, the dice, equal lists, too many bytes. Condition: not too many bytes.
-/
namespace Go.Proofs.Ytcolpjpppdmanaa
open Go Go.RowKit
attribute [local irreducible] AWp AOps ResIs Ret1 QOp LOp COp AFnV AFn Imms LeE LeO
set_option maxHeartbeats 1000000
set_option linter.unusedSimpArgs false
set_option linter.unusedVariables false

/-- One of some numbers. -/
def Pk (L : List Int) (rv : Value) : Prop := ∃ x : Int, rv = .int .i64 x ∧ x ∈ L
set_option maxHeartbeats 4000000 in
theorem l01Pick_c (bs : List Int) (hl : bs.length ≤ 1048576) (hbs : ∀ i, 0 ≤ geti bs i ∧ geti bs i ≤ 255) (L : List Int) (hL : 1 ≤ L.length ∧ L.length ≤ 100) :
    AFnL Try.prog 18 57 bs L (Pk L) := by
  have hn := l01Next_c bs hl hbs L.length (by omega)
  (refine AFnL.start Try.func18 Try.ntmps18 rfl (by kernel_rfl) fun K vC => ?_; simp only [Env.start, enumF, List.map_cons, List.map_nil, List.length_cons, List.length_nil, Nat.reduceAdd, Nat.reduceSub, Nat.zero_add, List.cons_append, List.nil_append])
  repeat' (first | (apply AOps.nil; try simp only [List.nil_append, List.cons_append, List.set_cons_zero, List.set_cons_succ, List.length_cons, List.length_nil, Nat.reduceAdd, AV.sh, AV.sh1, AV.sh0, AO.sh, List.map_cons, List.map_nil, Nat.zero_add, Nat.add_zero, setAll]) | (apply w_move; exact rfl; exact rfl) | (apply w_assign; exact rfl; exact rfl) | apply AWp.seq | apply AWp.region | apply AWp.ret | (apply w_len; exact rfl; exact rfl; first | exact .ints _ | exact .intss _ | exact .sli rfl | exact .sls rfl | exact .slr rfl | exact .orow rfl | exact .nil) | (apply w_callso (hn); exact rfl; exact rfl; exact rfl; exact rfl; (exact rdB_ro _ _); (rintro _ ⟨x, rfl, hx⟩)) | omega | ((first | apply w_idx | apply w_ld); iterate 3 exact rfl))
  have hx2 : x.toNat < L.length := by omega
  have e : geti L x = L[x.toNat] := by simp [geti, List.getD_eq_getElem?_getD, hx2]
  exact ⟨_, .v1 Try.results18 rfl, ⟨_, rfl, by rw [e]; exact List.getElem_mem _⟩, _, rfl⟩
theorem likeInts_t (xs : List Int) (hl : xs.length ≤ 1048576) : AFnV Try.prog 10 [.ints xs, .ints xs] (.bool true) := by
  (refine AFnV.start Try.func10 Try.ntmps10 rfl (by kernel_rfl) fun hk => ?_; simp only [Env.start, enumF, List.length_cons, List.length_nil, Nat.reduceAdd, Nat.reduceSub, List.cons_append, List.nil_append])
  repeat' (first | (apply AOps.nil; try simp only [List.nil_append, List.cons_append, List.set_cons_zero, List.set_cons_succ, List.length_cons, List.length_nil, Nat.reduceAdd, AV.sh, AV.sh1, AV.sh0, AO.sh, List.map_cons, List.map_nil, Nat.zero_add, Nat.add_zero, setAll]) | (apply w_move; exact rfl; exact rfl) | (apply w_assign; exact rfl; exact rfl) | apply AWp.seq | apply AWp.region | ((apply AWp.condP; exact rfl) <;> intro h) | apply AWp.block | apply AWp.ret | apply AWp.skip | (apply w_len; exact rfl; exact rfl; first | exact .ints _ | exact .intss _ | exact .sli rfl | exact .sls rfl | exact .slr rfl | exact .orow rfl | exact .nil) | omega | ((apply w_neq); iterate 3 exact rfl))
  all_goals try (exfalso; omega)
  refine AWp.loop (ι := Nat) (fun k => ⟨26, [(0, .ints xs), (1, .ints xs), (5, .i k)]⟩) (fun _ => []) (fun k => k ≤ xs.length) (fun k => xs.length - k) 0 (by omega) ⟨lee rfl (by (repeat (first | exact le_nil | refine le_eq rfl rfl ?_))), by (repeat (exact lo_nil)), rfl, rfl⟩ ?_
  intro k k0
  by_cases hk : k < xs.length
  · repeat' (first | (apply AOps.nil; try simp only [List.nil_append, List.cons_append, List.set_cons_zero, List.set_cons_succ, List.length_cons, List.length_nil, Nat.reduceAdd, AV.sh, AV.sh1, AV.sh0, AO.sh, List.map_cons, List.map_nil, Nat.zero_add, Nat.add_zero, setAll]) | (apply w_move; exact rfl; exact rfl) | (apply w_assign; exact rfl; exact rfl) | apply AWp.seq | apply AWp.region | ((apply AWp.condP; exact rfl) <;> intro h) | apply AWp.block | apply AWp.ret | apply AWp.exit | apply AWp.skip | (apply AWp.regionQ; kernel_rfl; kernel_rfl) | (apply w_len; exact rfl; exact rfl; first | exact .ints _ | exact .intss _ | exact .sli rfl | exact .sls rfl | exact .slr rfl | exact .orow rfl | exact .nil) | omega | ((first | apply w_lss | apply w_neq | apply w_add | apply w_idx | apply w_ld); iterate 3 exact rfl) | (apply inI_of <;> omega))
    all_goals try (exfalso; omega)
    exact ⟨k + 1, by omega, by omega, ⟨lee rfl (by (repeat (first | exact le_nil | refine le_eq rfl rfl ?_))), by (repeat (exact lo_nil)), rfl, rfl⟩⟩
  · repeat' (first | (apply AOps.nil; try simp only [List.nil_append, List.cons_append, List.set_cons_zero, List.set_cons_succ, List.length_cons, List.length_nil, Nat.reduceAdd, AV.sh, AV.sh1, AV.sh0, AO.sh, List.map_cons, List.map_nil, Nat.zero_add, Nat.add_zero, setAll]) | (apply w_move; exact rfl; exact rfl) | (apply w_assign; exact rfl; exact rfl) | apply AWp.seq | apply AWp.region | ((apply AWp.condP; exact rfl) <;> intro h) | apply AWp.block | apply AWp.ret | apply AWp.exit | apply AWp.skip | (apply AWp.regionQ; kernel_rfl; kernel_rfl) | (apply w_len; exact rfl; exact rfl; first | exact .ints _ | exact .intss _ | exact .sli rfl | exact .sls rfl | exact .slr rfl | exact .orow rfl | exact .nil) | omega | ((apply w_lss); iterate 3 exact rfl))
    all_goals exact .bool Try.results10 rfl rfl
theorem big_c (bs : List Int) : AFnV Try.prog 4 [.ro (byR bs)] (.bool (decide ((4096 : Int) < bs.length))) := by
  (refine AFnV.start Try.func4 Try.ntmps4 rfl (by kernel_rfl) fun hk => ?_; simp only [Env.start, enumF, List.length_cons, List.length_nil, Nat.reduceAdd, Nat.reduceSub, List.cons_append, List.nil_append])
  repeat' (first | (apply AOps.nil; try simp only [List.nil_append, List.cons_append, List.set_cons_zero, List.set_cons_succ, List.length_cons, List.length_nil, Nat.reduceAdd, AV.sh, AV.sh1, AV.sh0, AO.sh, List.map_cons, List.map_nil, Nat.zero_add, Nat.add_zero, setAll]) | (apply w_move; exact rfl; exact rfl) | (apply w_assign; exact rfl; exact rfl) | apply AWp.seq | apply AWp.region | apply AWp.ret | (apply w_lenby; exact rfl; exact rfl; (exact rdB_by _)) | ((apply w_gtr); iterate 3 exact rfl))
  exact .bool Try.results4 rfl rfl
end Go.Proofs.Ytcolpjpppdmanaa
/-
  Own slices of maps. No condition.
-/
namespace Go.Proofs.Ytcolpjpppdmanaa
open Go Go.RowKit

abbrev Trs := List (Int × Int × Int)
section
variable {P : Program} {wl : Bool} {env : Env} {os : List AO} {d : Option Tmp} {ty : TypeId} {pos : String} {af : Array Edge} {g : Option (Nat × Bool)}

variable {l rest : List Oper} {K : APost} {q : Md}
end
end Go.Proofs.Ytcolpjpppdmanaa
/-
  Map literals that are filled in drawn order; a function that is handed nil. No condition.
-/
namespace Go.Proofs.Ytcolpjpppdmanaa
open Go Go.RowKit

/-- One or the other. -/
def orOb (q1 q2 : Ob) : Ob where
  p base w g := q1.p base w g ∨ q2.p base w g
  up hb h := h.imp (q1.up hb) (q2.up hb)
  lower hl h := h.imp (q1.lower hl) (q2.lower hl)
  one h := h.elim q1.one q2.one
theorem set_dead {os : List AO} {h k : Nat} {o : AO} (ho : (os.set h .dead)[k]? = some o) : o = .dead ∨ (k ≠ h ∧ os[k]? = some o) := by
  rw [List.getElem?_set] at ho
  split at ho
  · split at ho
    · cases ho; exact .inl rfl
    · cases ho
  · rename_i hne
    exact .inr ⟨fun e => hne e.symm, ho⟩
theorem Rel.free {base : Nat} {w : World} {gs : List Gh} {env : Env} {os : List AO} {tm : Array Value} (hr : Rel base w gs env os tm) {h : Nat} {g : Gh} {o : AO} (hg : gs[h]? = some g) (ho : os[h]? = some o) (hn : o ≠ .dead) {b : Nat} (hb : b ∈ g.bl) : okOf gs (os.set h .dead) b := by
  intro k x y hx hy hlv hm
  rcases set_dead hy with rfl | ⟨hne, hy'⟩
  · exact hlv.elim
  · exact hr.hd h k g x o y (fun e => hne e.symm) hg hx ho hy' hn hlv.ne b hb hm
section
variable {P : Program} {env : Env} {os : List AO}
theorem AWp.cases {c : Code} {N : Env → List AO → Prop} {X : Nat → Env → List AO → Prop} {Rt : Env → List AO → Prop} {k : Nat} {q1 q2 : Ob} (hk : os[k]? = some (.ob (orOb q1 q2)))
    (h1 : AWp P c N X Rt env (os.set k (.ob q1))) (h2 : AWp P c N X Rt env (os.set k (.ob q2))) : AWp P c N X Rt env os := by
  intro base w0 w gs tm hr
  obtain ⟨g, hg⟩ : ∃ g, gs[k]? = some g := by
    have hl := (List.getElem?_eq_some_iff.1 hk).1
    exact ⟨gs[k]'(by rw [hr.hl]; exact hl), List.getElem?_eq_getElem _⟩
  rcases hr.ho _ _ _ hg hk with h | h
  · exact h1 base w0 w gs tm (hr.upd hg hk trivial (.ob q1) trivial (fun _ _ _ => rfl) (Nat.le_refl _) fun _ => h)
  · exact h2 base w0 w gs tm (hr.upd hg hk trivial (.ob q2) trivial (fun _ _ _ => rfl) (Nat.le_refl _) fun _ => h)

end
section
variable {P : Program} {env : Env} {os : List AO} {ty : TypeId} {pos : String} {af : Array Edge} {l rest : List Oper} {K : APost}
end
section
variable {P : Program} {env : Env} {os : List AO} {l : List Oper} {N : APost} {X : Nat → APost} {Rt : APost}
end
section
variable {P : Program} {env : Env} {os : List AO} {d : Option Tmp} {ty : TypeId} {pos : String} {af : Array Edge} {g : Option (Nat × Bool)}
theorem ar4 : Array.range 4 = #[0, 1, 2, 3] := by apply Array.ext'; simp [List.range_succ]
theorem l_bs4 {t e : TypeId} {bytes : Nat} [ht : TSlice P t e] [he : TElem P e (.int .i64 0) bytes] {x y z u : Operand} {a b c k : Int} (hx : AV.ev env x = .i a) (hy : AV.ev env y = .i b) (hz' : AV.ev env z = .i c) (hu : AV.ev env u = .i k) (ha : inI a) (hb : inI b) (hc : inI c) (hk : inI k) :
    LOp P ⟨d, .buildSlice t 4 #[(0, x), (1, y), (2, z), (3, u)], ty, pos, af, g⟩ env os (.own os.length) env (os ++ [.sli e [a, b, c, k]]) := by
  refine l_laid (zs := [a, b, c, k]) (by simp; exact ⟨ha, hb, hc, hk⟩) (by simp [maxLen]) fun base w gs tm hr => ?_
  obtain ⟨ii, hi, hs, hz, hby⟩ := he.info
  simp [execOp, Instr.buildSlice, run_underlying ht.und, sizeOf, typeInfo, zeroValue, hi, hs, hz, Instr.fill, newRow, hr.evv hx, hr.evv hy, hr.evv hz', hr.evv hu, Value.cells, ar4]
end
section
variable {P : Program} {env : Env} {os : List AO} {d : Tmp} {ty : TypeId} {pos : String} {af : Array Edge} {l rest : List Oper} {K : APost}
theorem w_bs4 {t e : TypeId} {bytes : Nat} [TSlice P t e] [TElem P e (.int .i64 0) bytes] {x y z u : Operand} {a b c k : Int} {m : Nat} (hx : evo env x = some (.i a)) (hy : evo env y = some (.i b)) (hz : evo env z = some (.i c)) (hu : evo env u = some (.i k)) (hm : os.length = m) (ha : inI a) (hb : inI b) (hc : inI c) (hk : inI k)
    (h' : AOps P .seq l rest K (env.up d (.own m)) (os ++ [.sli e [a, b, c, k]])) : AOps P .seq l (⟨some d, .buildSlice t 4 #[(0, x), (1, y), (2, z), (3, u)], ty, pos, af, none⟩ :: rest) K env os := by
  subst hm; exact AOps.lo (l_bs4 (ev_of hx) (ev_of hy) (ev_of hz) (ev_of hu) ha hb hc hk) h'
end
end Go.Proofs.Ytcolpjpppdmanaa
/-
  A struct of two fields of which one is given; states with less in them; a tail shown once. No condition.
-/
namespace Go.Proofs.Ytcolpjpppdmanaa
open Go Go.RowKit
set_option linter.unusedVariables false
section
variable {P : Program} {env : Env} {os : List AO} {d : Option Tmp} {ty : TypeId} {pos : String} {af : Array Edge} {g : Option (Nat × Bool)} {wl : Bool}
theorem q_build21 {t : TypeId} {z1 z : Value} [ht : TBuild P t 2 [z1, z]] {x1 : Operand} {a1 : AV} (h1 : AV.ev env x1 = a1)
    (o1 : OneC env os a1) (hz : z.oneCell' = true) :
    QOp P wl ⟨d, .build t #[(0, x1)], ty, pos, af, g⟩ env os (.agg [a1, .val z]) :=
  .of_run fun _ w gs tm hr => by
    have v1 := hr.ev x1
    rw [h1] at v1
    obtain ⟨p1, c1⟩ := o1 _ _ _ _ hr _ v1
    refine ⟨.agg [Act.eval ⟨tm, []⟩ x1, z].toArray, .agg rfl (by simp; exact ⟨p1, hz⟩) (rv_list rfl fun i hi => ?_), fun w' _ => ?_⟩
    · match i, hi with
      | 0, _ => exact v1
      | 1, _ => exact .val _
    · have hb : P.built t (#[(0, Act.eval ⟨tm, []⟩ x1)] : Array (Nat × Value)).toList = some #[Act.eval ⟨tm, []⟩ x1, z] := by
        rcases ht.bl with e | e <;> rw [e] <;> simp [Instr.fill, c1, List.range_succ]
      simp [execOp, run_build (P := P) w' t _ _ hb]
end
section
variable {P : Program} {env : Env} {os : List AO} {d : Tmp} {ty : TypeId} {pos : String} {af : Array Edge} {g : Option (Nat × Bool)} {l rest : List Oper} {K : APost} {q : Md}
theorem w_build21 {t : TypeId} {z1 z : Value} [TBuild P t 2 [z1, z]] {x1 : Operand} {a1 : AV} (hw : wantedA l env ⟨some d, .build t #[(0, x1)], ty, pos, af, g⟩ = some true) (h1 : evo env x1 = some a1)
    (hz : z.oneCell' = true) (o1 : OneC env os a1)
    (h' : AOps P q l rest K (env.up d (.agg [a1, .val z])) os) : AOps P q l (⟨some d, .build t #[(0, x1)], ty, pos, af, g⟩ :: rest) K env os :=
  AOps.qo hw (q_build21 (ev_of h1) o1 hz) h'
end
theorem one_osub {env : Env} {os : List AO} {h off len : Nat} : ∀ base w gs tm, Rel base w gs env os tm → ∀ u, RV w (okOf gs os) gs u (.osub h off len) → u.oneCell' = true ∧ u.cells = #[u] := by
  intro base w gs tm hr u hu
  cases hu with
  | osub hg _ _ _ => exact ⟨rfl, rfl⟩
section
variable {P : Program} {env : Env} {os : List AO} {ty : TypeId} {pos : String} {af : Array Edge} {g : Option (Nat × Bool)} {l rest : List Oper} {K : APost}
theorem w_stbu {t : TypeId} [TCell P t] {x y : Operand} {h i k a n : Nat} {T : TypeId} {avs : List AV} {a0 : AV} (hx : evo env x = some (.optr h i)) (hs : os[h]? = some (.bx T avs)) (hi : avs[i]? = some a0) (hy : evo env y = some (.osub k a n))
    (h' : AOps P .seq l rest K env (os.set h (.bx T (avs.set i (.osub k a n))))) : AOps P .seq l (⟨none, .store t x y, ty, pos, af, none⟩ :: rest) K env os :=
  AOps.so (l_store_bx (ev_of hx) hs (lt_of_get hi) (ev_of hy) one_osub) h'
end
theorem AWp.cut {P : Program} {c : Code} {N : APost} {X : Nat → APost} {Rt : APost} {env env' : Env} {os os' : List AO} (f : Fit env os env' os' ∨ ∃ σ, FitS σ env os env' os') (h : AWp P c N X Rt env' os') : AWp P c N X Rt env os := by
  intro base w0 w gs tm hr hb
  rcases f with f | ⟨σ, f⟩
  · obtain ⟨gs2, r2⟩ := hr.fit f
    exact h base w0 w gs2 tm r2 hb
  · obtain ⟨gs2, r2⟩ := hr.fits f
    exact h base w0 w gs2 tm r2 hb
theorem AOps.cut {P : Program} {l rest : List Oper} {K : APost} {env env' : Env} {os os' : List AO} (f : Fit env os env' os' ∨ ∃ σ, FitS σ env os env' os') (h : AOps P .seq l rest K env' os') : AOps P .seq l rest K env os := by
  intro base w0 w gs tm hr hb X Rt
  rcases f with f | ⟨σ, f⟩
  · obtain ⟨gs2, r2⟩ := hr.fit f
    exact h base w0 w gs2 tm r2 hb X Rt
  · obtain ⟨gs2, r2⟩ := hr.fits f
    exact h base w0 w gs2 tm r2 hb X Rt
/-- What is still to be shown, once for several places. -/
structure Tail (p : Prop) : Prop where
  h : p
theorem Tail.use {p q : Prop} (h : Tail p → q) (t : p) : q := h ⟨t⟩
end Go.Proofs.Ytcolpjpppdmanaa
/-
  Draws of chains. Condition: not too many bytes.
-/
namespace Go.Proofs.Ytcolpjpppdmanaa
open Go Go.RowKit
attribute [local irreducible] AWp AOps ResIs Ret1 QOp LOp COp AFnV AFn Imms LeE LeO
set_option maxHeartbeats 1000000
set_option linter.unusedSimpArgs false
set_option linter.unusedVariables false

/-- Some numbers. -/
def IsL (n : Nat) (T : TypeId) (r : AV) (os : List AO) : Prop := ∃ xs : List Int, r = .own 0 ∧ os = [.sli T xs] ∧ xs.length ≤ n
set_option maxHeartbeats 8000000 in
theorem drawCF_c (bs : List Int) (hl : bs.length ≤ 1048576) (hbs : ∀ i, 0 ≤ geti bs i ∧ geti bs i ≤ 255) : AFn Try.prog 5 [.ro (byR bs)] (IsL 50 2) := by
  have hf := l01From_c bs hl hbs
  have hn : ∀ z : Int, z ≤ 10000 → AFnS Try.prog 17 57 bs [.int .i64 z] (Nx z) := fun z hz => l01Next_c bs hl hbs z (by omega)
  have h8 := hn 8 (by omega)
  have h20 := hn 20 (by omega)
  have hp6 : ∀ x : Int, AFnL Try.prog 18 57 bs [2, 2, 2, 3, 4, 2 + x] (fun rv => ∃ y, rv = .int .i64 y ∧ (y = 2 ∨ y = 3 ∨ y = 4 ∨ y = 2 + x)) := fun x =>
    (l01Pick_c bs hl hbs [2, 2, 2, 3, 4, 2 + x] ⟨by simp, by simp⟩).mono fun _ ⟨y, e, hy⟩ => ⟨y, e, by simp at hy; omega⟩
  have hp3 : AFnL Try.prog 18 57 bs [1, 1001, 0] (fun rv => ∃ y, rv = .int .i64 y ∧ (y = 1 ∨ y = 1001 ∨ y = 0)) :=
    (l01Pick_c bs hl hbs [1, 1001, 0] ⟨by simp, by simp⟩).mono fun _ ⟨y, e, hy⟩ => ⟨y, e, by simp at hy; omega⟩
  (refine AFn.start Try.func5 Try.ntmps5 rfl (by kernel_rfl) fun hk => ?_; simp only [Env.start, enumF, List.length_cons, List.length_nil, Nat.reduceAdd, Nat.reduceSub, List.cons_append, List.nil_append])
  repeat' (first | (apply AOps.nil; try simp only [List.nil_append, List.cons_append, List.set_cons_zero, List.set_cons_succ, List.length_cons, List.length_nil, Nat.reduceAdd, AV.sh, AV.sh1, AV.sh0, AO.sh, List.map_cons, List.map_nil, Nat.zero_add, Nat.add_zero, setAll]) | (apply w_move; exact rfl; exact rfl) | (apply w_assign; exact rfl; exact rfl) | apply AWp.seq | apply AWp.region | apply AWp.block | (apply w_callsof (hf); exact rfl; (exact rdB_by _); exact rfl; try simp only [List.nil_append, List.cons_append, List.set_cons_zero, List.set_cons_succ, List.length_cons, List.length_nil, Nat.reduceAdd, AV.sh, AV.sh1, AV.sh0, AO.sh, List.map_cons, List.map_nil, Nat.zero_add, Nat.add_zero, setAll]) | (apply w_callso (h8); exact rfl; exact rfl; exact rfl; exact rfl; (exact rdB_by _); (rintro _ ⟨x, rfl, hx⟩)) | ((apply w_add); iterate 3 exact rfl) | (apply w_bs0; iterate 1 exact rfl) | (apply inI_of <;> omega))
  refine AWp.loop (ι := Int × List Int) (fun s => ⟨51, [(3, .optr 0 0), (4, .own 1), (5, .i s.1)]⟩) (fun s => [skO 57 bs (.ro (byR bs)), .sli 2 s.2]) (fun s => 0 ≤ s.1 ∧ s.1 + s.2.length ≤ 8) (fun s => s.1.toNat) (1 + x, []) ⟨by simp only; omega, by simp only [List.length_nil]; omega⟩ ⟨lee rfl (by (repeat (first | exact le_nil | refine le_eq rfl rfl ?_))), by (repeat (first | exact lo_nil | refine lo_eq rfl ?_)), rfl, rfl⟩ ?_
  rintro ⟨k, xs⟩ ⟨k0, k1⟩
  simp only at k0 k1
  dsimp only
  by_cases hk : 0 < k
  · repeat' (first | (apply AOps.nil; try simp only [List.nil_append, List.cons_append, List.set_cons_zero, List.set_cons_succ, List.length_cons, List.length_nil, Nat.reduceAdd, AV.sh, AV.sh1, AV.sh0, AO.sh, List.map_cons, List.map_nil, Nat.zero_add, Nat.add_zero, setAll]) | (apply w_move; exact rfl; exact rfl) | (apply w_assign; exact rfl; exact rfl) | apply AWp.seq | apply AWp.region | ((apply AWp.condP; exact rfl) <;> intro h) | apply AWp.block | apply AWp.exit | apply AWp.skip | (apply w_bs6; iterate 7 exact rfl) | ((apply w_bs1); iterate 2 exact rfl) | (apply w_callso (h20); exact rfl; exact rfl; exact rfl; exact rfl; (exact rdB_by _); (rintro _ ⟨x, rfl, hx⟩)) | (apply w_callsol ((hp6 _)); exact rfl; exact rfl; exact rfl; exact rfl; (exact rdB_by _); exact rfl; (rintro _ ⟨y, rfl, hy⟩)) | omega | ((first | apply w_gtr | apply w_add | apply w_sub); iterate 3 exact rfl) | (apply w_app; exact rfl; exact rfl; exact rfl; exact rfl; (exact .sli rfl); rotate_left 1; simp only [Env.mp, List.map_cons, List.map_nil, List.set_cons_zero, List.set_cons_succ, AV.kill, AV.kill1, AO.kill, AV.noRow, AV.noRow1, AO.via, reduceIte, Nat.reduceEqDiff, Nat.reduceLT, Env.up, Nat.zero_ne_one, Nat.one_ne_zero, Nat.reduceAdd, List.cons_append, List.nil_append]; rotate_left 1) | (apply inI_of <;> omega) | (simp <;> omega))
    exact ⟨(k - 1, xs ++ [_]), ⟨by simp only; omega, by simp only [List.length_append, List.length_singleton]; omega⟩, by simp only; omega, ⟨lee rfl (by (repeat (first | exact le_nil | refine le_eq rfl rfl ?_))), by (repeat (first | exact lo_nil | refine lo_eq rfl ?_)), rfl, rfl⟩⟩
  · repeat' (first | (apply AOps.nil; try simp only [List.nil_append, List.cons_append, List.set_cons_zero, List.set_cons_succ, List.length_cons, List.length_nil, Nat.reduceAdd, AV.sh, AV.sh1, AV.sh0, AO.sh, List.map_cons, List.map_nil, Nat.zero_add, Nat.add_zero, setAll]) | (apply w_move; exact rfl; exact rfl) | (apply w_assign; exact rfl; exact rfl) | apply AWp.seq | apply AWp.region | ((apply AWp.condP; exact rfl) <;> intro h) | apply AWp.block | apply AWp.ret | apply AWp.exit | apply AWp.skip | ((apply w_bs1); iterate 2 exact rfl) | ((apply w_bs3); iterate 4 exact rfl) | (apply w_bs4; iterate 5 exact rfl) | (apply w_callso (h20); exact rfl; exact rfl; exact rfl; exact rfl; (exact rdB_by _); (rintro _ ⟨z, rfl, hz⟩)) | (apply w_callsol (hp3); exact rfl; exact rfl; exact rfl; exact rfl; (exact rdB_by _); exact rfl; (rintro _ ⟨y, rfl, hy⟩)) | omega | ((first | apply w_gtr | apply w_eql); iterate 3 exact rfl) | (apply w_app; exact rfl; exact rfl; exact rfl; exact rfl; (exact .sli rfl); rotate_left 1; simp only [Env.mp, List.map_cons, List.map_nil, List.set_cons_zero, List.set_cons_succ, AV.kill, AV.kill1, AO.kill, AV.noRow, AV.noRow1, AO.via, reduceIte, Nat.reduceEqDiff, Nat.reduceLT, Env.up, Nat.zero_ne_one, Nat.one_ne_zero, Nat.reduceAdd, List.cons_append, List.nil_append]; rotate_left 1) | (apply inI_of <;> omega) | (simp <;> omega))
    · exact ⟨_, _, _, .v1 Try.results5 rfl, .sli rfl, _, rfl, rfl, by simp only [List.length_append, List.length_singleton]; omega⟩
    · refine AWp.loop (ι := List Int) (fun s => ⟨51, [(4, .own 1)]⟩) (fun s => [skO 57 bs (.ro (byR bs)), .sli 2 s]) (fun s => s.length ≤ 31) (fun s => 31 - s.length) xs (by omega) ⟨lee rfl (by (repeat (first | exact le_nil | refine le_eq rfl rfl ?_))), by (repeat (first | exact lo_nil | refine lo_eq rfl ?_)), rfl, rfl⟩ ?_
      intro s hs
      by_cases hc : s.length < 31
      · repeat' (first | (apply AOps.nil; try simp only [List.nil_append, List.cons_append, List.set_cons_zero, List.set_cons_succ, List.length_cons, List.length_nil, Nat.reduceAdd, AV.sh, AV.sh1, AV.sh0, AO.sh, List.map_cons, List.map_nil, Nat.zero_add, Nat.add_zero, setAll]) | (apply w_move; exact rfl; exact rfl) | (apply w_assign; exact rfl; exact rfl) | apply AWp.seq | apply AWp.region | ((apply AWp.condP; exact rfl) <;> intro h) | apply AWp.block | apply AWp.ret | apply AWp.exit | apply AWp.skip | (apply w_len; exact rfl; exact rfl; first | exact .ints _ | exact .intss _ | exact .sli rfl | exact .sls rfl | exact .slr rfl | exact .orow rfl | exact .nil) | ((apply w_bs1); iterate 2 exact rfl) | omega | ((apply w_lss); iterate 3 exact rfl) | (apply w_app; exact rfl; exact rfl; exact rfl; exact rfl; (exact .sli rfl); rotate_left 1; simp only [Env.mp, List.map_cons, List.map_nil, List.set_cons_zero, List.set_cons_succ, AV.kill, AV.kill1, AO.kill, AV.noRow, AV.noRow1, AO.via, reduceIte, Nat.reduceEqDiff, Nat.reduceLT, Env.up, Nat.zero_ne_one, Nat.one_ne_zero, Nat.reduceAdd, List.cons_append, List.nil_append]; rotate_left 1) | (apply inI_of <;> omega) | (simp <;> omega))
        exact ⟨s ++ [2], by simp only [List.length_append, List.length_singleton]; omega, by simp only [List.length_append, List.length_singleton]; omega, ⟨lee rfl (by (repeat (first | exact le_nil | refine le_eq rfl rfl ?_))), by (repeat (first | exact lo_nil | refine lo_eq rfl ?_)), rfl, rfl⟩⟩
      · repeat' (first | (apply AOps.nil; try simp only [List.nil_append, List.cons_append, List.set_cons_zero, List.set_cons_succ, List.length_cons, List.length_nil, Nat.reduceAdd, AV.sh, AV.sh1, AV.sh0, AO.sh, List.map_cons, List.map_nil, Nat.zero_add, Nat.add_zero, setAll]) | (apply w_move; exact rfl; exact rfl) | (apply w_assign; exact rfl; exact rfl) | apply AWp.seq | apply AWp.region | ((apply AWp.condP; exact rfl) <;> intro h) | apply AWp.block | apply AWp.ret | apply AWp.exit | apply AWp.skip | (apply w_len; exact rfl; exact rfl; first | exact .ints _ | exact .intss _ | exact .sli rfl | exact .sls rfl | exact .slr rfl | exact .orow rfl | exact .nil) | ((apply w_bs1); iterate 2 exact rfl) | omega | ((apply w_lss); iterate 3 exact rfl))
        all_goals exact ⟨_, _, _, .v1 Try.results5 rfl, .sli rfl, _, rfl, rfl, by omega⟩
    · exact ⟨_, _, _, .v1 Try.results5 rfl, .nil _, [], rfl, rfl, by simp⟩
    · exact ⟨_, _, _, .v1 Try.results5 rfl, .sli rfl, _, rfl, rfl, by simp only [List.length_append, List.length_cons, List.length_nil]; omega⟩
    · exact ⟨_, _, _, .v1 Try.results5 rfl, .sli rfl, _, rfl, rfl, by omega⟩
end Go.Proofs.Ytcolpjpppdmanaa
/-
  Edges of forests: every edge can be cut; neighbours. No condition.
-/
namespace Go.Proofs.Ytcolpjpppdmanaa
open Go Go.RowKit

/-- One label in the place of another. -/
def mgL (L : List Int) (a b : Int) : List Int := L.map fun x => if x = b then a else x
theorem mgL_len (L : List Int) (a b : Int) : (mgL L a b).length = L.length := by simp [mgL]
theorem mgL_get {L : List Int} {a b x : Int} (h0 : 0 ≤ x) (h1 : x < L.length) : geti (mgL L a b) x = if geti L x = b then a else geti L x := by
  have hx : x.toNat < L.length := by omega
  simp only [geti, mgL, List.getD_eq_getElem?_getD, List.getElem?_map, List.getElem?_eq_getElem hx, Option.map_some, Option.getD_some]
/-- All edges join two components, one after the other. -/
def effL : List Int → List (List Int) → Prop
  | _, [] => True
  | L, e :: E => geti L (geti e 0) ≠ geti L (geti e 1) ∧ effL (mgL L (geti L (geti e 0)) (geti L (geti e 1))) E

def EIn (n : Nat) (e : List Int) : Prop := e.length = 2 ∧ 0 ≤ geti e 0 ∧ geti e 0 < geti e 1 ∧ geti e 1 < n
def lx (a b : List Int) : Prop := geti a 0 < geti b 0 ∨ (geti a 0 = geti b 0 ∧ geti a 1 < geti b 1)
theorem lx_tr {a b c : List Int} (h1 : lx a b) (h2 : lx b c) : lx a c := by unfold lx at *; omega
theorem e2 {e : List Int} (h : e.length = 2) : e = [geti e 0, geti e 1] := by
  match e, h with
  | [x, y], _ => rfl

/-- What is known of the edges seen so far and their labels. -/
structure CutI (n : Nat) (L : List Int) (A : List (List Int)) : Prop where
  len : L.length = n
  same : ∀ e ∈ A, geti L (geti e 0) = geti L (geti e 1)
  cut : ∀ e ∈ A, ∃ c : Int → Bool, c (geti e 0) ≠ c (geti e 1) ∧ ∀ f ∈ A, f ≠ e → c (geti f 0) = c (geti f 1)
theorem CutI.step {n : Nat} {L : List Int} {A : List (List Int)} {e : List Int} (h : CutI n L A) (hA : ∀ f ∈ A, EIn n f) (he : EIn n e) (hne : geti L (geti e 0) ≠ geti L (geti e 1)) :
    CutI n (mgL L (geti L (geti e 0)) (geti L (geti e 1))) (A ++ [e]) := by
  have hl := h.len
  obtain ⟨e1, e2, e3, e4⟩ := he
  refine ⟨by rw [mgL_len]; exact hl, fun f hf => ?_, fun f hf => ?_⟩
  · rcases List.mem_append.1 hf with hf | hf
    · obtain ⟨f1, f2, f3, f4⟩ := hA f hf
      rw [mgL_get f2 (by omega), mgL_get (by omega) (by omega), h.same f hf]
    · rw [List.mem_singleton.1 hf, mgL_get e2 (by omega), mgL_get (by omega) (by omega), if_neg hne, if_pos rfl]
  · have hfe : ∀ f ∈ A, f ≠ e := fun f hf hh => hne (by rw [← hh]; exact h.same f hf)
    rcases List.mem_append.1 hf with hf | hf
    · obtain ⟨c, c1, c2⟩ := h.cut f hf
      by_cases hc : c (geti e 0) = c (geti e 1)
      · refine ⟨c, c1, fun g hg hgf => ?_⟩
        rcases List.mem_append.1 hg with hg | hg
        · exact c2 g hg hgf
        · rw [List.mem_singleton.1 hg]; exact hc
      · refine ⟨fun x => (c x).xor (decide (geti L x = geti L (geti e 1))), ?_, fun g hg hgf => ?_⟩
        · simp only [h.same f hf]
          intro hh
          exact c1 (Bool.xor_left_inj.1 hh)
        · rcases List.mem_append.1 hg with hg | hg
          · simp only [h.same g hg, c2 g hg hgf]
          · rw [List.mem_singleton.1 hg]
            simp only [decide_true, decide_eq_false hne]
            cases h0 : c (geti e 0) <;> cases h1 : c (geti e 1) <;> simp_all
    · rw [List.mem_singleton.1 hf]
      refine ⟨fun x => decide (geti L x = geti L (geti e 1)), ?_, fun g hg hgf => ?_⟩
      · simp only [decide_true, decide_eq_false hne]; simp
      · rcases List.mem_append.1 hg with hg | hg
        · simp only [h.same g hg]
        · exact absurd (List.mem_singleton.1 hg) hgf
theorem cut_run {n : Nat} : ∀ {E A : List (List Int)} {L : List Int}, CutI n L A → (∀ f ∈ A, EIn n f) → (∀ f ∈ E, EIn n f) → effL L E → ∃ L', CutI n L' (A ++ E)
  | [], A, L, h, _, _, _ => ⟨L, by rw [List.append_nil]; exact h⟩
  | e :: E, A, L, h, hA, hE, hf => by
    have := cut_run (E := E) (h.step hA (hE e (by simp)) hf.1) (fun f hf' => by
      rcases List.mem_append.1 hf' with hf' | hf'
      · exact hA f hf'
      · rw [List.mem_singleton.1 hf']; exact hE e (by simp)) (fun f hf' => hE f (by simp [hf'])) hf.2
    rwa [List.append_assoc] at this

/-! ### Neighbours -/
def nearL (E : List (List Int)) (v : Int) : List Int := (E.filter fun e => decide (geti e 1 = v)).map (fun e => geti e 0) ++ (E.filter fun e => decide (geti e 0 = v)).map (fun e => geti e 1)
theorem near_mem {E : List (List Int)} (hE : ∀ e ∈ E, e.length = 2) {u v : Int} : u ∈ nearL E v ↔ [u, v] ∈ E ∨ [v, u] ∈ E := by
  unfold nearL
  rw [List.mem_append, List.mem_map, List.mem_map]
  constructor
  · rintro (⟨e, he, rfl⟩ | ⟨e, he, rfl⟩)
    · obtain ⟨h1, h2⟩ := List.mem_filter.1 he
      have h2 := of_decide_eq_true h2
      left; rw [← h2, ← e2 (hE e h1)]; exact h1
    · obtain ⟨h1, h2⟩ := List.mem_filter.1 he
      have h2 := of_decide_eq_true h2
      right; rw [← h2, ← e2 (hE e h1)]; exact h1
  · rintro (h | h)
    · exact .inl ⟨_, List.mem_filter.2 ⟨h, decide_eq_true rfl⟩, rfl⟩
    · exact .inr ⟨_, List.mem_filter.2 ⟨h, decide_eq_true rfl⟩, rfl⟩
/-- The neighbours as they stand in the list of edges. -/
def nearE (E : List (List Int)) (v : Int) : List Int := E.flatMap fun e => (if geti e 0 = v then [geti e 1] else []) ++ (if geti e 1 = v then [geti e 0] else [])
theorem nearE_eq {n : Nat} : ∀ {E : List (List Int)}, (∀ e ∈ E, EIn n e) → E.Pairwise lx → ∀ v, nearE E v = nearL E v
  | [], _, _, v => rfl
  | e :: E, hE, hp, v => by
    obtain ⟨h1, h2⟩ := List.pairwise_cons.1 hp
    have ih := nearE_eq (fun f hf => hE f (by simp [hf])) h2 v
    obtain ⟨e1, e2, e3, e4⟩ := hE e (by simp)
    have es : nearE (e :: E) v = ((if geti e 0 = v then [geti e 1] else []) ++ (if geti e 1 = v then [geti e 0] else [])) ++ nearE E v := by simp [nearE]
    rw [es, ih]
    unfold nearL
    by_cases ha : geti e 0 = v
    · have hb : ¬ geti e 1 = v := by omega
      rw [if_pos ha, if_neg hb, List.filter_cons_of_neg (by simp [hb]), List.filter_cons_of_pos (by simp [ha])]
      have hnil : (E.filter fun e => decide (geti e 1 = v)) = [] := by
        rw [List.filter_eq_nil_iff]
        intro f hf
        have h3 := h1 f hf
        have h4 := hE f (by simp [hf])
        unfold lx at h3
        unfold EIn at h4
        simp only [decide_eq_true_eq]; omega
      rw [hnil]; simp
    · by_cases hb : geti e 1 = v
      · rw [if_neg ha, if_pos hb, List.filter_cons_of_pos (by simp [hb]), List.filter_cons_of_neg (by simp [ha])]; simp
      · rw [if_neg ha, if_neg hb, List.filter_cons_of_neg (by simp [hb]), List.filter_cons_of_neg (by simp [ha])]; simp
theorem near_sorted {n : Nat} {E : List (List Int)} (hE : ∀ e ∈ E, EIn n e) (hp : E.Pairwise lx) (v : Int) : (nearL E v).Pairwise (· < ·) := by
  unfold nearL
  rw [List.pairwise_append, List.pairwise_map, List.pairwise_map]
  refine ⟨?_, ?_, ?_⟩
  · refine List.Pairwise.imp_of_mem ?_ (hp.sublist List.filter_sublist)
    intro a b ha hb h
    have h1 := of_decide_eq_true (List.mem_filter.1 ha).2
    have h2 := of_decide_eq_true (List.mem_filter.1 hb).2
    unfold lx at h; omega
  · refine List.Pairwise.imp_of_mem ?_ (hp.sublist List.filter_sublist)
    intro a b ha hb h
    have h1 := of_decide_eq_true (List.mem_filter.1 ha).2
    have h2 := of_decide_eq_true (List.mem_filter.1 hb).2
    unfold lx at h; omega
  · intro x hx y hy
    obtain ⟨a, ha, rfl⟩ := List.mem_map.1 hx
    obtain ⟨b, hb, rfl⟩ := List.mem_map.1 hy
    obtain ⟨ha, h1⟩ := List.mem_filter.1 ha
    obtain ⟨hb, h2⟩ := List.mem_filter.1 hb
    have h1 := of_decide_eq_true h1
    have h2 := of_decide_eq_true h2
    have ia := hE a ha
    have ib := hE b hb
    unfold EIn at ia ib; omega

/-- Neighbours in a forest with n vertices. -/
structure Fst (n : Nat) (near : Int → List Int) : Prop where
  bnd : ∀ v u, u ∈ near v → (0 ≤ u ∧ u < n) ∧ (0 ≤ v ∧ v < n) ∧ u ≠ v
  sym : ∀ v u, u ∈ near v → v ∈ near u
  srt : ∀ v, (near v).Pairwise (· < ·)
  cut : ∀ v u, u ∈ near v → ∃ c : Int → Bool, c u ≠ c v ∧ ∀ x y, y ∈ near x → ¬ ((x = u ∧ y = v) ∨ (x = v ∧ y = u)) → c x = c y
theorem Fst.nd {n : Nat} {near : Int → List Int} (h : Fst n near) (v : Int) : (near v).Nodup := (h.srt v).imp fun h => Int.ne_of_lt h
/-- The edges of a forest. -/
structure FoE (n : Nat) (E : List (List Int)) : Prop where
  row : ∀ e ∈ E, EIn n e
  srt : E.Pairwise lx
  cut : ∀ e ∈ E, ∃ c : Int → Bool, c (geti e 0) ≠ c (geti e 1) ∧ ∀ f ∈ E, f ≠ e → c (geti f 0) = c (geti f 1)
theorem FoE.fst {n : Nat} {E : List (List Int)} (h : FoE n E) : Fst n (nearL E) := by
  have hl : ∀ e ∈ E, e.length = 2 := fun e he => (h.row e he).1
  refine ⟨fun v u hu => ?_, fun v u hu => ?_, near_sorted h.row h.srt, fun v u hu => ?_⟩
  · rcases (near_mem hl).1 hu with hu | hu
    · have := h.row _ hu
      unfold EIn at this
      simp only [geti] at this
      simp at this; omega
    · have := h.row _ hu
      unfold EIn at this
      simp only [geti] at this
      simp at this; omega
  · exact (near_mem hl).2 ((near_mem hl).1 hu).symm
  · have key : ∀ a b, [a, b] ∈ E → ∃ c : Int → Bool, c a ≠ c b ∧ ∀ x y, y ∈ nearL E x → ¬ ((x = a ∧ y = b) ∨ (x = b ∧ y = a)) → c x = c y := by
      intro a b hab
      obtain ⟨c, c1, c2⟩ := h.cut _ hab
      refine ⟨c, c1, fun x y hy hn => ?_⟩
      rcases (near_mem hl).1 hy with hy | hy
      · exact (c2 [y, x] hy (fun e => hn (by simp at e; omega))).symm
      · exact c2 [x, y] hy (fun e => hn (by simp at e; omega))
    rcases (near_mem hl).1 hu with hu | hu
    · exact key u v hu
    · obtain ⟨c, c1, c2⟩ := key v u hu
      exact ⟨c, fun e => c1 e.symm, fun x y hy hn => c2 x y hy fun hh => hn (by omega)⟩
theorem foE_of {n : Nat} {E : List (List Int)} (hE : ∀ e ∈ E, EIn n e) (hp : E.Pairwise lx) (hf : effL ((List.range n).map fun (i : Nat) => (i : Int)) E) : FoE n E := by
  obtain ⟨L', h⟩ := cut_run (A := []) ⟨by simp, by simp, by simp⟩ (by simp) hE hf
  rw [List.nil_append] at h
  exact ⟨hE, hp, h.cut⟩
end Go.Proofs.Ytcolpjpppdmanaa
/-
  Rooted trees in a forest: the order in which they are found, and the parents. No condition.
-/
namespace Go.Proofs.Ytcolpjpppdmanaa
open Go Go.RowKit

theorem nd_len {n : Nat} : ∀ {l : List Int}, l.Nodup → (∀ x ∈ l, 0 ≤ x ∧ x < n) → l.length ≤ n := by
  induction n with
  | zero => intro l _ h; cases l with
    | nil => simp
    | cons a l => have := h a (by simp); omega
  | succ n ih =>
    intro l hn h
    have h1 : (l.filter fun x => decide (x ≠ (n : Int))).length ≤ n := ih (hn.sublist List.filter_sublist) fun x hx => by
      obtain ⟨hx, h2⟩ := List.mem_filter.1 hx
      have h2 := of_decide_eq_true h2
      have := h x hx; omega
    have h2 : l.length ≤ (l.filter fun x => decide (x ≠ (n : Int))).length + 1 := by
      clear h1 h ih
      induction l with
      | nil => simp
      | cons a l ih =>
        obtain ⟨h1, h2⟩ := List.nodup_cons.1 hn
        by_cases ha : a = (n : Int)
        · subst ha
          have : (l.filter fun x => decide (x ≠ (n : Int))) = l := List.filter_eq_self.2 fun x hx => decide_eq_true fun e => h1 (e ▸ hx)
          rw [List.filter_cons_of_neg (by simp), this]; simp
        · rw [List.filter_cons_of_pos (by simpa using ha)]
          have := ih h2
          simp only [List.length_cons]; omega
    omega
theorem nd_get {l : List Int} (h : l.Nodup) {i j : Nat} {x : Int} (hi : l[i]? = some x) (hj : l[j]? = some x) : i = j :=
  (List.getElem?_inj (List.getElem?_eq_some_iff.1 hi).1 h).1 (hi.trans hj.symm)

section
variable {n : Nat} {near : Int → List Int} {r : Int}

/-- While the neighbours of the vertex v at place i are looked at: dn have been. -/
structure InvK (n : Nat) (near : Int → List Int) (r : Int) (i : Nat) (v : Int) (dn : List Int) (o p : List Int) : Prop where
  nd : o.Nodup
  rng : ∀ x ∈ o, 0 ≤ x ∧ x < n
  root : o[0]? = some r
  at_ : o[i]? = some v
  len : p.length = n
  pr : geti p r = -1
  par : ∀ (j : Nat) x, o[j]? = some x → x ≠ r → (∃ m y, m < i ∧ m < j ∧ o[m]? = some y ∧ geti p x = y ∧ x ∈ near y) ∨ (i < j ∧ x ∈ dn ∧ geti p x = v)
  cl : ∀ (m : Nat) y, m < i → o[m]? = some y → ∀ u ∈ near y, u ≠ geti p y → u ∈ o ∧ u ≠ r ∧ geti p u = y
  dn_ : ∀ u ∈ dn, u ≠ geti p v → u ∈ o ∧ u ≠ r ∧ geti p u = v
structure Inv (n : Nat) (near : Int → List Int) (r : Int) (i : Nat) (o p : List Int) : Prop where
  nd : o.Nodup
  rng : ∀ x ∈ o, 0 ≤ x ∧ x < n
  root : o[0]? = some r
  le : i ≤ o.length
  len : p.length = n
  pr : geti p r = -1
  par : ∀ (j : Nat) x, o[j]? = some x → x ≠ r → ∃ m y, m < i ∧ m < j ∧ o[m]? = some y ∧ geti p x = y ∧ x ∈ near y
  cl : ∀ (m : Nat) y, m < i → o[m]? = some y → ∀ u ∈ near y, u ≠ geti p y → u ∈ o ∧ u ≠ r ∧ geti p u = y
theorem Inv.bd {i : Nat} {o p : List Int} (h : Inv n near r i o p) : o.length ≤ n := nd_len h.nd h.rng
theorem InvK.bd {i : Nat} {v : Int} {dn o p : List Int} (h : InvK n near r i v dn o p) : o.length ≤ n := nd_len h.nd h.rng
theorem Inv.start (hr : 0 ≤ r ∧ r < n) : Inv n near r 0 [r] (List.replicate n (-1)) := by
  refine ⟨by simp, by simpa using hr, rfl, by simp, by simp, ?_, ?_, fun m y h => by omega⟩
  · have : r.toNat < n := by omega
    simp [geti, this]
  · intro j x hj hx
    match j with
    | 0 => simp at hj; exact absurd hj.symm hx
    | j + 1 => simp at hj
theorem Inv.into {i : Nat} {o p : List Int} {v : Int} (h : Inv n near r i o p) (hv : o[i]? = some v) : InvK n near r i v [] o p :=
  ⟨h.nd, h.rng, h.root, hv, h.len, h.pr, fun j x hj hx => .inl (h.par j x hj hx), h.cl, fun u hu => by cases hu⟩
theorem InvK.out {i : Nat} {o p : List Int} {v : Int} (h : InvK n near r i v (near v) o p) : Inv n near r (i + 1) o p := by
  refine ⟨h.nd, h.rng, h.root, ?_, h.len, h.pr, fun j x hj hx => ?_, fun m y hm hy => ?_⟩
  · have := (List.getElem?_eq_some_iff.1 h.at_).1; omega
  · rcases h.par j x hj hx with ⟨m, y, h1, h2, h3, h4, h5⟩ | ⟨h1, h2, h3⟩
    · exact ⟨m, y, by omega, h2, h3, h4, h5⟩
    · exact ⟨i, v, by omega, h1, h.at_, h3, h2⟩
  · by_cases e : m = i
    · subst e
      have : y = v := by have := h.at_; rw [hy] at this; exact Option.some.inj this
      subst this
      exact h.dn_
    · exact h.cl m y (by omega) hy
/-- The parent is passed over. -/
theorem InvK.skip {i : Nat} {o p dn : List Int} {v u : Int} (h : InvK n near r i v dn o p) (hu : u = geti p v) : InvK n near r i v (dn ++ [u]) o p :=
  ⟨h.nd, h.rng, h.root, h.at_, h.len, h.pr, fun j x hj hx => (h.par j x hj hx).imp id fun ⟨h1, h2, h3⟩ => ⟨h1, List.mem_append.2 (.inl h2), h3⟩, h.cl, fun x hx hne => by
    rcases List.mem_append.1 hx with hx | hx
    · exact h.dn_ x hx hne
    · exact absurd ((List.mem_singleton.1 hx).trans hu) hne⟩
/-- A neighbour that is not the parent is new. -/
theorem InvK.new (hF : Fst n near) {i : Nat} {o p dn : List Int} {v u : Int} (h : InvK n near r i v dn o p) (hdn : ∀ x ∈ dn, x ∈ near v) (hu : u ∈ near v) (hud : u ∉ dn) (hup : u ≠ geti p v) : u ∉ o := by
  intro huo
  obtain ⟨c, c1, c2⟩ := hF.cut v u hu
  obtain ⟨⟨u0, u1⟩, ⟨v0, v1⟩, huv⟩ := hF.bnd v u hu
  have key : ∀ (k j : Nat) x, j < k → o[j]? = some x → c x = c r := by
    intro k
    induction k with
    | zero => intro j x hj; omega
    | succ k ih =>
      intro j x hj hx
      by_cases hxr : x = r
      · rw [hxr]
      · rcases h.par j x hx hxr with ⟨m, y, h1, h2, h3, h4, h5⟩ | ⟨h1, h2, h3⟩
        · have hy := ih m y (by omega) h3
          rw [← hy]
          refine (c2 y x h5 ?_).symm
          rintro (⟨e1, e2⟩ | ⟨e1, e2⟩)
          · subst e2; exact hup (by rw [h4]; exact e1.symm)
          · have hmi := nd_get h.nd h3 (by rw [e1]; exact h.at_); omega
        · have hv := ih i v (by omega) h.at_
          rw [← hv]
          refine (c2 v x (hdn x h2) ?_).symm
          rintro (⟨e1, e2⟩ | ⟨e1, e2⟩)
          · exact huv e1.symm
          · exact hud (e2 ▸ h2)
  obtain ⟨j, hj⟩ := List.getElem?_of_mem huo
  exact c1 ((key (j + 1) j u (by omega) hj).trans (key (i + 1) i v (by omega) h.at_).symm)
theorem geti_st {p : List Int} {u v x : Int} (hu : 0 ≤ u) (hx : 0 ≤ x) (hl : u < p.length) : geti (p.set u.toNat v) x = if x = u then v else geti p x := by
  simp only [geti, List.getD_eq_getElem?_getD, List.getElem?_set]
  by_cases e : x = u
  · subst e; rw [if_pos rfl, if_pos (by omega), if_pos rfl]; rfl
  · rw [if_neg (by omega), if_neg e]
theorem InvK.push (hF : Fst n near) {i : Nat} {o p dn : List Int} {v u : Int} (h : InvK n near r i v dn o p) (hdn : ∀ x ∈ dn, x ∈ near v) (hu : u ∈ near v) (hud : u ∉ dn) (hup : u ≠ geti p v) :
    InvK n near r i v (dn ++ [u]) (o ++ [u]) (p.set u.toNat v) := by
  have hnew := h.new hF hdn hu hud hup
  obtain ⟨⟨u0, u1⟩, ⟨v0, v1⟩, huv⟩ := hF.bnd v u hu
  have hrm : r ∈ o := List.mem_of_getElem? h.root
  have hvm : v ∈ o := List.mem_of_getElem? h.at_
  have hr := h.rng r hrm
  have hg : ∀ x ∈ o, geti (p.set u.toNat v) x = geti p x := fun x hx => by
    rw [geti_st u0 (h.rng x hx).1 (by rw [h.len]; exact u1), if_neg (show ¬ x = u from fun e => hnew (e ▸ hx))]
  have hgu : geti (p.set u.toNat v) u = v := by rw [geti_st u0 u0 (by rw [h.len]; exact u1), if_pos rfl]
  have hget : ∀ (j : Nat) x, o[j]? = some x → (o ++ [u])[j]? = some x := fun j x hj => by
    rw [List.getElem?_append_left (List.getElem?_eq_some_iff.1 hj).1]; exact hj
  refine ⟨?_, ?_, hget _ _ h.root, hget _ _ h.at_, by rw [List.length_set]; exact h.len, by rw [hg r hrm]; exact h.pr, ?_, ?_, ?_⟩
  · rw [List.nodup_append]
    exact ⟨h.nd, by simp, fun a ha b hb e => hnew (by rw [List.mem_singleton.1 hb] at e; exact e ▸ ha)⟩
  · intro x hx
    rcases List.mem_append.1 hx with hx | hx
    · exact h.rng x hx
    · rw [List.mem_singleton.1 hx]; exact ⟨u0, u1⟩
  · intro j x hj hx
    by_cases hlt : j < o.length
    · rw [List.getElem?_append_left hlt] at hj
      have hxo := List.mem_of_getElem? hj
      rw [hg x hxo]
      rcases h.par j x hj hx with ⟨m, y, h1, h2, h3, h4, h5⟩ | ⟨h1, h2, h3⟩
      · exact .inl ⟨m, y, h1, h2, hget _ _ h3, h4, h5⟩
      · exact .inr ⟨h1, List.mem_append.2 (.inl h2), h3⟩
    · rw [List.getElem?_append_right (by omega)] at hj
      have : j - o.length = 0 := by
        cases hz : j - o.length with
        | zero => rfl
        | succ k => rw [hz] at hj; simp at hj
      rw [this] at hj
      have hxu : x = u := by simpa using hj.symm
      subst hxu
      have := (List.getElem?_eq_some_iff.1 h.at_).1
      exact .inr ⟨by omega, List.mem_append.2 (.inr (by simp)), hgu⟩
  · intro m y hm hy w hw hne
    have hml : m < o.length := by have := (List.getElem?_eq_some_iff.1 h.at_).1; omega
    rw [List.getElem?_append_left hml] at hy
    rw [hg y (List.mem_of_getElem? hy)] at hne
    obtain ⟨h1, h2, h3⟩ := h.cl m y hm hy w hw hne
    exact ⟨List.mem_append.2 (.inl h1), h2, by rw [hg w h1]; exact h3⟩
  · intro w hw hne
    rw [hg v hvm] at hne
    rcases List.mem_append.1 hw with hw | hw
    · obtain ⟨h1, h2, h3⟩ := h.dn_ w hw hne
      exact ⟨List.mem_append.2 (.inl h1), h2, by rw [hg w h1]; exact h3⟩
    · rw [List.mem_singleton.1 hw]
      exact ⟨List.mem_append.2 (.inr (by simp)), fun e => hnew (e ▸ hrm), hgu⟩

/-- The tree of a root. -/
abbrev Tr (n : Nat) (near : Int → List Int) (r : Int) (o p : List Int) : Prop := Inv n near r o.length o p
theorem Tr.par {o p : List Int} (h : Tr n near r o p) {j : Nat} {x : Int} (hj : o[j]? = some x) (hx : x ≠ r) : ∃ m y, m < j ∧ o[m]? = some y ∧ geti p x = y ∧ x ∈ near y := by
  obtain ⟨m, y, _, h2, h3, h4, h5⟩ := Inv.par h j x hj hx
  exact ⟨m, y, h2, h3, h4, h5⟩
theorem Tr.ch {o p : List Int} (h : Tr n near r o p) {y : Int} (hy : y ∈ o) {u : Int} (hu : u ∈ near y) (hne : u ≠ geti p y) : u ∈ o ∧ u ≠ r ∧ geti p u = y := by
  obtain ⟨m, hm⟩ := List.getElem?_of_mem hy
  exact h.cl m y (List.getElem?_eq_some_iff.1 hm).1 hm u hu hne
theorem Tr.rt {o p : List Int} (h : Tr n near r o p) : r ∈ o := List.mem_of_getElem? h.root
/-- A rank: parents come first. -/
theorem Tr.rank {o p : List Int} (h : Tr n near r o p) : ∃ k : Int → Nat, (∀ x ∈ o, k x < n) ∧ ∀ x ∈ o, x ≠ r → geti p x ∈ o ∧ k (geti p x) < k x ∧ x ∈ near (geti p x) := by
  have hget : ∀ x ∈ o, ∃ j : Nat, o[j]? = some x := fun x hx => List.getElem?_of_mem hx
  refine ⟨fun x => if hx : x ∈ o then Classical.choose (hget x hx) else 0, fun x hx => ?_, fun x hx hxr => ?_⟩
  · have h1 := Classical.choose_spec (hget x hx)
    have := (List.getElem?_eq_some_iff.1 h1).1
    have := h.bd
    simp only [dif_pos hx]; omega
  · have h1 := Classical.choose_spec (hget x hx)
    obtain ⟨m, y, h2, h3, h4, h5⟩ := h.par h1 hxr
    have hy : geti p x ∈ o := by rw [h4]; exact List.mem_of_getElem? h3
    have h6 := Classical.choose_spec (hget _ hy)
    refine ⟨hy, ?_, by rw [h4]; exact h5⟩
    simp only [dif_pos hx, dif_pos hy]
    have := nd_get h.nd h6 (by rw [h4]; exact h3)
    omega
/-- One root has one tree. -/
theorem Tr.sub {o p o' p' : List Int} (h : Tr n near r o p) (h' : Tr n near r o' p') : ∀ x ∈ o, x ∈ o' ∧ geti p x = geti p' x := by
  obtain ⟨k, k1, k2⟩ := h.rank
  have key : ∀ (m : Nat) x, x ∈ o → k x < m → x ∈ o' ∧ geti p x = geti p' x := by
    intro m
    induction m with
    | zero => intro x _ hx; omega
    | succ m ih =>
      intro x hx hm
      by_cases hxr : x = r
      · subst hxr; exact ⟨h'.rt, h.pr.trans h'.pr.symm⟩
      · obtain ⟨h1, h2, h3⟩ := k2 x hx hxr
        obtain ⟨h4, h5⟩ := ih _ h1 (by omega)
        have hne : x ≠ geti p' (geti p x) := by
          rw [← h5]
          intro e
          by_cases hyr : geti p x = r
          · rw [hyr, h.pr] at e
            have := h.rng x hx; omega
          · have := (k2 _ h1 hyr).2.1
            rw [← e] at this; omega
        obtain ⟨h6, h7, h8⟩ := h'.ch h4 h3 hne
        exact ⟨h6, h8.symm⟩
  exact fun x hx => key (k x + 1) x hx (by omega)
/-- Trees are closed. -/
theorem Tr.closed {o p : List Int} (h : Tr n near r o p) (hF : Fst n near) {y u : Int} (hy : y ∈ o) (hu : u ∈ near y) : u ∈ o := by
  by_cases e : u = geti p y
  · by_cases hyr : y = r
    · rw [hyr, h.pr] at e
      have := (hF.bnd y u hu).1; omega
    · obtain ⟨k, _, k2⟩ := h.rank
      rw [e]; exact (k2 y hy hyr).1
  · exact (h.ch hy hu e).1
/-- A tree whose root does not lie in another one has no vertex in common with it. -/
theorem Tr.disj {r' : Int} {o p o' p' : List Int} (h : Tr n near r o p) (h' : Tr n near r' o' p') (hF : Fst n near) (hn : r' ∉ o) : ∀ x ∈ o', x ∉ o := by
  obtain ⟨k, k1, k2⟩ := h'.rank
  have key : ∀ (m : Nat) x, x ∈ o' → k x < m → x ∉ o := by
    intro m
    induction m with
    | zero => intro x _ hx; omega
    | succ m ih =>
      intro x hx hm hxo
      by_cases hxr : x = r'
      · exact hn (hxr ▸ hxo)
      · obtain ⟨h1, h2, h3⟩ := k2 x hx hxr
        exact ih _ h1 (by omega) (h.closed hF hxo (hF.sym _ _ h3))
  exact fun x hx => key (k x + 1) x hx (by omega)

/-! ### Every vertex has its tree -/
theorem scan_ex (hF : Fst n near) {i : Nat} {v : Int} : ∀ (rest dn o p : List Int), near v = dn ++ rest → InvK n near r i v dn o p → ∃ o' p', InvK n near r i v (near v) o' p'
  | [], dn, o, p, e, h => by rw [List.append_nil] at e; exact ⟨o, p, by rw [e]; exact h⟩
  | u :: rest, dn, o, p, e, h => by
    have hdn : ∀ x ∈ dn, x ∈ near v := fun x hx => by rw [e]; simp [hx]
    have hu : u ∈ near v := by rw [e]; simp
    have hnd := hF.nd v
    rw [e] at hnd
    have hud : u ∉ dn := fun hx => (List.nodup_append.1 hnd).2.2 u hx u (by simp) rfl
    have e' : near v = (dn ++ [u]) ++ rest := by rw [e]; simp
    by_cases hup : u = geti p v
    · exact scan_ex hF rest _ o p e' (h.skip hup)
    · exact scan_ex hF rest _ _ _ e' (h.push hF hdn hu hud hup)
theorem tree_from (hF : Fst n near) : ∀ (m i : Nat) (o p : List Int), n - i ≤ m → Inv n near r i o p → ∃ o' p', Tr n near r o' p'
  | m, i, o, p, hm, h => by
    have hb := h.bd
    have hle := h.le
    by_cases hi : i = o.length
    · subst hi; exact ⟨o, p, h⟩
    · have hlt : i < o.length := by omega
      cases m with
      | zero => omega
      | succ m =>
        obtain ⟨o', p', h'⟩ := scan_ex hF (near (o[i])) [] o p rfl (h.into (List.getElem?_eq_getElem hlt))
        exact tree_from hF m (i + 1) o' p' (by omega) h'.out
theorem tree_ex (hF : Fst n near) (hr : 0 ≤ r ∧ r < n) : ∃ o p, Tr n near r o p := tree_from hF n 0 _ _ (by omega) (Inv.start hr)
end
end Go.Proofs.Ytcolpjpppdmanaa
/-
  The determinants of branches: what they are in a tree, and that a search in depth finds them. No condition.
-/
namespace Go.Proofs.Ytcolpjpppdmanaa
open Go Go.RowKit

/-- A product is not too large. -/
def tok (a b : Int) : Bool := decide (a = 0 ∨ b = 0 ∨ (a.natAbs : Int) ≤ 1000000000000 / (b.natAbs : Int))
def inM (x : Int) : Prop := -1000000000000 ≤ x ∧ x ≤ 1000000000000
theorem tok_in {a b : Int} (h : tok a b = true) : inM (a * b) := by
  unfold tok at h
  unfold inM
  rcases of_decide_eq_true h with rfl | rfl | h
  · simp
  · simp
  · by_cases hb : b = 0
    · subst hb; simp
    · have h1 : (a.natAbs : Int) * b.natAbs ≤ 1000000000000 := by
        have h2 := Int.mul_le_mul_of_nonneg_right h (show (0 : Int) ≤ b.natAbs by omega)
        have h3 := Int.ediv_mul_le 1000000000000 (show (b.natAbs : Int) ≠ 0 by omega)
        omega
      have h2 : ((a * b).natAbs : Int) = (a.natAbs : Int) * b.natAbs := by rw [Int.natAbs_mul]; simp
      omega
/-- One more branch. -/
def okS (p r f g : Int) : Bool := tok r f && tok p g && tok p f && decide (-1000000000000 ≤ r * f - p * g ∧ r * f - p * g ≤ 1000000000000)
def fO (T : Int → Option (Int × Int)) : List Int → Int × Int → Option (Int × Int)
  | [], s => some s
  | c :: cs, (p, r) => match T c with
    | none => none
    | some (g, f) => if okS p r f g = true then fO T cs (p * f, r * f - p * g) else none
theorem fO_app (T : Int → Option (Int × Int)) : ∀ (xs ys : List Int) (s : Int × Int), fO T (xs ++ ys) s = (fO T xs s).bind (fO T ys)
  | [], ys, s => rfl
  | c :: xs, ys, (p, r) => by
    rw [List.cons_append, fO, fO]
    cases hc : T c with
    | none => rfl
    | some gf =>
      obtain ⟨g, f⟩ := gf
      simp only
      by_cases h : okS p r f g = true
      · rw [if_pos h, if_pos h]; exact fO_app T xs ys _
      · rw [if_neg h, if_neg h]; rfl
theorem fO_congr {T T' : Int → Option (Int × Int)} : ∀ {xs : List Int} {s : Int × Int}, (∀ c ∈ xs, T c = T' c) → fO T xs s = fO T' xs s
  | [], s, _ => rfl
  | c :: xs, (p, r), h => by
    rw [fO, fO, h c (by simp)]
    cases T' c with
    | none => rfl
    | some gf =>
      obtain ⟨g, f⟩ := gf
      simp only
      rw [fO_congr (xs := xs) fun c hc => h c (by simp [hc])]
def fgV (W : List Int) (ch : Int → List Int) : Nat → Int → Option (Int × Int)
  | 0, _ => none
  | k + 1, v => fO (fgV W ch k) (ch v) (1, -geti W v)
/-- The children of a vertex. -/
def chl (near : Int → List Int) (p : List Int) (v : Int) : List Int := (near v).filter fun u => decide (u ≠ geti p v)

section
variable {n : Nat} {near : Int → List Int} {r : Int} {o p W : List Int}
theorem chl_mem (h : Tr n near r o p) {v c : Int} (hv : v ∈ o) (hc : c ∈ chl near p v) : c ∈ near v ∧ c ≠ geti p v ∧ c ∈ o ∧ c ≠ r ∧ geti p c = v := by
  obtain ⟨h1, h2⟩ := List.mem_filter.1 hc
  have h2 := of_decide_eq_true h2
  obtain ⟨h3, h4, h5⟩ := h.ch hv h1 h2
  exact ⟨h1, h2, h3, h4, h5⟩
theorem fgV_st (h : Tr n near r o p) {k : Int → Nat} (k1 : ∀ x ∈ o, k x < n) (k2 : ∀ x ∈ o, x ≠ r → geti p x ∈ o ∧ k (geti p x) < k x ∧ x ∈ near (geti p x)) :
    ∀ (m m' : Nat) (v : Int), v ∈ o → n ≤ m + k v → n ≤ m' + k v → fgV W (chl near p) (m + 1) v = fgV W (chl near p) (m' + 1) v
  | 0, m', v, hv, h1, _ => by have := k1 v hv; omega
  | m + 1, 0, v, hv, _, h2 => by have := k1 v hv; omega
  | m + 1, m' + 1, v, hv, h1, h2 => by
    rw [fgV, fgV]
    refine fO_congr fun c hc => ?_
    obtain ⟨_, _, c3, c4, c5⟩ := chl_mem h hv hc
    have := (k2 c c3 c4).2.1
    rw [c5] at this
    exact fgV_st h k1 k2 m m' c c3 (by omega) (by omega)
/-- What belongs to a vertex: G and F of it. -/
def FG (n : Nat) (near : Int → List Int) (W p : List Int) (v : Int) : Option (Int × Int) := fgV W (chl near p) (n + 1) v
theorem FG_eq (h : Tr n near r o p) {v : Int} (hv : v ∈ o) : FG n near W p v = fO (FG n near W p) (chl near p v) (1, -geti W v) := by
  obtain ⟨k, k1, k2⟩ := h.rank
  have hn := k1 v hv
  show fgV W (chl near p) (n + 1) v = _
  rw [fgV]
  refine fO_congr fun c hc => ?_
  obtain ⟨_, _, c3, c4, c5⟩ := chl_mem h hv hc
  have := (k2 c c3 c4).2.1
  obtain ⟨m, rfl⟩ : ∃ m, n = m + 1 := ⟨n - 1, by omega⟩
  exact fgV_st h k1 k2 m (m + 1) c c3 (by omega) (by omega)
/-! ### Descendants -/
inductive Dsc (r : Int) (o p : List Int) (x : Int) : Int → Prop
  | refl : x ∈ o → Dsc r o p x x
  | up {y : Int} : y ∈ o → y ≠ r → Dsc r o p x (geti p y) → Dsc r o p x y
theorem Dsc.mem {x y : Int} (h : Dsc r o p x y) : y ∈ o := by cases h <;> assumption
theorem Dsc.trans {x y z : Int} (h1 : Dsc r o p x y) (h2 : Dsc r o p y z) : Dsc r o p x z := by
  induction h2 with
  | refl => exact h1
  | up h3 h4 _ ih => exact .up h3 h4 ih
theorem Dsc.child (h : Tr n near r o p) {v c x : Int} (hv : v ∈ o) (hc : c ∈ chl near p v) (hx : Dsc r o p c x) : Dsc r o p v x := by
  obtain ⟨_, _, c3, c4, c5⟩ := chl_mem h hv hc
  exact Dsc.trans (.up c3 c4 (by rw [c5]; exact .refl hv)) hx
theorem Dsc.rank {k : Int → Nat} (k2 : ∀ x ∈ o, x ≠ r → geti p x ∈ o ∧ k (geti p x) < k x ∧ x ∈ near (geti p x)) {x y : Int} (h : Dsc r o p x y) : k x ≤ k y := by
  induction h with
  | refl => exact Nat.le_refl _
  | up h3 h4 _ ih => have := (k2 _ h3 h4).2.1; omega
theorem Dsc.cases (h : Tr n near r o p) {v x : Int} (hx : Dsc r o p v x) : x = v ∨ ∃ c ∈ chl near p v, Dsc r o p c x := by
  obtain ⟨k, k1, k2⟩ := h.rank
  induction hx with
  | refl => exact .inl rfl
  | @up y h3 h4 h5 ih =>
    obtain ⟨h6, h7, h8⟩ := k2 y h3 h4
    rcases ih with e | ⟨c, hc, hd⟩
    · refine .inr ⟨y, List.mem_filter.2 ⟨by rw [← e]; exact h8, decide_eq_true ?_⟩, .refl h3⟩
      intro e2
      have hvo : v ∈ o := by rw [← e]; exact h6
      by_cases hvr : v = r
      · rw [hvr, h.pr] at e2
        have := h.rng y h3; omega
      · have := (k2 v hvo hvr).2.1
        rw [← e2, ← e] at this; omega
    · exact .inr ⟨c, hc, .up h3 h4 hd⟩
theorem Dsc.disj (h : Tr n near r o p) {v c c' x : Int} (hv : v ∈ o) (hc : c ∈ chl near p v) (hc' : c' ∈ chl near p v) (hx : Dsc r o p c x) (hx' : Dsc r o p c' x) : c = c' := by
  obtain ⟨k, k1, k2⟩ := h.rank
  obtain ⟨_, _, c3, c4, c5⟩ := chl_mem h hv hc
  obtain ⟨_, _, d3, d4, d5⟩ := chl_mem h hv hc'
  have kc := (k2 c c3 c4).2.1
  have kd := (k2 c' d3 d4).2.1
  rw [c5] at kc
  rw [d5] at kd
  induction hx with
  | refl _ =>
    cases hx' with
    | refl _ => rfl
    | up _ _ h3 => rw [c5] at h3; have := Dsc.rank k2 h3; omega
  | @up y h3 h4 h5 ih =>
    cases hx' with
    | refl _ => rw [d5] at h5; have := Dsc.rank k2 h5; omega
    | up _ _ h6 => exact ih h6
theorem Dsc.notup (h : Tr n near r o p) {v c : Int} (hv : v ∈ o) (hc : c ∈ chl near p v) : ¬ Dsc r o p c v := by
  obtain ⟨k, k1, k2⟩ := h.rank
  obtain ⟨_, _, c3, c4, c5⟩ := chl_mem h hv hc
  have kc := (k2 c c3 c4).2.1
  rw [c5] at kc
  intro hx
  have := Dsc.rank k2 hx; omega
theorem Dsc.all (h : Tr n near r o p) {x : Int} (hx : x ∈ o) : Dsc r o p r x := by
  obtain ⟨k, k1, k2⟩ := h.rank
  have key : ∀ (m : Nat) x, x ∈ o → k x < m → Dsc r o p r x := by
    intro m
    induction m with
    | zero => intro x _ hx; omega
    | succ m ih =>
      intro x hx hm
      by_cases hxr : x = r
      · rw [hxr]; exact .refl h.rt
      · obtain ⟨h1, h2, _⟩ := k2 x hx hxr
        exact .up hx hxr (ih _ h1 (by omega))
  exact key (k x + 1) x hx (by omega)
end
end Go.Proofs.Ytcolpjpppdmanaa
