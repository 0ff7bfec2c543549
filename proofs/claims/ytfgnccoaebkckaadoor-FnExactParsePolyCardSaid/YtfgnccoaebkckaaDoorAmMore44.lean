/-
  Own numbers that are only read from here on; nil as own rows. No condition.
-/
import Derived.Test.YtfgnccoaebkckaaDoorAmMore28
namespace Go.Proofs.YtfgnccoaebkckaaDoor
open Go Go.RowKit

def AV.frzI1 (k : Nat) (xs : List Int) : AV → AV
  | .own h => if h = k then .ints xs else .own h
  | .optr h i => if h = k then .any else .optr h i
  | .osub h a b => if h = k then (if a + b ≤ xs.length then .ints ((xs.drop a).take b) else .any) else .osub h a b
  | .orow h i => if h = k then .any else .orow h i
  | .orptr h i j => if h = k then .any else .orptr h i j
  | .agg _ => .any
  | .tup _ => .any
  | a => a
def AV.frzI (k : Nat) (xs : List Int) : AV → AV
  | .own h => if h = k then .ints xs else .own h
  | .optr h i => if h = k then .any else .optr h i
  | .osub h a b => if h = k then (if a + b ≤ xs.length then .ints ((xs.drop a).take b) else .any) else .osub h a b
  | .orow h i => if h = k then .any else .orow h i
  | .orptr h i j => if h = k then .any else .orptr h i j
  | .agg l => .agg (l.map (AV.frzI1 k xs))
  | .tup l => .tup (l.map (AV.frzI1 k xs))
  | a => a
def AO.frzI (k : Nat) (xs : List Int) : AO → AO
  | .bx T avs => .bx T (avs.map (AV.frzI k xs))
  | .slr e avs => .slr e (avs.map (AV.frzI k xs))
  | o => o
theorem AO.frzI_dead {k : Nat} {xs : List Int} {o : AO} : o.frzI k xs = .dead ↔ o = .dead := by cases o <;> simp [AO.frzI]
theorem AO.frzI_live {k : Nat} {xs : List Int} {o : AO} : (o.frzI k xs).live ↔ o.live := by cases o <;> exact Iff.rfl
/-- An own slice, or a part of it, reads as its numbers. -/
theorem sli_at {base : Nat} {w : World} {ok ok' : Nat → Prop} {gs : List Gh} {g : Gh} {e : TypeId} {xs : List Int} (h : RO base w ok gs g (.sli e xs)) (hb : ∀ b, b ∈ g.bl → ok' b) :
    IntsAt w ok' g.v xs ∧ ∀ (p : Option Addr) (off len cap : Nat), (0 < len → p = some ⟨g.b, off, none⟩) → len ≤ cap → cap ≤ maxLen → off + len ≤ xs.length → IntsAt w ok' (.slice p len cap) ((xs.drop off).take len) := by
  obtain ⟨a1, a2, a3⟩ := h
  refine ⟨⟨RowAt.of_owns' (by rw [← List.length_map (f := Value.int .i64)] at a1; exact a1) fun b hbk => hb b (a3.mem hbk), a2⟩, fun p off len cap hp hc hm hle => ?_⟩
  have hl : (((xs.drop off).take len).map (Value.int .i64)).length = len := by simp; omega
  refine ⟨⟨p, cap, by rw [hl], by omega, hm, fun h0 => ?_⟩, fun x hx => a2 x (List.mem_of_mem_drop (List.mem_of_mem_take hx))⟩
  rw [hl] at h0
  have hgb : g.b ∈ g.bl := by
    obtain ⟨b, cap', e1, e2, e3, _⟩ := own_slice a1 (i := 0) (by simp; omega)
    have := a3.mem e2
    rw [a3.eq e2]; exact this
  refine ⟨_, off, hp h0, hb _ hgb, fun i u hu => ?_⟩
  have hi := (List.getElem?_eq_some_iff.1 hu).1
  rw [hl] at hi
  obtain ⟨b, cap', e1, e2, e3, _⟩ := own_slice a1 (i := off + i) (by simp; omega)
  rw [a3.eq e2, e3, ← hu, List.map_take, List.map_drop, List.getElem?_take, if_pos hi, List.getElem?_drop]

section
variable {w : World} {ok ok' : Nat → Prop} {gs : List Gh} {k : Nat} {xs : List Int}
/-- What the frozen rows look like to their readers. -/
def FrzIAt (w : World) (ok' : Nat → Prop) (gs : List Gh) (k : Nat) (xs : List Int) : Prop := ∀ g, gs[k]? = some g → IntsAt w ok' g.v xs ∧ ∀ (p : Option Addr) (off len cap : Nat), (0 < len → p = some ⟨g.b, off, none⟩) → len ≤ cap → cap ≤ maxLen → off + len ≤ xs.length → IntsAt w ok' (.slice p len cap) ((xs.drop off).take len)
theorem RV.frzI1 (kp : Keeps ok ok' w w) (hf : FrzIAt w ok' gs k xs) {v : Value} {a : AV} (hv : RV w ok gs v a) : RV w ok' gs v (a.frzI1 k xs) := by
  cases hv with
  | any v => exact .any v
  | val v => exact .val v
  | ints h => exact .ints (h.mono kp)
  | intss h => exact .intss (h.mono kp)
  | @ro v r h => exact .ro (r.up kp h)
  | iptr h h1 h2 => exact .iptr (h.mono kp) h1 h2
  | iiptr h h1 h2 => exact .iiptr (h.mono kp) h1 h2
  | own h1 =>
    simp only [AV.frzI1]; split
    · subst_vars; exact .ints (hf _ h1).1
    · exact .own h1
  | optr h1 =>
    simp only [AV.frzI1]; split
    · exact .any _
    · exact .optr h1
  | osub h1 h2 h3 h4 =>
    simp only [AV.frzI1]; split
    · split
      · rename_i h5; subst_vars; exact .ints ((hf _ h1).2 _ _ _ _ h2 h3 h4 h5)
      · exact .any _
    · exact .osub h1 h2 h3 h4
  | orow h1 h2 =>
    simp only [AV.frzI1]; split
    · exact .any _
    · exact .orow h1 h2
  | orptr h1 h2 =>
    simp only [AV.frzI1]; split
    · exact .any _
    · exact .orptr h1 h2
  | agg _ _ _ => exact .any _
  | tup _ _ => exact .any _
theorem getD_map_frzI1 (l : List AV) (i : Nat) : (l.map (AV.frzI1 k xs)).getD i .any = (l.getD i .any).frzI1 k xs := getD_map_f _ rfl l i
theorem getD_map_frzI (l : List AV) (i : Nat) : (l.map (AV.frzI k xs)).getD i .any = (l.getD i .any).frzI k xs := getD_map_f _ rfl l i
theorem RV.frzI (kp : Keeps ok ok' w w) (hf : FrzIAt w ok' gs k xs) {v : Value} {a : AV} (hv : RV w ok gs v a) : RV w ok' gs v (a.frzI k xs) := by
  cases hv with
  | any v => exact .any v
  | val v => exact .val v
  | ints h => exact .ints (h.mono kp)
  | intss h => exact .intss (h.mono kp)
  | @ro v r h => exact .ro (r.up kp h)
  | iptr h h1 h2 => exact .iptr (h.mono kp) h1 h2
  | iiptr h h1 h2 => exact .iiptr (h.mono kp) h1 h2
  | own h1 =>
    simp only [AV.frzI]; split
    · subst_vars; exact .ints (hf _ h1).1
    · exact .own h1
  | optr h1 =>
    simp only [AV.frzI]; split
    · exact .any _
    · exact .optr h1
  | osub h1 h2 h3 h4 =>
    simp only [AV.frzI]; split
    · split
      · rename_i h5; subst_vars; exact .ints ((hf _ h1).2 _ _ _ _ h2 h3 h4 h5)
      · exact .any _
    · exact .osub h1 h2 h3 h4
  | orow h1 h2 =>
    simp only [AV.frzI]; split
    · exact .any _
    · exact .orow h1 h2
  | orptr h1 h2 =>
    simp only [AV.frzI]; split
    · exact .any _
    · exact .orptr h1 h2
  | agg h1 h3 h2 => exact .agg (by simpa using h1) h3 fun i => by rw [getD_map_frzI1]; exact (h2 i).frzI1 kp hf
  | tup h1 h2 => exact .tup (by simpa using h1) fun i => by rw [getD_map_frzI1]; exact (h2 i).frzI1 kp hf
end
theorem Rel.freezeI {base : Nat} {w : World} {gs : List Gh} {env : Env} {os : List AO} {tm : Array Value} (h : Rel base w gs env os tm) {k : Nat} {e : TypeId} {xs : List Int} (hs : os[k]? = some (.sli e xs)) :
    Rel base w gs (env.mp (AV.frzI k xs)) ((os.map (AO.frzI k xs)).set k .dead) tm := by
  have hk : k < os.length := (List.getElem?_eq_some_iff.1 hs).1
  have oset : ∀ {i : Nat} {x : AO}, ((os.map (AO.frzI k xs)).set k .dead)[i]? = some x → (i = k ∧ x = .dead) ∨ (i ≠ k ∧ ∃ y, os[i]? = some y ∧ x = y.frzI k xs) := by
    intro i x hx
    rw [List.getElem?_set] at hx
    by_cases e : k = i
    · subst e
      rw [if_pos rfl, if_pos (by simpa using hk)] at hx
      cases hx; exact .inl ⟨rfl, rfl⟩
    · rw [if_neg e, List.getElem?_map] at hx
      cases hy : os[i]? with
      | none => rw [hy] at hx; cases hx
      | some y => rw [hy] at hx; cases hx; exact .inr ⟨fun e' => e e'.symm, y, rfl, rfl⟩
  have kp : Keeps (okOf gs os) (okOf gs ((os.map (AO.frzI k xs)).set k .dead)) w w := by
    intro b hb _
    refine ⟨fun i x o' hx ho' hl => ?_, rfl⟩
    rcases oset ho' with ⟨_, rfl⟩ | ⟨_, y, hy, rfl⟩
    · exact hl.elim
    · exact hb i x y hx hy (AO.frzI_live.1 hl)
  have hf : FrzIAt w (okOf gs ((os.map (AO.frzI k xs)).set k .dead)) gs k xs := by
    intro g hg
    refine sli_at (h.ho k g _ hg hs) fun b hb i x o' hx ho' hl hm => ?_
    rcases oset ho' with ⟨_, rfl⟩ | ⟨hik, y, hy, rfl⟩
    · exact hl.elim
    · exact h.hd k i g x _ _ (fun e => hik e.symm) hg hx hs hy (by simp) (AO.frzI_live.1 hl).ne b hb hm
  refine ⟨h.hb, by simpa using h.hl, h.hs, fun i => ?_, ?_, ?_, ?_⟩
  · rw [Env.lk_mp _ rfl]
    exact (h.he i).frzI kp hf
  · intro i g o' hg ho'
    rcases oset ho' with ⟨_, rfl⟩ | ⟨_, y, hy, rfl⟩
    · trivial
    · have hro := h.ho i g y hg hy
      cases y with
      | dead => trivial
      | sli e xs => exact hro
      | sls e e2 xs => exact hro
      | ob q => exact hro
      | keep n K => exact hro
      | slr e avs =>
        obtain ⟨vs, a1, a2, a3, a4⟩ := hro
        exact ⟨vs, a1, by simpa using a2, fun j => by rw [getD_map_frzI]; exact (a3 j).frzI kp hf, a4⟩
      | bx T avs =>
        obtain ⟨cs, c1, c2, c3, c4, c5, c6, c7⟩ := hro
        exact ⟨cs, c1, c2, c3, c4, by simpa using c5, c6, fun j => by rw [getD_map_frzI]; exact (c7 j).frzI kp hf⟩
  · intro i j g1 g2 o1 o2 hij hg1 hg2 ho1 ho2 hn1 hn2
    rcases oset ho1 with ⟨_, rfl⟩ | ⟨_, y, hy, rfl⟩
    · exact absurd rfl hn1
    · rcases oset ho2 with ⟨_, rfl⟩ | ⟨_, z, hz, rfl⟩
      · exact absurd rfl hn2
      · exact h.hd i j g1 g2 y z hij hg1 hg2 hy hz (fun e => hn1 (AO.frzI_dead.2 e)) (fun e => hn2 (AO.frzI_dead.2 e))
  · intro i g o' hg ho' hn
    rcases oset ho' with ⟨_, rfl⟩ | ⟨_, y, hy, rfl⟩
    · exact absurd rfl hn
    · exact h.hn i g y hg hy fun e => hn (AO.frzI_dead.2 e)
theorem Turns.freezeI {env : Env} {os : List AO} {k : Nat} {e : TypeId} {xs : List Int} (hs : os[k]? = some (.sli e xs)) : Turns env os (env.mp (AV.frzI k xs)) ((os.map (AO.frzI k xs)).set k .dead) :=
  fun _ _ gs _ h => ⟨gs, h.freezeI hs⟩
/-- A field that is nil becomes own rows. -/
theorem Rel.nilF {base : Nat} {w : World} {gs : List Gh} {env : Env} {os : List AO} {tm : Array Value} (h : Rel base w gs env os tm) {k i : Nat} {T : TypeId} {avs : List AV} (e e2 : TypeId) (hs : os[k]? = some (.bx T avs)) (hi : avs[i]? = some (.val (.slice none 0 0))) :
    ∃ gs', Rel base w gs' env ((os ++ [AO.sls e e2 []]).set k (.bx T (avs.set i (.own os.length)))) tm := by
  let g0 : Gh := ⟨.slice none 0 0, 0, [], []⟩
  have hr : Rel base w (gs ++ [g0]) env (os ++ [.sls e e2 []]) tm := h.new (Below.refl _ _) _ g0 (fun _ b hb => by simp [g0] at hb) ⟨[], [], [], World.ownsRow_nil w base e 1, rfl, rfl, rfl, fun i u h => (by simp at h), .inl ⟨rfl, rfl⟩, rfl, by simp [g0]⟩
  have hk : k < os.length := (List.getElem?_eq_some_iff.1 hs).1
  have hs' : (os ++ [AO.sls e e2 []])[k]? = some (.bx T avs) := by rw [List.getElem?_append_left hk]; exact hs
  have oset : ∀ {j : Nat} {x : AO}, ((os ++ [AO.sls e e2 []]).set k (.bx T (avs.set i (.own os.length))))[j]? = some x → (j = k ∧ x = .bx T (avs.set i (.own os.length))) ∨ (j ≠ k ∧ (os ++ [AO.sls e e2 []])[j]? = some x) := by
    intro j x hx
    rw [List.getElem?_set] at hx
    by_cases c : k = j
    · subst c
      rw [if_pos rfl, if_pos (by simp; omega)] at hx
      cases hx; exact .inl ⟨rfl, rfl⟩
    · rw [if_neg c] at hx
      exact .inr ⟨fun e' => c e'.symm, hx⟩
  have okm : ∀ b, okOf (gs ++ [g0]) (os ++ [.sls e e2 []]) b → okOf (gs ++ [g0]) ((os ++ [AO.sls e e2 []]).set k (.bx T (avs.set i (.own os.length)))) b := by
    intro b hb j x o hx ho hl
    rcases oset ho with ⟨rfl, rfl⟩ | ⟨_, ho⟩
    · exact hb j x _ hx hs' trivial
    · exact hb j x o hx ho hl
  have kp : Keeps (okOf (gs ++ [g0]) (os ++ [.sls e e2 []])) (okOf (gs ++ [g0]) ((os ++ [AO.sls e e2 []]).set k (.bx T (avs.set i (.own os.length))))) w w := fun b hb _ => ⟨okm b hb, rfl⟩
  have hgm : (gs ++ [g0])[os.length]? = some g0 := by rw [← h.hl]; simp
  refine ⟨gs ++ [g0], hr.hb, by have := hr.hl; simpa using this, hr.hs, fun j => (hr.he j).mono kp fun _ _ h => h, ?_, ?_, ?_⟩
  · intro j g o hg ho
    rcases oset ho with ⟨rfl, rfl⟩ | ⟨_, ho⟩
    · obtain ⟨cs, c1, c2, c3, c4, c5, c6, c7⟩ := hr.ho _ _ _ hg hs'
      refine ⟨cs, c1, c2, c3, c4, by simpa using c5, c6, fun q => ?_⟩
      have c8 := (c7 q).mono kp fun _ _ h => h
      by_cases hq : i = q
      · subst hq
        have hil : i < avs.length := (List.getElem?_eq_some_iff.1 hi).1
        have e1 : (avs.set i (.own os.length)).getD i .any = .own os.length := by simp [List.getD_eq_getElem?_getD, hil]
        have e2 : avs.getD i .any = .val (.slice none 0 0) := by simp [List.getD_eq_getElem?_getD, hi]
        rw [e1]
        rw [e2] at c8
        generalize cs.getD i undef = u at c8 ⊢
        cases c8
        exact .own (g := g0) hgm
      · have e1 : (avs.set i (.own os.length)).getD q .any = avs.getD q .any := by simp [List.getD_eq_getElem?_getD, hq]
        rw [e1]; exact c8
    · have hro := hr.ho j g o hg ho
      cases o with
      | dead => trivial
      | sli e xs => exact hro
      | sls e e2 xs => exact hro
      | ob q => exact hro
      | keep n K => exact hro
      | slr e avs =>
        obtain ⟨vs, a1, a2, a3, a4⟩ := hro
        exact ⟨vs, a1, a2, fun j => (a3 j).mono kp fun _ _ h => h, a4⟩
      | bx T avs =>
        obtain ⟨cs, c1, c2, c3, c4, c5, c6, c7⟩ := hro
        exact ⟨cs, c1, c2, c3, c4, c5, c6, fun j => (c7 j).mono kp fun _ _ h => h⟩
  · intro a b g1 g2 o1 o2 hab hg1 hg2 ho1 ho2 hn1 hn2
    rcases oset ho1 with ⟨q1, q2⟩ | ⟨_, q1⟩
    · rcases oset ho2 with ⟨p1, p2⟩ | ⟨_, p1⟩
      · exact absurd (q1.trans p1.symm) hab
      · rw [q1] at hg1 hab
        exact hr.hd _ _ g1 g2 _ _ hab hg1 hg2 hs' p1 (by simp) hn2
    · rcases oset ho2 with ⟨p1, p2⟩ | ⟨_, p1⟩
      · rw [p1] at hg2 hab
        exact hr.hd _ _ g1 g2 _ _ hab hg1 hg2 q1 hs' hn1 (by simp)
      · exact hr.hd _ _ g1 g2 _ _ hab hg1 hg2 q1 p1 hn1 hn2
  · intro a g o hg ho hn
    rcases oset ho with ⟨q1, q2⟩ | ⟨_, q1⟩
    · rw [q1] at hg
      exact hr.hn _ g _ hg hs' (by simp)
    · exact hr.hn _ g _ hg q1 hn
theorem Turns.nilF {env : Env} {os : List AO} {k i : Nat} {T : TypeId} {avs : List AV} (e e2 : TypeId) (hs : os[k]? = some (.bx T avs)) (hi : avs[i]? = some (.val (.slice none 0 0))) :
    Turns env os env ((os ++ [AO.sls e e2 []]).set k (.bx T (avs.set i (.own os.length)))) := fun _ _ _ _ h => h.nilF e e2 hs hi
end Go.Proofs.YtfgnccoaebkckaaDoor
