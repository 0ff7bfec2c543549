/-
  Contracts of functions that write to memory that is handed to them, and calls by them. No condition.
-/
import Derived.Test.YtfgnccoaebkckaaDoorAmGrow
namespace Go.Proofs.YtfgnccoaebkckaaDoor
open Go Go.RowKit

/-- A slice of integers, or of rows of integers, that is all its own. -/
def AO.plain : AO → Prop
  | .sli _ _ => True
  | .sls _ _ _ => True
  | .ob _ => True
  | _ => False
theorem AO.plain.live {o : AO} (h : o.plain) : o.live := by cases o <;> simp_all [AO.plain, AO.live]
theorem AO.plain.ro {base : Nat} {w : World} {ok ok' : Nat → Prop} {gs gs' : List Gh} {g : Gh} {o : AO} (h : o.plain) (hr : RO base w ok gs g o) : RO base w ok' gs' g o := by
  cases o with
  | sli e xs => exact hr
  | sls e e2 xss => exact hr
  | ob q => exact hr
  | _ => exact h.elim

/-- The objects 'os' behind the handles 0, 1, .. -/
structure Objs (base : Nat) (w : World) (gs : List Gh) (os : List AO) : Prop where
  hl : gs.length = os.length
  hp : ∀ o ∈ os, o.plain
  ho : ∀ (h : Nat) g o, gs[h]? = some g → os[h]? = some o → RO base w (fun _ => True) gs g o
  hd : ∀ (h k : Nat) g g', h ≠ k → gs[h]? = some g → gs[k]? = some g' → ∀ b, b ∈ g.bl → b ∉ g'.bl
  hn : ∀ (h : Nat) g, gs[h]? = some g → ∀ b, b ∈ g.bl → base ≤ b ∧ b < w.heap.size

/-- The function writes to the objects 'os', which its arguments name, and hands back a plain value: Q speaks of both. All else is as it was. -/
def AFnU (P : Program) (f : FuncId) (args : List AV) (os : List AO) (Q : Value → List AO → Prop) : Prop :=
  HasBody P f ∧ ∀ base w gs vs, base ≤ w.heap.size → Objs base w gs os → vs.size = args.length → (∀ i : Nat, RV w (okOf gs os) gs (vs.getD i undef) (args.getD i .any)) →
    Calls P f vs w fun e w' => ∃ v os', e = .returned v ∧ Q v os' ∧ Objs base w' gs os' ∧ Below base w w' ∧ ∀ b, b < w.heap.size → (∀ (h : Nat) g, gs[h]? = some g → b ∉ g.bl) → w'.heap[b]? = w.heap[b]?

theorem start_rv {w : World} {ok : Nat → Prop} {gs : List Gh} (args : List AV) (n : Nat) (vs : Array Value) (hv : ∀ i : Nat, RV w ok gs (vs.getD i undef) (args.getD i .any)) (i : Nat) :
    RV w ok gs ((vs ++ Array.replicate n undef).getD i undef) ((Env.start args n).lk i) := by
  have e1 : (Env.start args n).lk i = args.getD i .any := by
    simp only [Env.lk, Env.fd, Env.start, fdm_enumF args 0 i (Nat.zero_le _), Nat.sub_zero]
    rw [List.getD_eq_getElem?_getD]
    cases hb : Nat.blt i (args.length + n) with
    | true => rfl
    | false =>
      have : ¬ i < args.length + n := by intro h4; rw [← Nat.blt_eq, hb] at h4; cases h4
      rw [List.getElem?_eq_none (by omega)]; rfl
  have e2 : (vs ++ Array.replicate n undef).getD i undef = vs.getD i undef := by
    simp only [Array.getD_eq_getD_getElem?, Array.getElem?_append]
    split
    · rfl
    · rename_i hi
      rw [Array.getElem?_eq_none (Nat.le_of_not_lt hi), Array.getElem?_replicate]
      split <;> rfl
  rw [e1, e2]
  exact hv i

theorem AFnU.of {P : Program} {f : FuncId} {fn : Func} {c : Code} {args : List AV} {os : List AO} {Q : Value → List AO → Prop} {n : Nat} (hf : P.funcs[f]? = some fn) (hb : fn.body = some c) (hnm : (fn.name == "runtime.NumGoroutine") = false) (hn : fn.ntmps - args.length = n)
    (h : ∀ K, AWp P c (fun _ _ => False) (fun _ _ _ => False) (fun env os1 => ∃ v os', ResIs P fn env os1 (.val v) ∧ Q v os' ∧ os1.take os.length = os' ∧ os1[os.length]? = some (.keep (os.length + 1) K) ∧ ∀ o ∈ os', o.plain) (Env.start args n) (os ++ [.keep (os.length + 1) K])) :
    AFnU P f args os Q := by
  refine ⟨⟨fn, c, hf, hnm, hb⟩, fun base w gs vs hbase hO hsz hvs => calls_of_wp hf hb ?_⟩
  rw [show fn.ntmps - vs.size = n by rw [hsz]; exact hn]
  let bl : List Nat := (List.range w.heap.size).filter fun b => decide (base ≤ b) && gs.all fun g => !g.bl.contains b
  let gk : Gh := ⟨undef, 0, bl, []⟩
  let K : Kp := ⟨fun b => w.heap[b]?, gs ++ [gk]⟩
  have hbl : ∀ b, b ∈ bl ↔ b < w.heap.size ∧ base ≤ b ∧ ∀ (h : Nat) g, gs[h]? = some g → b ∉ g.bl := by
    intro b
    simp only [bl, List.mem_filter, List.mem_range, Bool.and_eq_true, decide_eq_true_eq, List.all_eq_true, Bool.not_eq_true', List.contains_eq_mem, decide_eq_false_iff_not]
    constructor
    · rintro ⟨h1, h2, h3⟩
      exact ⟨h1, h2, fun h g hg => h3 g (List.mem_of_getElem? hg)⟩
    · rintro ⟨h1, h2, h3⟩
      exact ⟨h1, h2, fun g hg => by obtain ⟨i, hi⟩ := List.getElem?_of_mem hg; exact h3 i g hi⟩
  have hl := hO.hl
  have part : ∀ {i : Nat} {x : Gh} {y : AO}, (gs ++ [gk])[i]? = some x → (os ++ [.keep (os.length + 1) K])[i]? = some y → (gs[i]? = some x ∧ os[i]? = some y) ∨ (i = os.length ∧ x = gk ∧ y = .keep (os.length + 1) K) := by
    intro i x y hx hy
    rcases append_one hx with ⟨h1, h2⟩ | ⟨h1, rfl⟩
    · rcases append_one hy with ⟨h3, h4⟩ | ⟨h3, rfl⟩
      · exact .inl ⟨h2, h4⟩
      · omega
    · rcases append_one hy with ⟨h3, h4⟩ | ⟨h3, rfl⟩
      · omega
      · exact .inr ⟨h3, rfl, rfl⟩
  have gl : ∀ (i : Nat) x, gs[i]? = some x → (gs ++ [gk])[i]? = some x := fun i x e => by
    rw [List.getElem?_append_left (List.getElem?_eq_some_iff.1 e).1]; exact e
  have kp : Keeps (okOf gs os) (okOf (gs ++ [gk]) (os ++ [.keep (os.length + 1) K])) w w := by
    intro b hbk _
    refine ⟨fun i x y hx hy hny hm => ?_, rfl⟩
    rcases part hx hy with ⟨h1, h2⟩ | ⟨_, _, rfl⟩
    · exact hbk i x y h1 h2 hny hm
    · exact hny.elim
  have hrel : Rel base w (gs ++ [gk]) (Env.start args n) (os ++ [.keep (os.length + 1) K]) (vs ++ Array.replicate n undef) := by
    refine ⟨hbase, by simp [hl], by simp [Env.start, hsz], fun i => ?_, ?_, ?_, ?_⟩
    · exact start_rv args n vs (fun i => (hvs i).mono kp gl) i
    · intro i x y hx hy
      rcases part hx hy with ⟨h1, h2⟩ | ⟨_, rfl, rfl⟩
      · exact (hO.hp y (List.mem_of_getElem? h2)).ro (hO.ho i x y h1 h2)
      · exact ⟨fun b _ => rfl, by simp [K, hl], fun i x h => h⟩
    · intro i j g1 g2 o1 o2 hij hg1 hg2 ho1 ho2 _ _ b hb1 hb2
      rcases part hg1 ho1 with ⟨a1, a2⟩ | ⟨a1, rfl, _⟩
      · rcases part hg2 ho2 with ⟨b1, b2⟩ | ⟨_, rfl, _⟩
        · exact hO.hd i j g1 g2 hij a1 b1 b hb1 hb2
        · exact ((hbl b).1 hb2).2.2 i g1 a1 hb1
      · rcases part hg2 ho2 with ⟨b1, b2⟩ | ⟨b1, _, _⟩
        · exact ((hbl b).1 hb1).2.2 j g2 b1 hb2
        · omega
    · intro i x y hx hy _ b hb
      rcases part hx hy with ⟨h1, h2⟩ | ⟨_, rfl, _⟩
      · exact hO.hn i x h1 b hb
      · exact ⟨((hbl b).1 hb).2.1, ((hbl b).1 hb).1⟩
  refine wp_mono (h K base w w _ _ hrel (Below.refl _ _)) ?_
  intro e a w' hq
  cases e with
  | normal => obtain ⟨_, _, _, _, _, _, hx⟩ := hq; exact hx.elim
  | exit j => obtain ⟨_, _, _, _, _, _, hx⟩ := hq; exact hx.elim
  | ret =>
    obtain ⟨env, os1, gs1, hr, hd, hbel, v, os', h1, h2, h3, h4, h5⟩ := hq
    obtain ⟨u, hu, hv⟩ := h1 _ _ _ _ hr
    cases hv
    have hlt : os.length < os1.length := (List.getElem?_eq_some_iff.1 h4).1
    have hltg : os.length < gs1.length := by have := hr.hl; omega
    obtain ⟨g1, hg1⟩ : ∃ g1, gs1[os.length]? = some g1 := ⟨_, List.getElem?_eq_getElem hltg⟩
    obtain ⟨r1, r2, r3⟩ := hr.ho _ _ _ hg1 h4
    have pin : ∀ (i : Nat) x, gs[i]? = some x → gs1[i]? = some x := fun i x e => r3 i x (gl i x e)
    have egk : g1 = gk := by
      have := r3 os.length gk (by show (gs ++ [gk])[os.length]? = some gk; rw [← hl]; simp)
      rw [hg1] at this
      exact Option.some.inj this
    rw [egk] at r1
    have get' : ∀ {i : Nat} {y : AO}, os'[i]? = some y → os1[i]? = some y ∧ i < os.length := by
      intro i y hy
      rw [← h3, List.getElem?_take] at hy
      split at hy
      · exact ⟨hy, ‹_›⟩
      · cases hy
    refine ⟨hd, v, hu, v, os', rfl, h2, ⟨?_, h5, ?_, hO.hd, ?_⟩, hbel, ?_⟩
    · rw [← h3, List.length_take]; omega
    · intro i x y hx hy
      obtain ⟨h6, h7⟩ := get' hy
      exact (h5 y (List.mem_of_getElem? hy)).ro (hr.ho i x y (pin i x hx) h6)
    · intro i x hx b hb
      have := hO.hn i x hx b hb
      exact ⟨this.1, Nat.lt_of_lt_of_le this.2 hbel.size⟩
    · intro b hb hnot
      rcases Nat.lt_or_ge b base with h6 | h6
      · exact hbel.block b h6
      · exact r1 b ((hbl b).2 ⟨hb, h6, hnot⟩)
  | goto l => exact (hq : False).elim
  | panic ch => exact (hq : False).elim
  | outgrown => exact (hq : False).elim

/-! ### The caller -/
/-- What may be handed on where the handles 'H' are handed over to be written to. -/
inductive ImmU (os : List AO) (H : List Nat) : AV → AV → Prop
  | any (a : AV) : ImmU os H a .any
  | val (v : Value) : ImmU os H (.val v) (.val v)
  | ints (xs : List Int) : ImmU os H (.ints xs) (.ints xs)
  | intss (xss : List (List Int)) : ImmU os H (.intss xss) (.intss xss)
  | ro (r : Ro) : ImmU os H (.ro r) (.ro r)
  | sem (hs : List Nat) {a : AV} {r : Ro} : Reads os hs a r → (∀ h, h ∈ hs → h ∉ H) → ImmU os H a (.ro r)
  | nil : ImmU os H (.val (.slice none 0 0)) (.ints [])
  | nils : ImmU os H (.val (.slice none 0 0)) (.intss [])
  | own {k h : Nat} : H[k]? = some h → ImmU os H (.own h) (.own k)
  | optr {k h i : Nat} : H[k]? = some h → ImmU os H (.optr h i) (.optr k i)
  | sli {h : Nat} {e : TypeId} {xs : List Int} : os[h]? = some (.sli e xs) → h ∉ H → ImmU os H (.own h) (.ints xs)
  | sls {h : Nat} {e e2 : TypeId} {xss : List (List Int)} : os[h]? = some (.sls e e2 xss) → h ∉ H → ImmU os H (.own h) (.intss xss)
  | orow {h i : Nat} {e e2 : TypeId} {xss : List (List Int)} : os[h]? = some (.sls e e2 xss) → h ∉ H → ImmU os H (.orow h i) (.ints (xss.getD i []))
  | agg {l l' : List AV} : l.length = l'.length → (∀ i : Nat, ImmU os H (l.getD i .any) (l'.getD i .any)) → ImmU os H (.agg l) (.agg l')

theorem RowAt.of_owns' {w : World} {base : Nat} {e : TypeId} {v : Value} {n : Nat} {vs : List Value} {ok : Nat → Prop} (h : w.ownsRow base e 1 v n vs) (hok : ∀ b, v.ownBlock = some b → ok b) : RowAt w ok v vs := by
  obtain ⟨a, cap, hv, h1, h2, h3⟩ := RowAt.of_owns h
  refine ⟨a, cap, hv, h1, h2, fun hp => ?_⟩
  obtain ⟨b, off, ha, _, hc⟩ := h3 hp
  exact ⟨b, off, ha, hok b (by rw [hv, ha]; rfl), hc⟩

section
variable {base : Nat} {w w' : World} {gs : List Gh} {env : Env} {os : List AO} {tm : Array Value} {H : List Nat} {osP : List AO}

/-- The ghosts that are handed over. -/
def selG (gs : List Gh) (H : List Nat) : List Gh := H.map fun h => gs.getD h ⟨undef, 0, [], []⟩

theorem selG_get (hlt : ∀ h ∈ H, h < gs.length) {k : Nat} {x : Gh} (hx : (selG gs H)[k]? = some x) : ∃ h, H[k]? = some h ∧ gs[h]? = some x := by
  simp only [selG, List.getElem?_map] at hx
  cases hk : H[k]? with
  | none => rw [hk] at hx; cases hx
  | some h =>
    have hl := hlt h (List.mem_of_getElem? hk)
    rw [hk] at hx
    have e1 : gs[h]? = some gs[h] := List.getElem?_eq_getElem hl
    simp [e1] at hx
    exact ⟨h, rfl, by rw [e1, hx]⟩
theorem selG_of {k h : Nat} {x : Gh} (hk : H[k]? = some h) (hx : gs[h]? = some x) : (selG gs H)[k]? = some x := by
  simp [selG, List.getElem?_map, hk, hx]

/-- The objects that are handed over: 'osP'. -/
structure Handed (os : List AO) (H : List Nat) (osP : List AO) : Prop where
  nd : H.Nodup
  ob : ∀ (k : Nat) h, H[k]? = some h → osP[k]? = os[h]?
  ln : osP.length = H.length
  pl : ∀ o ∈ osP, o.plain

theorem Handed.lt (hh : Handed os H osP) : ∀ h ∈ H, h < os.length := by
  intro h hm
  obtain ⟨k, hk⟩ := List.getElem?_of_mem hm
  have h1 := (List.getElem?_eq_some_iff.1 hk).1
  have h2 := hh.ob k h hk
  rw [List.getElem?_eq_getElem (by rw [hh.ln]; exact h1)] at h2
  exact (List.getElem?_eq_some_iff.1 h2.symm).1

theorem Handed.get (hh : Handed os H osP) {k h : Nat} (hk : H[k]? = some h) : ∃ o, osP[k]? = some o ∧ os[h]? = some o ∧ o.plain := by
  have h1 := (List.getElem?_eq_some_iff.1 hk).1
  have h2 := hh.ob k h hk
  rw [List.getElem?_eq_getElem (by rw [hh.ln]; exact h1)] at h2
  exact ⟨_, List.getElem?_eq_getElem _, h2.symm, hh.pl _ (List.getElem_mem _)⟩

theorem Rel.objs (hr : Rel base w gs env os tm) (hh : Handed os H osP) : Objs base w (selG gs H) osP := by
  have hlt : ∀ h ∈ H, h < gs.length := fun h hm => by rw [hr.hl]; exact hh.lt h hm
  refine ⟨by simp [selG, hh.ln], hh.pl, ?_, ?_, ?_⟩
  · intro k x o hx ho
    obtain ⟨h, hk, hg⟩ := selG_get hlt hx
    obtain ⟨o', h1, h2, h3⟩ := hh.get hk
    rw [ho] at h1; cases h1
    exact h3.ro (hr.ho _ _ _ hg h2)
  · intro k l x y hkl hx hy b hb1 hb2
    obtain ⟨h1, hk, hg1⟩ := selG_get hlt hx
    obtain ⟨h2, hl, hg2⟩ := selG_get hlt hy
    obtain ⟨o1, _, a1, p1⟩ := hh.get hk
    obtain ⟨o2, _, a2, p2⟩ := hh.get hl
    refine hr.hd h1 h2 x y o1 o2 (fun e => hkl ?_) hg1 hg2 a1 a2 p1.live.ne p2.live.ne b hb1 hb2
    subst e
    exact (List.getElem?_inj (List.getElem?_eq_some_iff.1 hk).1 hh.nd).1 (hk.trans hl.symm)
  · intro k x hx b hb
    obtain ⟨h, hk, hg⟩ := selG_get hlt hx
    obtain ⟨o, _, a1, p1⟩ := hh.get hk
    exact hr.hn h x o hg a1 p1.live.ne b hb

theorem ImmU.rv (hr : Rel base w gs env os tm) (hh : Handed os H osP) {a a' : AV} (h : ImmU os H a a') : ∀ {v : Value}, RV w (okOf gs os) gs v a → RV w (okOf (selG gs H) osP) (selG gs H) v a' := by
  have hlt : ∀ h ∈ H, h < gs.length := fun h hm => by rw [hr.hl]; exact hh.lt h hm
  have kp : Keeps (okOf gs os) (okOf (selG gs H) osP) w w := by
    intro b hb _
    refine ⟨fun k x y hx hy hny hm => ?_, rfl⟩
    obtain ⟨h, hk, hg⟩ := selG_get hlt hx
    obtain ⟨o, a1, a2, p⟩ := hh.get hk
    exact hb h x o hg a2 p.live hm
  -- the blocks of a handle that is kept are none of those that are handed over
  have free : ∀ {h : Nat} {g : Gh} {o : AO}, gs[h]? = some g → os[h]? = some o → o ≠ .dead → h ∉ H → ∀ b, b ∈ g.bl → okOf (selG gs H) osP b := by
    intro h g o hg ho hnd hnot b hb k x y hx hy hny hm
    obtain ⟨h', hk, hg'⟩ := selG_get hlt hx
    obtain ⟨o', a1, a2, p⟩ := hh.get hk
    exact hr.hd h h' g x o o' (fun e => hnot (by rw [e]; exact List.mem_of_getElem? hk)) hg hg' ho a2 hnd p.live.ne b hb hm
  induction h with
  | any a => intro v _; exact .any v
  | val v => intro v hv; cases hv; exact .val _
  | ints xs => intro v hv; cases hv with | ints h1 => exact .ints (h1.mono kp)
  | intss xss => intro v hv; cases hv with | intss h1 => exact .intss (h1.mono kp)
  | ro r => intro v hv; cases hv with | ro h1 => exact .ro (r.up kp h1)
  | sem hs h1 h2 => intro v hv; exact .ro (h1 base w gs _ hr.ho (fun h hm g o hg ho hnd b hb => free hg ho hnd (h2 h hm) b hb) kp v hv)
  | nil => intro v hv; cases hv; exact .ints IntsAt.nil
  | nils => intro v hv; cases hv; exact .intss IntssAt.nil
  | own h1 => intro v hv; cases hv with | own hg => exact .own (selG_of h1 hg)
  | optr h1 => intro v hv; cases hv with | optr hg => exact .optr (selG_of h1 hg)
  | sli h1 h2 => intro v hv; cases hv with | own hg =>
      obtain ⟨a1, a2, a3⟩ := hr.ho _ _ _ hg h1
      exact .ints ⟨RowAt.of_owns' a1 fun b hb => free hg h1 (by simp) h2 b (a3.mem hb), a2⟩
  | sls h1 h2 => intro v hv; cases hv with | own hg =>
      obtain ⟨vs, bs, mb, a1, a2, a3, a4, a5, a6, a7, _⟩ := hr.ho _ _ _ hg h1
      refine .intss ⟨vs, RowAt.of_owns' a1 fun b hb => free hg h1 (by simp) h2 b ?_, a2, fun i u hu => ⟨RowAt.of_owns' (a5 i u hu).1 fun b hb => free hg h1 (by simp) h2 b ?_, (a5 i u hu).2.1⟩⟩
      · rw [a7]
        rcases a6 with ⟨b1, _⟩ | ⟨b1, b2⟩
        · rw [b1] at hb; cases hb
        · rw [b1] at hb; cases hb; simp [b2]
      · rw [a7]
        refine List.mem_append.2 (.inr (List.mem_flatten.2 ⟨bs.getD i [], ?_, by rw [← (a5 i u hu).2.2, hb]; simp⟩))
        have hi : i < bs.length := by
          have := (List.getElem?_eq_some_iff.1 hu).1
          omega
        rw [List.getD_eq_getElem?_getD, List.getElem?_eq_getElem hi]
        simp
  | @orow h i e e2 xss h1 h2 => intro v hv; cases hv with | orow hg hrow =>
      obtain ⟨vs, bs, mb, a1, a2, a3, a4, a5, a6, a7, _⟩ := hr.ho _ _ _ hg h1
      rw [a4] at hrow
      refine .ints ⟨RowAt.of_owns' (a5 _ _ hrow).1 fun b hb => free hg h1 (by simp) h2 b ?_, (a5 _ _ hrow).2.1⟩
      rw [a7]
      refine List.mem_append.2 (.inr (List.mem_flatten.2 ⟨bs.getD i [], ?_, by rw [← (a5 _ _ hrow).2.2, hb]; simp⟩))
      have hi : i < bs.length := by
        have := (List.getElem?_eq_some_iff.1 hrow).1
        omega
      rw [List.getD_eq_getElem?_getD, List.getElem?_eq_getElem hi]
      simp
  | agg h1 _ ih => intro v hv; cases hv with | agg h2 h4 h3 => exact .agg (by omega) h4 fun i => ih i (h3 i)

/-- The objects at the handles 'H' are now those. -/
def setAll : List AO → List Nat → List AO → List AO
  | os, h :: H, o :: osP => setAll (os.set h o) H osP
  | os, _, _ => os

theorem setAll_get : ∀ {H : List Nat} {osP os : List AO} {i : Nat} {y : AO}, H.Nodup → osP.length = H.length → (setAll os H osP)[i]? = some y → (∃ k : Nat, H[k]? = some i ∧ osP[k]? = some y) ∨ (i ∉ H ∧ os[i]? = some y)
  | [], _, os, i, y, _, _, h => .inr ⟨by simp, by simpa [setAll] using h⟩
  | _ :: _, [], os, i, y, _, hl, h => by simp at hl
  | h0 :: H, o :: osP, os, i, y, hn, hl, h => by
    simp only [setAll] at h
    rcases setAll_get (List.nodup_cons.1 hn).2 (by simpa using hl) h with ⟨k, h1, h2⟩ | ⟨h1, h2⟩
    · exact .inl ⟨k + 1, by simpa using h1, by simpa using h2⟩
    · rw [List.getElem?_set] at h2
      split at h2
      · subst_vars
        split at h2
        · exact .inl ⟨0, rfl, by simpa using h2⟩
        · cases h2
      · rename_i hne
        exact .inr ⟨by simp [h1]; exact fun e => hne e.symm, h2⟩
theorem length_setAll : ∀ {H : List Nat} {osP os : List AO}, (setAll os H osP).length = os.length
  | [], osP, os => by cases osP <;> simp [setAll]
  | _ :: _, [], os => by simp [setAll]
  | h :: H, o :: osP, os => by simp [setAll, length_setAll]

theorem Rel.updAll (hr : Rel base w gs env os tm) (hh : Handed os H osP) {os' : List AO} (ho' : Objs base w' (selG gs H) os') (hbel : Below base w w')
    (hw : ∀ b, b < w.heap.size → (∀ (k : Nat) g, (selG gs H)[k]? = some g → b ∉ g.bl) → w'.heap[b]? = w.heap[b]?) : Rel base w' gs env (setAll os H os') tm := by
  have hlt : ∀ h ∈ H, h < gs.length := fun h hm => by rw [hr.hl]; exact hh.lt h hm
  have hl' : os'.length = H.length := by rw [← ho'.hl]; simp [selG]
  -- an object of the new state, and what stood there
  have part : ∀ {i : Nat} {x : Gh} {y : AO}, gs[i]? = some x → (setAll os H os')[i]? = some y →
      (∃ (k : Nat) (o : AO), H[k]? = some i ∧ os'[k]? = some y ∧ y.plain ∧ os[i]? = some o ∧ o.plain) ∨ (i ∉ H ∧ os[i]? = some y) := by
    intro i x y hx hy
    rcases setAll_get hh.nd hl' hy with ⟨k, h1, h2⟩ | ⟨h1, h2⟩
    · obtain ⟨o, _, a2, p⟩ := hh.get h1
      exact .inl ⟨k, o, h1, h2, ho'.hp y (List.mem_of_getElem? h2), a2, p⟩
    · exact .inr ⟨h1, h2⟩
  have hout : ∀ b, okOf gs os b → ∀ (k : Nat) g, (selG gs H)[k]? = some g → b ∉ g.bl := by
    intro b hb k g hg
    obtain ⟨h, hk, hg'⟩ := selG_get hlt hg
    obtain ⟨o, _, a2, p⟩ := hh.get hk
    exact hb h g o hg' a2 p.live
  have kp : Keeps (okOf gs os) (okOf gs (setAll os H os')) w w' := by
    intro b hb hlt'
    refine ⟨fun i x y hx hy hny hm => ?_, hw b hlt' (hout b hb)⟩
    rcases part hx hy with ⟨k, o, _, _, _, a4, p⟩ | ⟨_, h2⟩
    · exact hb i x o hx a4 p.live hm
    · exact hb i x y hx h2 hny hm
  have same : ∀ {i : Nat} {x : Gh} {y : AO}, gs[i]? = some x → os[i]? = some y → i ∉ H → y ≠ .dead → ∀ b, b ∈ x.bl → w'.heap[b]? = w.heap[b]? := by
    intro i x y hx hy hi hny b hb
    refine hw b (hr.hn i x y hx hy hny b hb).2 fun k g hg hm => ?_
    obtain ⟨h, hk, hg'⟩ := selG_get hlt hg
    obtain ⟨o, _, a2, p⟩ := hh.get hk
    exact hr.hd i h x g y o (fun e => hi (by rw [e]; exact List.mem_of_getElem? hk)) hx hg' hy a2 hny p.live.ne b hb hm
  -- liveness of what stood there
  have was : ∀ {i : Nat} {x : Gh} {y : AO}, gs[i]? = some x → (setAll os H os')[i]? = some y → y ≠ .dead → ∃ o, os[i]? = some o ∧ o ≠ .dead := by
    intro i x y hx hy hny
    rcases part hx hy with ⟨k, o, _, _, _, a4, p⟩ | ⟨_, h2⟩
    · exact ⟨o, a4, p.live.ne⟩
    · exact ⟨y, h2, hny⟩
  refine ⟨Nat.le_trans hr.hb hbel.size, by rw [length_setAll]; exact hr.hl, hr.hs, fun i => (hr.he i).mono kp (fun _ _ e => e), ?_, ?_, ?_⟩
  · intro i x y hx hy
    rcases part hx hy with ⟨k, o, h1, h2, p2, a4, p⟩ | ⟨h1, h2⟩
    · exact p2.ro (ho'.ho k x y (selG_of h1 hx) h2)
    · exact (hr.ho i x y hx h2).mono kp (fun _ _ e => e) fun hny => same hx h2 h1 hny
  · intro i j g1 g2 o1 o2 hij hg1 hg2 ho1 ho2 hn1 hn2
    obtain ⟨y1, b1, c1⟩ := was hg1 ho1 hn1
    obtain ⟨y2, b2, c2⟩ := was hg2 ho2 hn2
    exact hr.hd i j g1 g2 y1 y2 hij hg1 hg2 b1 b2 c1 c2
  · intro i x y hx hy hny b hb
    obtain ⟨z, h1, h2⟩ := was hx hy hny
    have := hr.hn i x z hx h1 h2 b hb
    exact ⟨this.1, Nat.lt_of_lt_of_le this.2 hbel.size⟩

def ImmUs (os : List AO) (H : List Nat) : List AV → List AV → Prop
  | [], [] => True
  | a :: as0, b :: bs => ImmU os H a b ∧ ImmUs os H as0 bs
  | _, _ => False
theorem ImmUs.get : ∀ {l l' : List AV}, ImmUs os H l l' → l.length = l'.length ∧ ∀ i : Nat, ImmU os H (l.getD i .any) (l'.getD i .any)
  | [], [], _ => ⟨rfl, fun i => .any _⟩
  | a :: as0, b :: bs, h => by
    obtain ⟨h1, h2⟩ := h
    have ih := ImmUs.get h2
    refine ⟨by simp [ih.1], fun i => ?_⟩
    cases i with
    | zero => simpa using h1
    | succ i => simpa using ih.2 i
  | [], _ :: _, h => h.elim
  | _ :: _, [], h => h.elim
theorem ImmU.aggs {l l' : List AV} (h : ImmUs os H l l') : ImmU os H (.agg l) (.agg l') := .agg h.get.1 h.get.2

theorem c_callu {P : Program} {d : Option Tmp} {ty : TypeId} {pos : String} {af : Array Edge} {g : Option (Nat × Bool)} {f : FuncId} {args : List AV} {Q : Value → List AO → Prop} (hc : AFnU P f args osP Q) {xs : List Operand} {ats : Array TypeId} (hh : Handed os H osP)
    (hi : ImmUs os H (xs.map (AV.ev env)) args) :
    COp P ⟨d, .call { callee := .value (.func f), args := xs.toArray, argTypes := ats }, ty, pos, af, g⟩ env os (fun r e o => ∃ v os', Q v os' ∧ r = .val v ∧ e = env ∧ o = setAll os H os') := by
  intro base w gs tm hr
  have hg := hi.get
  refine ⟨f, _, run_call hc.1 xs ats _ rfl w, (hc.2 base w (selG gs H) _ hr.hb (hr.objs hh) (by simpa using hg.1) fun i => ?_).mono ?_⟩
  · have h1 := hg.2 i
    have e1 : (xs.map (AV.ev env)).getD i .any = match xs[i]? with | some x => AV.ev env x | none => .any := by
      simp only [List.getD_eq_getElem?_getD, List.getElem?_map]; cases xs[i]? <;> rfl
    have e2 : (xs.map (Act.eval ⟨tm, []⟩)).toArray.getD i undef = match xs[i]? with | some x => Act.eval ⟨tm, []⟩ x | none => undef := by
      simp only [Array.getD_eq_getD_getElem?, List.getElem?_toArray, List.getElem?_map]; cases xs[i]? <;> rfl
    rw [e1] at h1
    rw [e2]
    cases hx : xs[i]? with
    | some x => rw [hx] at h1; exact h1.rv hr hh (hr.ev x)
    | none => rw [hx] at h1; exact h1.rv hr hh (.any _)
  · rintro e w' ⟨v, os', rfl, hq, ho', hbel, hw⟩
    exact ⟨v, .val v, env, setAll os H os', gs, rfl, ⟨v, os', hq, rfl, rfl, rfl⟩, hr.updAll hh ho' hbel hw, .val v, hbel⟩
end
end Go.Proofs.YtfgnccoaebkckaaDoor
