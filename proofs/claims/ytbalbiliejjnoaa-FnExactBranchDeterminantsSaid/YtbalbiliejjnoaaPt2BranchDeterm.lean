/-
  Parts of the proof, one behind the other: contracts of functions and plain laws. No condition.
-/
import Derived.Lib.SliceRun
import Derived.Test.YtbalbiliejjnoaaPt1BranchDeterm
/-
  Contracts of functions that write to memory that is handed to them, and calls by them. No condition.
-/
namespace Go.Proofs.Ytbalbiliejjnoaa
open Go Go.RowKit

/-- A slice of integers, or of rows of integers, that is all its own. -/
def AO.plain : AO → Prop
  | .sli _ _ => True
  | .sls _ _ _ => True
  | .ob _ => True
  | _ => False
theorem AO.plain.live {o : AO} (h : o.plain) : o.live := by cases o <;> simp_all [AO.plain, AO.live]
theorem AO.plain.ro {base : Nat} {w : World} {ok ok' : Nat → Prop} {gs gs' : List Gh} {g : Gh} {o : AO} (h : o.plain) (hr : RO base w ok gs g o) : RO base w ok' gs' g o := by
  cases o with
  | sli e xs => exact hr
  | sls e e2 xss => exact hr
  | ob q => exact hr
  | _ => exact h.elim

/-- The objects 'os' behind the handles 0, 1, .. -/
structure Objs (base : Nat) (w : World) (gs : List Gh) (os : List AO) : Prop where
  hl : gs.length = os.length
  hp : ∀ o ∈ os, o.plain
  ho : ∀ (h : Nat) g o, gs[h]? = some g → os[h]? = some o → RO base w (fun _ => True) gs g o
  hd : ∀ (h k : Nat) g g', h ≠ k → gs[h]? = some g → gs[k]? = some g' → ∀ b, b ∈ g.bl → b ∉ g'.bl
  hn : ∀ (h : Nat) g, gs[h]? = some g → ∀ b, b ∈ g.bl → base ≤ b ∧ b < w.heap.size

/-- The function writes to the objects 'os', which its arguments name, and hands back a plain value: Q speaks of both. All else is as it was. -/
def AFnU (P : Program) (f : FuncId) (args : List AV) (os : List AO) (Q : Value → List AO → Prop) : Prop :=
  HasBody P f ∧ ∀ base w gs vs, base ≤ w.heap.size → Objs base w gs os → vs.size = args.length → (∀ i : Nat, RV w (okOf gs os) gs (vs.getD i undef) (args.getD i .any)) →
    Calls P f vs w fun e w' => ∃ v os', e = .returned v ∧ Q v os' ∧ Objs base w' gs os' ∧ Below base w w' ∧ ∀ b, b < w.heap.size → (∀ (h : Nat) g, gs[h]? = some g → b ∉ g.bl) → w'.heap[b]? = w.heap[b]?

theorem start_rv {w : World} {ok : Nat → Prop} {gs : List Gh} (args : List AV) (n : Nat) (vs : Array Value) (hv : ∀ i : Nat, RV w ok gs (vs.getD i undef) (args.getD i .any)) (i : Nat) :
    RV w ok gs ((vs ++ Array.replicate n undef).getD i undef) ((Env.start args n).lk i) := by
  have e1 : (Env.start args n).lk i = args.getD i .any := by
    simp only [Env.lk, Env.fd, Env.start, fdm_enumF args 0 i (Nat.zero_le _), Nat.sub_zero]
    rw [List.getD_eq_getElem?_getD]
    cases hb : Nat.blt i (args.length + n) with
    | true => rfl
    | false =>
      have : ¬ i < args.length + n := by intro h4; rw [← Nat.blt_eq, hb] at h4; cases h4
      rw [List.getElem?_eq_none (by omega)]; rfl
  have e2 : (vs ++ Array.replicate n undef).getD i undef = vs.getD i undef := by
    simp only [Array.getD_eq_getD_getElem?, Array.getElem?_append]
    split
    · rfl
    · rename_i hi
      rw [Array.getElem?_eq_none (Nat.le_of_not_lt hi), Array.getElem?_replicate]
      split <;> rfl
  rw [e1, e2]
  exact hv i

theorem AFnU.of {P : Program} {f : FuncId} {fn : Func} {c : Code} {args : List AV} {os : List AO} {Q : Value → List AO → Prop} {n : Nat} (hf : P.funcs[f]? = some fn) (hb : fn.body = some c) (hnm : (fn.name == "runtime.NumGoroutine") = false) (hn : fn.ntmps - args.length = n)
    (h : ∀ K, AWp P c (fun _ _ => False) (fun _ _ _ => False) (fun env os1 => ∃ v os', ResIs P fn env os1 (.val v) ∧ Q v os' ∧ os1.take os.length = os' ∧ os1[os.length]? = some (.keep (os.length + 1) K) ∧ ∀ o ∈ os', o.plain) (Env.start args n) (os ++ [.keep (os.length + 1) K])) :
    AFnU P f args os Q := by
  refine ⟨⟨fn, c, hf, hnm, hb⟩, fun base w gs vs hbase hO hsz hvs => calls_of_wp hf hb ?_⟩
  rw [show fn.ntmps - vs.size = n by rw [hsz]; exact hn]
  let bl : List Nat := (List.range w.heap.size).filter fun b => decide (base ≤ b) && gs.all fun g => !g.bl.contains b
  let gk : Gh := ⟨undef, 0, bl, []⟩
  let K : Kp := ⟨fun b => w.heap[b]?, gs ++ [gk]⟩
  have hbl : ∀ b, b ∈ bl ↔ b < w.heap.size ∧ base ≤ b ∧ ∀ (h : Nat) g, gs[h]? = some g → b ∉ g.bl := by
    intro b
    simp only [bl, List.mem_filter, List.mem_range, Bool.and_eq_true, decide_eq_true_eq, List.all_eq_true, Bool.not_eq_true', List.contains_eq_mem, decide_eq_false_iff_not]
    constructor
    · rintro ⟨h1, h2, h3⟩
      exact ⟨h1, h2, fun h g hg => h3 g (List.mem_of_getElem? hg)⟩
    · rintro ⟨h1, h2, h3⟩
      exact ⟨h1, h2, fun g hg => by obtain ⟨i, hi⟩ := List.getElem?_of_mem hg; exact h3 i g hi⟩
  have hl := hO.hl
  have part : ∀ {i : Nat} {x : Gh} {y : AO}, (gs ++ [gk])[i]? = some x → (os ++ [.keep (os.length + 1) K])[i]? = some y → (gs[i]? = some x ∧ os[i]? = some y) ∨ (i = os.length ∧ x = gk ∧ y = .keep (os.length + 1) K) := by
    intro i x y hx hy
    rcases append_one hx with ⟨h1, h2⟩ | ⟨h1, rfl⟩
    · rcases append_one hy with ⟨h3, h4⟩ | ⟨h3, rfl⟩
      · exact .inl ⟨h2, h4⟩
      · omega
    · rcases append_one hy with ⟨h3, h4⟩ | ⟨h3, rfl⟩
      · omega
      · exact .inr ⟨h3, rfl, rfl⟩
  have gl : ∀ (i : Nat) x, gs[i]? = some x → (gs ++ [gk])[i]? = some x := fun i x e => by
    rw [List.getElem?_append_left (List.getElem?_eq_some_iff.1 e).1]; exact e
  have kp : Keeps (okOf gs os) (okOf (gs ++ [gk]) (os ++ [.keep (os.length + 1) K])) w w := by
    intro b hbk _
    refine ⟨fun i x y hx hy hny hm => ?_, rfl⟩
    rcases part hx hy with ⟨h1, h2⟩ | ⟨_, _, rfl⟩
    · exact hbk i x y h1 h2 hny hm
    · exact hny.elim
  have hrel : Rel base w (gs ++ [gk]) (Env.start args n) (os ++ [.keep (os.length + 1) K]) (vs ++ Array.replicate n undef) := by
    refine ⟨hbase, by simp [hl], by simp [Env.start, hsz], fun i => ?_, ?_, ?_, ?_⟩
    · exact start_rv args n vs (fun i => (hvs i).mono kp gl) i
    · intro i x y hx hy
      rcases part hx hy with ⟨h1, h2⟩ | ⟨_, rfl, rfl⟩
      · exact (hO.hp y (List.mem_of_getElem? h2)).ro (hO.ho i x y h1 h2)
      · exact ⟨fun b _ => rfl, by simp [K, hl], fun i x h => h⟩
    · intro i j g1 g2 o1 o2 hij hg1 hg2 ho1 ho2 _ _ b hb1 hb2
      rcases part hg1 ho1 with ⟨a1, a2⟩ | ⟨a1, rfl, _⟩
      · rcases part hg2 ho2 with ⟨b1, b2⟩ | ⟨_, rfl, _⟩
        · exact hO.hd i j g1 g2 hij a1 b1 b hb1 hb2
        · exact ((hbl b).1 hb2).2.2 i g1 a1 hb1
      · rcases part hg2 ho2 with ⟨b1, b2⟩ | ⟨b1, _, _⟩
        · exact ((hbl b).1 hb1).2.2 j g2 b1 hb2
        · omega
    · intro i x y hx hy _ b hb
      rcases part hx hy with ⟨h1, h2⟩ | ⟨_, rfl, _⟩
      · exact hO.hn i x h1 b hb
      · exact ⟨((hbl b).1 hb).2.1, ((hbl b).1 hb).1⟩
  refine wp_mono (h K base w w _ _ hrel (Below.refl _ _)) ?_
  intro e a w' hq
  cases e with
  | normal => obtain ⟨_, _, _, _, _, _, hx⟩ := hq; exact hx.elim
  | exit j => obtain ⟨_, _, _, _, _, _, hx⟩ := hq; exact hx.elim
  | ret =>
    obtain ⟨env, os1, gs1, hr, hd, hbel, v, os', h1, h2, h3, h4, h5⟩ := hq
    obtain ⟨u, hu, hv⟩ := h1 _ _ _ _ hr
    cases hv
    have hlt : os.length < os1.length := (List.getElem?_eq_some_iff.1 h4).1
    have hltg : os.length < gs1.length := by have := hr.hl; omega
    obtain ⟨g1, hg1⟩ : ∃ g1, gs1[os.length]? = some g1 := ⟨_, List.getElem?_eq_getElem hltg⟩
    obtain ⟨r1, r2, r3⟩ := hr.ho _ _ _ hg1 h4
    have pin : ∀ (i : Nat) x, gs[i]? = some x → gs1[i]? = some x := fun i x e => r3 i x (gl i x e)
    have egk : g1 = gk := by
      have := r3 os.length gk (by show (gs ++ [gk])[os.length]? = some gk; rw [← hl]; simp)
      rw [hg1] at this
      exact Option.some.inj this
    rw [egk] at r1
    have get' : ∀ {i : Nat} {y : AO}, os'[i]? = some y → os1[i]? = some y ∧ i < os.length := by
      intro i y hy
      rw [← h3, List.getElem?_take] at hy
      split at hy
      · exact ⟨hy, ‹_›⟩
      · cases hy
    refine ⟨hd, v, hu, v, os', rfl, h2, ⟨?_, h5, ?_, hO.hd, ?_⟩, hbel, ?_⟩
    · rw [← h3, List.length_take]; omega
    · intro i x y hx hy
      obtain ⟨h6, h7⟩ := get' hy
      exact (h5 y (List.mem_of_getElem? hy)).ro (hr.ho i x y (pin i x hx) h6)
    · intro i x hx b hb
      have := hO.hn i x hx b hb
      exact ⟨this.1, Nat.lt_of_lt_of_le this.2 hbel.size⟩
    · intro b hb hnot
      rcases Nat.lt_or_ge b base with h6 | h6
      · exact hbel.block b h6
      · exact r1 b ((hbl b).2 ⟨hb, h6, hnot⟩)
  | goto l => exact (hq : False).elim
  | panic ch => exact (hq : False).elim
  | outgrown => exact (hq : False).elim

/-! ### The caller -/
/-- What may be handed on where the handles 'H' are handed over to be written to. -/
inductive ImmU (os : List AO) (H : List Nat) : AV → AV → Prop
  | any (a : AV) : ImmU os H a .any
  | val (v : Value) : ImmU os H (.val v) (.val v)
  | ints (xs : List Int) : ImmU os H (.ints xs) (.ints xs)
  | intss (xss : List (List Int)) : ImmU os H (.intss xss) (.intss xss)
  | ro (r : Ro) : ImmU os H (.ro r) (.ro r)
  | sem (hs : List Nat) {a : AV} {r : Ro} : Reads os hs a r → (∀ h, h ∈ hs → h ∉ H) → ImmU os H a (.ro r)
  | nil : ImmU os H (.val (.slice none 0 0)) (.ints [])
  | nils : ImmU os H (.val (.slice none 0 0)) (.intss [])
  | own {k h : Nat} : H[k]? = some h → ImmU os H (.own h) (.own k)
  | optr {k h i : Nat} : H[k]? = some h → ImmU os H (.optr h i) (.optr k i)
  | sli {h : Nat} {e : TypeId} {xs : List Int} : os[h]? = some (.sli e xs) → h ∉ H → ImmU os H (.own h) (.ints xs)
  | sls {h : Nat} {e e2 : TypeId} {xss : List (List Int)} : os[h]? = some (.sls e e2 xss) → h ∉ H → ImmU os H (.own h) (.intss xss)
  | orow {h i : Nat} {e e2 : TypeId} {xss : List (List Int)} : os[h]? = some (.sls e e2 xss) → h ∉ H → ImmU os H (.orow h i) (.ints (xss.getD i []))
  | agg {l l' : List AV} : l.length = l'.length → (∀ i : Nat, ImmU os H (l.getD i .any) (l'.getD i .any)) → ImmU os H (.agg l) (.agg l')

theorem RowAt.of_owns' {w : World} {base : Nat} {e : TypeId} {v : Value} {n : Nat} {vs : List Value} {ok : Nat → Prop} (h : w.ownsRow base e 1 v n vs) (hok : ∀ b, v.ownBlock = some b → ok b) : RowAt w ok v vs := by
  obtain ⟨a, cap, hv, h1, h2, h3⟩ := RowAt.of_owns h
  refine ⟨a, cap, hv, h1, h2, fun hp => ?_⟩
  obtain ⟨b, off, ha, _, hc⟩ := h3 hp
  exact ⟨b, off, ha, hok b (by rw [hv, ha]; rfl), hc⟩

section
variable {base : Nat} {w w' : World} {gs : List Gh} {env : Env} {os : List AO} {tm : Array Value} {H : List Nat} {osP : List AO}

/-- The ghosts that are handed over. -/
def selG (gs : List Gh) (H : List Nat) : List Gh := H.map fun h => gs.getD h ⟨undef, 0, [], []⟩

theorem selG_get (hlt : ∀ h ∈ H, h < gs.length) {k : Nat} {x : Gh} (hx : (selG gs H)[k]? = some x) : ∃ h, H[k]? = some h ∧ gs[h]? = some x := by
  simp only [selG, List.getElem?_map] at hx
  cases hk : H[k]? with
  | none => rw [hk] at hx; cases hx
  | some h =>
    have hl := hlt h (List.mem_of_getElem? hk)
    rw [hk] at hx
    have e1 : gs[h]? = some gs[h] := List.getElem?_eq_getElem hl
    simp [e1] at hx
    exact ⟨h, rfl, by rw [e1, hx]⟩
theorem selG_of {k h : Nat} {x : Gh} (hk : H[k]? = some h) (hx : gs[h]? = some x) : (selG gs H)[k]? = some x := by
  simp [selG, List.getElem?_map, hk, hx]

/-- The objects that are handed over: 'osP'. -/
structure Handed (os : List AO) (H : List Nat) (osP : List AO) : Prop where
  nd : H.Nodup
  ob : ∀ (k : Nat) h, H[k]? = some h → osP[k]? = os[h]?
  ln : osP.length = H.length
  pl : ∀ o ∈ osP, o.plain

theorem Handed.lt (hh : Handed os H osP) : ∀ h ∈ H, h < os.length := by
  intro h hm
  obtain ⟨k, hk⟩ := List.getElem?_of_mem hm
  have h1 := (List.getElem?_eq_some_iff.1 hk).1
  have h2 := hh.ob k h hk
  rw [List.getElem?_eq_getElem (by rw [hh.ln]; exact h1)] at h2
  exact (List.getElem?_eq_some_iff.1 h2.symm).1

theorem Handed.get (hh : Handed os H osP) {k h : Nat} (hk : H[k]? = some h) : ∃ o, osP[k]? = some o ∧ os[h]? = some o ∧ o.plain := by
  have h1 := (List.getElem?_eq_some_iff.1 hk).1
  have h2 := hh.ob k h hk
  rw [List.getElem?_eq_getElem (by rw [hh.ln]; exact h1)] at h2
  exact ⟨_, List.getElem?_eq_getElem _, h2.symm, hh.pl _ (List.getElem_mem _)⟩

theorem Rel.objs (hr : Rel base w gs env os tm) (hh : Handed os H osP) : Objs base w (selG gs H) osP := by
  have hlt : ∀ h ∈ H, h < gs.length := fun h hm => by rw [hr.hl]; exact hh.lt h hm
  refine ⟨by simp [selG, hh.ln], hh.pl, ?_, ?_, ?_⟩
  · intro k x o hx ho
    obtain ⟨h, hk, hg⟩ := selG_get hlt hx
    obtain ⟨o', h1, h2, h3⟩ := hh.get hk
    rw [ho] at h1; cases h1
    exact h3.ro (hr.ho _ _ _ hg h2)
  · intro k l x y hkl hx hy b hb1 hb2
    obtain ⟨h1, hk, hg1⟩ := selG_get hlt hx
    obtain ⟨h2, hl, hg2⟩ := selG_get hlt hy
    obtain ⟨o1, _, a1, p1⟩ := hh.get hk
    obtain ⟨o2, _, a2, p2⟩ := hh.get hl
    refine hr.hd h1 h2 x y o1 o2 (fun e => hkl ?_) hg1 hg2 a1 a2 p1.live.ne p2.live.ne b hb1 hb2
    subst e
    exact (List.getElem?_inj (List.getElem?_eq_some_iff.1 hk).1 hh.nd).1 (hk.trans hl.symm)
  · intro k x hx b hb
    obtain ⟨h, hk, hg⟩ := selG_get hlt hx
    obtain ⟨o, _, a1, p1⟩ := hh.get hk
    exact hr.hn h x o hg a1 p1.live.ne b hb

theorem ImmU.rv (hr : Rel base w gs env os tm) (hh : Handed os H osP) {a a' : AV} (h : ImmU os H a a') : ∀ {v : Value}, RV w (okOf gs os) gs v a → RV w (okOf (selG gs H) osP) (selG gs H) v a' := by
  have hlt : ∀ h ∈ H, h < gs.length := fun h hm => by rw [hr.hl]; exact hh.lt h hm
  have kp : Keeps (okOf gs os) (okOf (selG gs H) osP) w w := by
    intro b hb _
    refine ⟨fun k x y hx hy hny hm => ?_, rfl⟩
    obtain ⟨h, hk, hg⟩ := selG_get hlt hx
    obtain ⟨o, a1, a2, p⟩ := hh.get hk
    exact hb h x o hg a2 p.live hm
  -- the blocks of a handle that is kept are none of those that are handed over
  have free : ∀ {h : Nat} {g : Gh} {o : AO}, gs[h]? = some g → os[h]? = some o → o ≠ .dead → h ∉ H → ∀ b, b ∈ g.bl → okOf (selG gs H) osP b := by
    intro h g o hg ho hnd hnot b hb k x y hx hy hny hm
    obtain ⟨h', hk, hg'⟩ := selG_get hlt hx
    obtain ⟨o', a1, a2, p⟩ := hh.get hk
    exact hr.hd h h' g x o o' (fun e => hnot (by rw [e]; exact List.mem_of_getElem? hk)) hg hg' ho a2 hnd p.live.ne b hb hm
  induction h with
  | any a => intro v _; exact .any v
  | val v => intro v hv; cases hv; exact .val _
  | ints xs => intro v hv; cases hv with | ints h1 => exact .ints (h1.mono kp)
  | intss xss => intro v hv; cases hv with | intss h1 => exact .intss (h1.mono kp)
  | ro r => intro v hv; cases hv with | ro h1 => exact .ro (r.up kp h1)
  | sem hs h1 h2 => intro v hv; exact .ro (h1 base w gs _ hr.ho (fun h hm g o hg ho hnd b hb => free hg ho hnd (h2 h hm) b hb) kp v hv)
  | nil => intro v hv; cases hv; exact .ints IntsAt.nil
  | nils => intro v hv; cases hv; exact .intss IntssAt.nil
  | own h1 => intro v hv; cases hv with | own hg => exact .own (selG_of h1 hg)
  | optr h1 => intro v hv; cases hv with | optr hg => exact .optr (selG_of h1 hg)
  | sli h1 h2 => intro v hv; cases hv with | own hg =>
      obtain ⟨a1, a2, a3⟩ := hr.ho _ _ _ hg h1
      exact .ints ⟨RowAt.of_owns' a1 fun b hb => free hg h1 (by simp) h2 b (a3.mem hb), a2⟩
  | sls h1 h2 => intro v hv; cases hv with | own hg =>
      obtain ⟨vs, bs, mb, a1, a2, a3, a4, a5, a6, a7, _⟩ := hr.ho _ _ _ hg h1
      refine .intss ⟨vs, RowAt.of_owns' a1 fun b hb => free hg h1 (by simp) h2 b ?_, a2, fun i u hu => ⟨RowAt.of_owns' (a5 i u hu).1 fun b hb => free hg h1 (by simp) h2 b ?_, (a5 i u hu).2.1⟩⟩
      · rw [a7]
        rcases a6 with ⟨b1, _⟩ | ⟨b1, b2⟩
        · rw [b1] at hb; cases hb
        · rw [b1] at hb; cases hb; simp [b2]
      · rw [a7]
        refine List.mem_append.2 (.inr (List.mem_flatten.2 ⟨bs.getD i [], ?_, by rw [← (a5 i u hu).2.2, hb]; simp⟩))
        have hi : i < bs.length := by
          have := (List.getElem?_eq_some_iff.1 hu).1
          omega
        rw [List.getD_eq_getElem?_getD, List.getElem?_eq_getElem hi]
        simp
  | @orow h i e e2 xss h1 h2 => intro v hv; cases hv with | orow hg hrow =>
      obtain ⟨vs, bs, mb, a1, a2, a3, a4, a5, a6, a7, _⟩ := hr.ho _ _ _ hg h1
      rw [a4] at hrow
      refine .ints ⟨RowAt.of_owns' (a5 _ _ hrow).1 fun b hb => free hg h1 (by simp) h2 b ?_, (a5 _ _ hrow).2.1⟩
      rw [a7]
      refine List.mem_append.2 (.inr (List.mem_flatten.2 ⟨bs.getD i [], ?_, by rw [← (a5 _ _ hrow).2.2, hb]; simp⟩))
      have hi : i < bs.length := by
        have := (List.getElem?_eq_some_iff.1 hrow).1
        omega
      rw [List.getD_eq_getElem?_getD, List.getElem?_eq_getElem hi]
      simp
  | agg h1 _ ih => intro v hv; cases hv with | agg h2 h4 h3 => exact .agg (by omega) h4 fun i => ih i (h3 i)

/-- The objects at the handles 'H' are now those. -/
def setAll : List AO → List Nat → List AO → List AO
  | os, h :: H, o :: osP => setAll (os.set h o) H osP
  | os, _, _ => os

theorem setAll_get : ∀ {H : List Nat} {osP os : List AO} {i : Nat} {y : AO}, H.Nodup → osP.length = H.length → (setAll os H osP)[i]? = some y → (∃ k : Nat, H[k]? = some i ∧ osP[k]? = some y) ∨ (i ∉ H ∧ os[i]? = some y)
  | [], _, os, i, y, _, _, h => .inr ⟨by simp, by simpa [setAll] using h⟩
  | _ :: _, [], os, i, y, _, hl, h => by simp at hl
  | h0 :: H, o :: osP, os, i, y, hn, hl, h => by
    simp only [setAll] at h
    rcases setAll_get (List.nodup_cons.1 hn).2 (by simpa using hl) h with ⟨k, h1, h2⟩ | ⟨h1, h2⟩
    · exact .inl ⟨k + 1, by simpa using h1, by simpa using h2⟩
    · rw [List.getElem?_set] at h2
      split at h2
      · subst_vars
        split at h2
        · exact .inl ⟨0, rfl, by simpa using h2⟩
        · cases h2
      · rename_i hne
        exact .inr ⟨by simp [h1]; exact fun e => hne e.symm, h2⟩
theorem length_setAll : ∀ {H : List Nat} {osP os : List AO}, (setAll os H osP).length = os.length
  | [], osP, os => by cases osP <;> simp [setAll]
  | _ :: _, [], os => by simp [setAll]
  | h :: H, o :: osP, os => by simp [setAll, length_setAll]

theorem Rel.updAll (hr : Rel base w gs env os tm) (hh : Handed os H osP) {os' : List AO} (ho' : Objs base w' (selG gs H) os') (hbel : Below base w w')
    (hw : ∀ b, b < w.heap.size → (∀ (k : Nat) g, (selG gs H)[k]? = some g → b ∉ g.bl) → w'.heap[b]? = w.heap[b]?) : Rel base w' gs env (setAll os H os') tm := by
  have hlt : ∀ h ∈ H, h < gs.length := fun h hm => by rw [hr.hl]; exact hh.lt h hm
  have hl' : os'.length = H.length := by rw [← ho'.hl]; simp [selG]
  -- an object of the new state, and what stood there
  have part : ∀ {i : Nat} {x : Gh} {y : AO}, gs[i]? = some x → (setAll os H os')[i]? = some y →
      (∃ (k : Nat) (o : AO), H[k]? = some i ∧ os'[k]? = some y ∧ y.plain ∧ os[i]? = some o ∧ o.plain) ∨ (i ∉ H ∧ os[i]? = some y) := by
    intro i x y hx hy
    rcases setAll_get hh.nd hl' hy with ⟨k, h1, h2⟩ | ⟨h1, h2⟩
    · obtain ⟨o, _, a2, p⟩ := hh.get h1
      exact .inl ⟨k, o, h1, h2, ho'.hp y (List.mem_of_getElem? h2), a2, p⟩
    · exact .inr ⟨h1, h2⟩
  have hout : ∀ b, okOf gs os b → ∀ (k : Nat) g, (selG gs H)[k]? = some g → b ∉ g.bl := by
    intro b hb k g hg
    obtain ⟨h, hk, hg'⟩ := selG_get hlt hg
    obtain ⟨o, _, a2, p⟩ := hh.get hk
    exact hb h g o hg' a2 p.live
  have kp : Keeps (okOf gs os) (okOf gs (setAll os H os')) w w' := by
    intro b hb hlt'
    refine ⟨fun i x y hx hy hny hm => ?_, hw b hlt' (hout b hb)⟩
    rcases part hx hy with ⟨k, o, _, _, _, a4, p⟩ | ⟨_, h2⟩
    · exact hb i x o hx a4 p.live hm
    · exact hb i x y hx h2 hny hm
  have same : ∀ {i : Nat} {x : Gh} {y : AO}, gs[i]? = some x → os[i]? = some y → i ∉ H → y ≠ .dead → ∀ b, b ∈ x.bl → w'.heap[b]? = w.heap[b]? := by
    intro i x y hx hy hi hny b hb
    refine hw b (hr.hn i x y hx hy hny b hb).2 fun k g hg hm => ?_
    obtain ⟨h, hk, hg'⟩ := selG_get hlt hg
    obtain ⟨o, _, a2, p⟩ := hh.get hk
    exact hr.hd i h x g y o (fun e => hi (by rw [e]; exact List.mem_of_getElem? hk)) hx hg' hy a2 hny p.live.ne b hb hm
  -- liveness of what stood there
  have was : ∀ {i : Nat} {x : Gh} {y : AO}, gs[i]? = some x → (setAll os H os')[i]? = some y → y ≠ .dead → ∃ o, os[i]? = some o ∧ o ≠ .dead := by
    intro i x y hx hy hny
    rcases part hx hy with ⟨k, o, _, _, _, a4, p⟩ | ⟨_, h2⟩
    · exact ⟨o, a4, p.live.ne⟩
    · exact ⟨y, h2, hny⟩
  refine ⟨Nat.le_trans hr.hb hbel.size, by rw [length_setAll]; exact hr.hl, hr.hs, fun i => (hr.he i).mono kp (fun _ _ e => e), ?_, ?_, ?_⟩
  · intro i x y hx hy
    rcases part hx hy with ⟨k, o, h1, h2, p2, a4, p⟩ | ⟨h1, h2⟩
    · exact p2.ro (ho'.ho k x y (selG_of h1 hx) h2)
    · exact (hr.ho i x y hx h2).mono kp (fun _ _ e => e) fun hny => same hx h2 h1 hny
  · intro i j g1 g2 o1 o2 hij hg1 hg2 ho1 ho2 hn1 hn2
    obtain ⟨y1, b1, c1⟩ := was hg1 ho1 hn1
    obtain ⟨y2, b2, c2⟩ := was hg2 ho2 hn2
    exact hr.hd i j g1 g2 y1 y2 hij hg1 hg2 b1 b2 c1 c2
  · intro i x y hx hy hny b hb
    obtain ⟨z, h1, h2⟩ := was hx hy hny
    have := hr.hn i x z hx h1 h2 b hb
    exact ⟨this.1, Nat.lt_of_lt_of_le this.2 hbel.size⟩

def ImmUs (os : List AO) (H : List Nat) : List AV → List AV → Prop
  | [], [] => True
  | a :: as0, b :: bs => ImmU os H a b ∧ ImmUs os H as0 bs
  | _, _ => False
theorem ImmUs.get : ∀ {l l' : List AV}, ImmUs os H l l' → l.length = l'.length ∧ ∀ i : Nat, ImmU os H (l.getD i .any) (l'.getD i .any)
  | [], [], _ => ⟨rfl, fun i => .any _⟩
  | a :: as0, b :: bs, h => by
    obtain ⟨h1, h2⟩ := h
    have ih := ImmUs.get h2
    refine ⟨by simp [ih.1], fun i => ?_⟩
    cases i with
    | zero => simpa using h1
    | succ i => simpa using ih.2 i
  | [], _ :: _, h => h.elim
  | _ :: _, [], h => h.elim
theorem ImmU.aggs {l l' : List AV} (h : ImmUs os H l l') : ImmU os H (.agg l) (.agg l') := .agg h.get.1 h.get.2

theorem c_callu {P : Program} {d : Option Tmp} {ty : TypeId} {pos : String} {af : Array Edge} {g : Option (Nat × Bool)} {f : FuncId} {args : List AV} {Q : Value → List AO → Prop} (hc : AFnU P f args osP Q) {xs : List Operand} {ats : Array TypeId} (hh : Handed os H osP)
    (hi : ImmUs os H (xs.map (AV.ev env)) args) :
    COp P ⟨d, .call { callee := .value (.func f), args := xs.toArray, argTypes := ats }, ty, pos, af, g⟩ env os (fun r e o => ∃ v os', Q v os' ∧ r = .val v ∧ e = env ∧ o = setAll os H os') := by
  intro base w gs tm hr
  have hg := hi.get
  refine ⟨f, _, run_call hc.1 xs ats _ rfl w, (hc.2 base w (selG gs H) _ hr.hb (hr.objs hh) (by simpa using hg.1) fun i => ?_).mono ?_⟩
  · have h1 := hg.2 i
    have e1 : (xs.map (AV.ev env)).getD i .any = match xs[i]? with | some x => AV.ev env x | none => .any := by
      simp only [List.getD_eq_getElem?_getD, List.getElem?_map]; cases xs[i]? <;> rfl
    have e2 : (xs.map (Act.eval ⟨tm, []⟩)).toArray.getD i undef = match xs[i]? with | some x => Act.eval ⟨tm, []⟩ x | none => undef := by
      simp only [Array.getD_eq_getD_getElem?, List.getElem?_toArray, List.getElem?_map]; cases xs[i]? <;> rfl
    rw [e1] at h1
    rw [e2]
    cases hx : xs[i]? with
    | some x => rw [hx] at h1; exact h1.rv hr hh (hr.ev x)
    | none => rw [hx] at h1; exact h1.rv hr hh (.any _)
  · rintro e w' ⟨v, os', rfl, hq, ho', hbel, hw⟩
    exact ⟨v, .val v, env, setAll os H os', gs, rfl, ⟨v, os', hq, rfl, rfl, rfl⟩, hr.updAll hh ho' hbel hw, .val v, hbel⟩
end
end Go.Proofs.Ytbalbiliejjnoaa
/-
  The call's own slices of rows: a row goes in, by a store or by an append; a row's cell is written. No condition.
-/
namespace Go.Proofs.Ytbalbiliejjnoaa
open Go Go.RowKit

/-- The rows of handle 'h' are no more named. -/
def AV.noRow1 (h : Nat) : AV → AV
  | .orow k i => if k = h then .any else .orow k i
  | .orptr k i j => if k = h then .any else .orptr k i j
  | .agg _ => .any
  | .tup _ => .any
  | a => a
def AV.noRow (h : Nat) : AV → AV
  | .orow k i => if k = h then .any else .orow k i
  | .orptr k i j => if k = h then .any else .orptr k i j
  | .agg l => .agg (l.map (AV.noRow1 h))
  | .tup l => .tup (l.map (AV.noRow1 h))
  | a => a

def AO.via (f : AV → AV) (p : Nat) : AO → AO
  | .bx T avs => .bx T (avs.map f)
  | .slr e avs => .slr e (avs.map f)
  | .keep n K => if p < n then .keep 0 ⟨K.snap, []⟩ else .keep n K
  | o => o
theorem AO.via_dead {f : AV → AV} {p : Nat} {o : AO} : o.via f p = .dead ↔ o = .dead := by cases o <;> simp [AO.via]; split <;> simp
theorem AO.via_live {f : AV → AV} {p : Nat} {o : AO} : (o.via f p).live ↔ o.live := by
  cases o with
  | keep n K => simp only [AO.via]; split <;> exact Iff.rfl
  | _ => exact Iff.rfl

/-- Ghosts other than p stay; that of p keeps its value. -/
structure SameV (p : Nat) (gs gs' : List Gh) : Prop where
  other : ∀ (k : Nat) g, k ≠ p → gs[k]? = some g → gs'[k]? = some g
  same : ∀ g, gs[p]? = some g → ∃ g', gs'[p]? = some g' ∧ g'.v = g.v ∧ g'.b = g.b

section
variable {w w' : World} {ok ok' : Nat → Prop} {gs gs' : List Gh} {p : Nat}

theorem SameV.own (s : SameV p gs gs') {h : Nat} {g : Gh} (hg : gs[h]? = some g) : ∃ g', gs'[h]? = some g' ∧ g'.v = g.v ∧ g'.b = g.b := by
  by_cases e : h = p
  · subst e; exact s.same g hg
  · exact ⟨g, s.other h g e hg, rfl, rfl⟩

theorem RV.noRow1 (k : Keeps ok ok' w w') (s : SameV p gs gs') {v : Value} {a : AV} (hv : RV w ok gs v a) : RV w' ok' gs' v (a.noRow1 p) := by
  cases hv with
  | any v => exact .any v
  | val v => exact .val v
  | ints h => exact .ints (h.mono k)
  | intss h => exact .intss (h.mono k)
  | @ro v r h => exact .ro (r.up k h)
  | iptr h h1 h2 => exact .iptr (h.mono k) h1 h2
  | iiptr h h1 h2 => exact .iiptr (h.mono k) h1 h2
  | own h1 =>
    obtain ⟨g', a1, a2, _⟩ := s.own h1
    rw [← a2]; exact .own a1
  | optr h1 =>
    obtain ⟨g', a1, _, a3⟩ := s.own h1
    rw [← a3]; exact .optr a1
  | osub h1 h2 h3 h4 =>
    obtain ⟨g', a1, _, a3⟩ := s.own h1
    exact .osub a1 (fun hp => by rw [a3]; exact h2 hp) h3 h4
  | @orow j i g v h1 h2 =>
    simp only [AV.noRow1]; split
    · exact .any _
    · exact .orow (s.other _ _ ‹_› h1) h2
  | @orptr j i n blk m c g h1 h2 =>
    simp only [AV.noRow1]; split
    · exact .any _
    · exact .orptr (s.other _ _ ‹_› h1) h2
  | agg _ _ _ => exact .any _
  | tup _ _ => exact .any _

theorem RV.noRow (k : Keeps ok ok' w w') (s : SameV p gs gs') {v : Value} {a : AV} (hv : RV w ok gs v a) : RV w' ok' gs' v (a.noRow p) := by
  cases hv with
  | any v => exact .any v
  | val v => exact .val v
  | ints h => exact .ints (h.mono k)
  | intss h => exact .intss (h.mono k)
  | @ro v r h => exact .ro (r.up k h)
  | iptr h h1 h2 => exact .iptr (h.mono k) h1 h2
  | iiptr h h1 h2 => exact .iiptr (h.mono k) h1 h2
  | own h1 =>
    obtain ⟨g', a1, a2, _⟩ := s.own h1
    rw [← a2]; exact .own a1
  | optr h1 =>
    obtain ⟨g', a1, _, a3⟩ := s.own h1
    rw [← a3]; exact .optr a1
  | osub h1 h2 h3 h4 =>
    obtain ⟨g', a1, _, a3⟩ := s.own h1
    exact .osub a1 (fun hp => by rw [a3]; exact h2 hp) h3 h4
  | @orow j i g v h1 h2 =>
    simp only [AV.noRow]; split
    · exact .any _
    · exact .orow (s.other _ _ ‹_› h1) h2
  | @orptr j i n blk m c g h1 h2 =>
    simp only [AV.noRow]; split
    · exact .any _
    · exact .orptr (s.other _ _ ‹_› h1) h2
  | agg h1 h3 h2 => exact .agg (by simpa using h1) h3 fun i => by rw [getD_map_f _ rfl]; exact (h2 i).noRow1 k s
  | tup h1 h2 => exact .tup (by simpa using h1) fun i => by rw [getD_map_f _ rfl]; exact (h2 i).noRow1 k s
end

/-- Object 'p' takes the blocks of object 'k', which is no more. -/
theorem Rel.absorb {base : Nat} {w w' : World} {gs : List Gh} {env : Env} {os : List AO} {tm : Array Value} (h : Rel base w gs env os tm) {p k : Nat} {g gk : Gh} {o ok : AO} (hg : gs[p]? = some g) (ho : os[p]? = some o) (hlv : o.live)
    (hgk : gs[k]? = some gk) (hok : os[k]? = some ok) (hlk : ok.live) (hpk : p ≠ k) (g' : Gh) (o' : AO) (f : AV → AV) (hf : f .any = .any)
    (hw : ∀ b, b < w.heap.size → b ∉ g.bl → w'.heap[b]? = w.heap[b]?) (hsz : w.heap.size ≤ w'.heap.size)
    (hbl : ∀ b, b ∈ g'.bl → (b ∈ g.bl ∨ b ∈ gk.bl ∨ w.heap.size ≤ b) ∧ b < w'.heap.size)
    (hrv : ∀ {ok' : Nat → Prop} {v : Value} {a : AV}, Keeps (okOf gs os) ok' w w' → RV w (okOf gs os) gs v a → RV w' ok' (gs.set p g') v (f a))
    (hro : Keeps (okOf gs os) (okOf (gs.set p g') (((os.map (AO.via f p)).set p o').set k .dead)) w w' → RO base w' (okOf (gs.set p g') (((os.map (AO.via f p)).set p o').set k .dead)) (gs.set p g') g' o') :
    Rel base w' (gs.set p g') (env.mp f) (((os.map (AO.via f p)).set p o').set k .dead) tm := by
  have hnd := hlv.ne
  have hnk := hlk.ne
  have hpg : p < gs.length := (List.getElem?_eq_some_iff.1 hg).1
  have hpo : p < os.length := (List.getElem?_eq_some_iff.1 ho).1
  have hko : k < os.length := (List.getElem?_eq_some_iff.1 hok).1
  have gset : ∀ {i : Nat} {x : Gh}, (gs.set p g')[i]? = some x → (i = p ∧ x = g') ∨ (i ≠ p ∧ gs[i]? = some x) := by
    intro i x e
    rw [List.getElem?_set] at e
    split at e
    · subst_vars; simp at e; exact .inl ⟨rfl, e.symm⟩
    · exact .inr ⟨fun e' => by simp_all, e⟩
  -- an object of the new state that is there
  have oset : ∀ {i : Nat} {x : AO}, (((os.map (AO.via f p)).set p o').set k .dead)[i]? = some x → x ≠ .dead → i ≠ k ∧ ((i = p ∧ x = o') ∨ (i ≠ p ∧ ∃ y, os[i]? = some y ∧ x = y.via f p)) := by
    intro i x e hx
    rw [List.getElem?_set] at e
    split at e
    · subst_vars; simp [hko] at e; exact absurd e.symm hx
    · rename_i hik
      refine ⟨fun e' => hik e'.symm, ?_⟩
      rw [List.getElem?_set] at e
      split at e
      · subst_vars; simp [hpo] at e; exact .inl ⟨rfl, e.symm⟩
      · refine .inr ⟨fun e' => by simp_all, ?_⟩
        rw [List.getElem?_map] at e
        cases hy : os[i]? with
        | none => simp [hy] at e
        | some y => simp [hy] at e; exact ⟨y, rfl, e.symm⟩
  have kp : Keeps (okOf gs os) (okOf (gs.set p g') (((os.map (AO.via f p)).set p o').set k .dead)) w w' := by
    intro b hb hlt
    refine ⟨?_, hw b hlt (hb p g o hg ho hlv)⟩
    intro i x y hx hy hny hmem
    obtain ⟨hik, hy'⟩ := oset hy hny.ne
    rcases gset hx with ⟨rfl, rfl⟩ | ⟨hi, hx'⟩
    · rcases (hbl b hmem).1 with h1 | h1 | h1
      · exact hb i g o hg ho hlv h1
      · exact hb k gk ok hgk hok hlk h1
      · omega
    · rcases hy' with ⟨rfl, rfl⟩ | ⟨_, z, hz, rfl⟩
      · exact hi rfl
      · exact hb i x z hx' hz (AO.via_live.1 hny) hmem
  refine ⟨Nat.le_trans h.hb hsz, by simp [h.hl], h.hs, fun i => by rw [Env.lk_mp _ hf]; exact hrv kp (h.he i), ?_, ?_, ?_⟩
  · intro i x y hx hy
    by_cases hyd : y = .dead
    · subst hyd; trivial
    · obtain ⟨hik, hy'⟩ := oset hy hyd
      rcases gset hx with ⟨rfl, rfl⟩ | ⟨hi, hx'⟩
      · rcases hy' with ⟨_, rfl⟩ | ⟨hi, _⟩
        · exact hro kp
        · exact absurd rfl hi
      · rcases hy' with ⟨rfl, rfl⟩ | ⟨_, z, hz, rfl⟩
        · exact absurd rfl hi
        · have hz' := h.ho i x z hx' hz
          have same : z ≠ .dead → ∀ b, b ∈ x.bl → w'.heap[b]? = w.heap[b]? := fun hn b hb =>
            hw b (h.hn i x z hx' hz hn b hb).2 (h.hd i p x g z o hi hx' hg hz ho hn hnd b hb)
          cases z with
          | ob q => exact q.up (fun b hb => same (by simp) b hb) hz'
          | bx T avs =>
            obtain ⟨cs, h1, h2, h3, h4, h5, h6, h7⟩ := hz'
            exact ⟨cs, by rw [same (by simp) x.b (by simp [h3])]; exact h1, h2, h3, h4, by simpa using h5, h6, fun j => by rw [getD_map_f _ hf]; exact hrv kp (h7 j)⟩
          | keep n K =>
            obtain ⟨h1, h2, h3⟩ := hz'
            have hs : ∀ b, b ∈ x.bl → w'.heap[b]? = K.snap b := fun b hb => by rw [same (by simp) b hb]; exact h1 b hb
            simp only [AO.via]
            split
            · exact ⟨hs, rfl, fun i x hx => by simp at hx⟩
            · refine ⟨hs, h2, fun i y hy => ?_⟩
              have := (List.getElem?_eq_some_iff.1 hy).1
              rw [List.getElem?_set, if_neg (by omega)]
              exact h3 i y hy
          | dead => trivial
          | sli e xs =>
            obtain ⟨h1, h2, h3⟩ := hz'
            exact ⟨ownsRow_of_block h1 fun b hb => same (by simp) b (h3.mem hb), h2, h3⟩
          | slr e avs =>
            obtain ⟨vs, h1, h2, h3, h4⟩ := hz'
            exact ⟨vs, ownsRow_of_block h1 fun b hb => same (by simp) b (h4.mem hb), by simpa using h2, fun j => by rw [getD_map_f _ hf]; exact hrv kp (h3 j), h4⟩
          | sls e e2 xss =>
            obtain ⟨vs, bs, mb, h1, h2, h3, h4, h5, h6, h7, h8⟩ := hz'
            refine ⟨vs, bs, mb, ownsRow_of_block h1 fun b hb => same (by simp) b ?_, h2, h3, h4, fun i u hu => ?_, h6, h7, h8⟩
            · rw [h7]
              rcases h6 with ⟨h6, _⟩ | ⟨h6, h6'⟩
              · rw [h6] at hb; cases hb
              · rw [h6] at hb; cases hb; simp [h6']
            · obtain ⟨r1, r2, r3⟩ := h5 i u hu
              refine ⟨ownsRow_of_block r1 fun b hb => same (by simp) b ?_, r2, r3⟩
              rw [h7]
              refine List.mem_append.2 (.inr (List.mem_flatten.2 ⟨bs.getD i [], ?_, by rw [← r3, hb]; simp⟩))
              have hi : i < bs.length := by
                have := (List.getElem?_eq_some_iff.1 hu).1
                omega
              rw [List.getD_eq_getElem?_getD, List.getElem?_eq_getElem hi]
              simp
  · -- what p has now is apart from all others
    have apart : ∀ {j : Nat} {x : Gh} {z : AO}, j ≠ p → j ≠ k → gs[j]? = some x → os[j]? = some z → z ≠ .dead → ∀ b, b ∈ g'.bl → b ∉ x.bl := by
      intro j x z hjp hjk hx hz hzn b hb hb2
      rcases (hbl b hb).1 with h1 | h1 | h1
      · exact h.hd p j g x o z (fun e => hjp e.symm) hg hx ho hz hnd hzn b h1 hb2
      · exact h.hd k j gk x ok z (fun e => hjk e.symm) hgk hx hok hz hnk hzn b h1 hb2
      · have := (h.hn j x z hx hz hzn b hb2).2; omega
    intro i j g1 g2 o1 o2 hij hg1 hg2 ho1 ho2 hn1 hn2 b hb1 hb2
    obtain ⟨hik, ho1'⟩ := oset ho1 hn1
    obtain ⟨hjk, ho2'⟩ := oset ho2 hn2
    rcases gset hg1 with ⟨rfl, rfl⟩ | ⟨hi, hg1'⟩
    · rcases gset hg2 with ⟨rfl, _⟩ | ⟨hj, hg2'⟩
      · exact hij rfl
      · rcases ho2' with ⟨rfl, _⟩ | ⟨_, z, hz, rfl⟩
        · exact hij rfl
        · exact apart hj hjk hg2' hz (fun e => hn2 (AO.via_dead.2 e)) b hb1 hb2
    · rcases ho1' with ⟨rfl, _⟩ | ⟨_, z, hz, rfl⟩
      · exact absurd rfl hi
      · have hzn : z ≠ .dead := fun e => hn1 (AO.via_dead.2 e)
        rcases gset hg2 with ⟨rfl, rfl⟩ | ⟨hj, hg2'⟩
        · exact apart hi hik hg1' hz hzn b hb2 hb1
        · rcases ho2' with ⟨rfl, _⟩ | ⟨_, y, hy, rfl⟩
          · exact absurd rfl hj
          · exact h.hd i j g1 g2 z y hij hg1' hg2' hz hy hzn (fun e => hn2 (AO.via_dead.2 e)) b hb1 hb2
  · intro i x y hx hy hny b hb
    obtain ⟨hik, hy'⟩ := oset hy hny
    rcases gset hx with ⟨rfl, rfl⟩ | ⟨hi, hx'⟩
    · have := hbl b hb
      refine ⟨?_, this.2⟩
      rcases this.1 with h1 | h1 | h1
      · exact (h.hn i g o hg ho hnd b h1).1
      · exact (h.hn k gk ok hgk hok hnk b h1).1
      · exact Nat.le_trans h.hb h1
    · rcases hy' with ⟨rfl, rfl⟩ | ⟨_, z, hz, rfl⟩
      · exact absurd rfl hi
      · have := h.hn i x z hx' hz (fun e => hny (AO.via_dead.2 e)) b hb
        exact ⟨this.1, Nat.lt_of_lt_of_le this.2 hsz⟩

theorem flatten_set {bs : List (List Nat)} {i : Nat} (c : List Nat) (hi : i < bs.length) : (bs.set i c).flatten = (bs.take i).flatten ++ (c ++ (bs.drop (i + 1)).flatten) := by
  rw [List.set_eq_take_append_cons_drop, if_pos hi, List.flatten_append, List.flatten_cons]
theorem flatten_at {bs : List (List Nat)} {i : Nat} (hi : i < bs.length) : bs.flatten = (bs.take i).flatten ++ (bs.getD i [] ++ (bs.drop (i + 1)).flatten) := by
  have h := flatten_set (bs.getD i []) hi
  rw [← h]
  congr 1
  apply List.ext_getElem?
  intro j
  rw [List.getElem?_set]
  split
  · subst_vars; simp [hi]
  · rfl
theorem nodup_swap {mb A B D c : List Nat} (h : (mb ++ (A ++ (B ++ D))).Nodup) (hc : c.Nodup) (hd : ∀ b, b ∈ c → b ∉ mb ++ (A ++ (B ++ D))) : (mb ++ (A ++ (c ++ D))).Nodup := by
  simp only [List.nodup_append, List.mem_append] at *
  obtain ⟨h1, ⟨h2, ⟨h3, h4, h5⟩, h6⟩, h7⟩ := h
  refine ⟨h1, ⟨h2, ⟨hc, h4, ?_⟩, ?_⟩, ?_⟩
  · intro a ha b hb e
    subst e
    exact hd a ha (.inr (.inr (.inr hb)))
  · intro a ha b hb e
    subst e
    rcases hb with hb | hb
    · exact hd a hb (.inr (.inl ha))
    · exact h6 a ha a (.inr hb) rfl
  · intro a ha b hb e
    subst e
    rcases hb with hb | hb | hb
    · exact h7 a ha a (.inl hb) rfl
    · exact hd a hb (.inl ha)
    · exact h7 a ha a (.inr (.inr hb)) rfl

section
variable {P : Program} {env : Env} {os : List AO} {d : Option Tmp} {ty : TypeId} {pos : String} {af : Array Edge} {g : Option (Nat × Bool)}

theorem GB.list {g : Gh} (h : GB g) : g.v.ownBlock.toList = g.bl := by
  rcases h with ⟨h1, h2⟩ | ⟨h1, h2⟩
  · rw [h1, h2]; rfl
  · rw [h1, h2]; rfl
theorem GB.nodup {g : Gh} (h : GB g) : g.bl.Nodup := by
  rcases h with ⟨_, h2⟩ | ⟨_, h2⟩ <;> rw [h2] <;> simp

/-- A row goes into a cell. -/
theorem l_store_row {t : TypeId} [ht : TCell P t] {x y : Operand} {h i k : Nat} {e e2 e3 : TypeId} {xss : List (List Int)} {ys : List Int} (hx : AV.ev env x = .optr h i) (hs : os[h]? = some (.sls e e2 xss)) (hi : i < xss.length) (hy : AV.ev env y = .own k) (hk : os[k]? = some (.sli e3 ys)) (he : e3 = e2)
    (hhk : (h == k) = false) :
    LOp P ⟨d, .store t x y, ty, pos, af, g⟩ env os .any (env.mp (AV.noRow h)) (((os.map (AO.via (AV.noRow h) h)).set h (.sls e e2 (xss.set i ys))).set k .dead) := by
  subst he
  have hne : h ≠ k := by simpa using hhk
  intro base w gs tm hr
  have hxv := hr.ev x
  have hyv := hr.ev y
  rw [hx] at hxv
  rw [hy] at hyv
  generalize hv : Act.eval ⟨tm, []⟩ x = v at hxv
  generalize hu : Act.eval ⟨tm, []⟩ y = u at hyv
  cases hxv with
  | @optr _ _ gh hg =>
  cases hyv with
  | @own _ gk hgk =>
    obtain ⟨vs, bs, mb, a1, a2, a3, a4, a5, a6, a7, a8⟩ := hr.ho _ _ _ hg hs
    obtain ⟨b1, b2, b3⟩ := hr.ho _ _ _ hgk hk
    have hiv : i < vs.length := by omega
    have hib : i < bs.length := by omega
    obtain ⟨b, cap, e1, e2', e3', e4⟩ := own_slice a1 (i := i) hiv
    have emb : mb = [gh.b] ∧ gh.v.ownBlock = some gh.b := by
      rcases a6 with ⟨c1, _⟩ | ⟨c1, c2⟩
      · rw [c1] at e2'; cases e2'
      · exact ⟨c2, c1⟩
    have eb : gh.b = b := by rw [emb.2] at e2'; exact Option.some.inj e2'
    have hcell : w.cell? ⟨gh.b, i, none⟩ = some vs[i] := by rw [eb, e3']; simp [hiv]
    obtain ⟨ua, uc, eu⟩ := ownsRow_slice b1
    have a1' := a1
    rw [e1] at a1'
    have hst := a1'.stored i gk.v
    have hother : ∀ c, c < w.heap.size → c ∉ gh.bl → (w.setCell ⟨b, i, none⟩ gk.v).heap[c]? = w.heap[c]? := fun c hc hcb => hst.2.block c hc (fun e' => hcb (by rw [a7, emb.1, eb]; simp [Option.some.inj e']))
    have hgb : gh.b ∈ gh.bl := by rw [a7, emb.1]; simp
    have hdis : ∀ c, c ∈ gk.bl → c ∉ gh.bl := hr.hd k h gk gh _ _ (fun e => hne e.symm) hgk hg hk hs (by simp) (by simp)
    have hap : ∀ c, c ≠ gh.b → (w.setCell ⟨b, i, none⟩ gk.v).heap[c]? = w.heap[c]? := fun c hc => heap_setCell_other w ⟨b, i, none⟩ c gk.v (fun e' => hc (by rw [eb]; exact e'))
    let g' : Gh := ⟨gh.v, gh.b, mb ++ (bs.set i gk.bl).flatten, vs.set i gk.v⟩
    have hhg : h < gs.length := (List.getElem?_eq_some_iff.1 hg).1
    have sv : SameV h gs (gs.set h g') := by
      refine ⟨fun j z hj hz => ?_, fun z hz => ⟨g', by simp [hhg], ?_⟩⟩
      · rw [List.getElem?_set, if_neg (fun e => hj e.symm)]; exact hz
      · rw [hg] at hz; cases hz; exact ⟨rfl, rfl⟩
    refine ⟨undef, w.setCell ⟨b, i, none⟩ gk.v, gs.set h g', .inr ⟨?_, rfl⟩, hr.absorb hg hs trivial hgk hk trivial hne g' _ (AV.noRow h) rfl hother hst.2.size ?_ (fun kp hv => hv.noRow kp sv) ?_, .any _, ?_⟩
    · have := run_store_cell (P := P) (t := t) (a := ⟨gh.b, i, none⟩) hcell (by rw [eb]; exact e4) (v := gk.v) (by rw [eu]; rfl) (by rw [eu]; rfl)
      rw [eb] at this hv
      simp only [execOp, hv, hu, Sem.run_bind, this, Result.andThen_ok, Sem.run_pure]
    · intro c hc
      have hc' : c ∈ mb ∨ c ∈ (bs.set i gk.bl).flatten := List.mem_append.1 hc
      have key : c ∈ gh.bl ∨ c ∈ gk.bl := by
        rcases hc' with hc' | hc'
        · left; rw [a7]; exact List.mem_append.2 (.inl hc')
        · rw [flatten_set _ hib] at hc'
          rcases List.mem_append.1 hc' with hc' | hc'
          · left; rw [a7, flatten_at hib]; simp [hc']
          · rcases List.mem_append.1 hc' with hc' | hc'
            · right; exact hc'
            · left; rw [a7, flatten_at hib]; simp [hc']
      refine ⟨?_, ?_⟩
      · rcases key with key | key
        · exact .inl key
        · exact .inr (.inl key)
      · rcases key with key | key
        · have := (hr.hn _ _ _ hg hs (by simp) c key).2
          exact Nat.lt_of_lt_of_le this hst.2.size
        · have := (hr.hn _ _ _ hgk hk (by simp) c key).2
          exact Nat.lt_of_lt_of_le this hst.2.size
    · intro kp
      refine ⟨vs.set i gk.v, bs.set i gk.bl, mb, ?_, by simp [a2], by simp [a3], rfl, fun j u hj => ?_, ?_, rfl, ?_⟩
      · rw [List.length_set, e1]; exact hst.1
      · rw [List.getElem?_set] at hj
        have egd : (xss.set i ys).getD j [] = if j = i then ys else xss.getD j [] := by
          simp only [List.getD_eq_getElem?_getD, List.getElem?_set]
          by_cases e : i = j
          · subst e; simp [hi]
          · have e' : ¬ j = i := fun h => e h.symm
            simp [e, e']
        have egb : (bs.set i gk.bl).getD j [] = if j = i then gk.bl else bs.getD j [] := by
          simp only [List.getD_eq_getElem?_getD, List.getElem?_set]
          by_cases e : i = j
          · subst e; simp [hib]
          · have e' : ¬ j = i := fun h => e h.symm
            simp [e, e']
        rw [egd, egb]
        split at hj
        · subst_vars
          cases hj
          simp only [if_true]
          exact ⟨ownsRow_of_block b1 fun c hc => hap c fun e => hdis c (b3.mem hc) (by rw [e]; exact hgb), b2, b3.list⟩
        · rename_i hij
          have hij' : ¬ j = i := fun e => hij e.symm
          simp only [hij', if_false]
          obtain ⟨r1, r2, r3⟩ := a5 j u hj
          refine ⟨ownsRow_of_block r1 fun c hc => hap c fun e => ?_, r2, r3⟩
          -- a row's block is not the outer one
          have hjb : j < bs.length := by
            have := (List.getElem?_eq_some_iff.1 hj).1
            omega
          have hcm : c ∈ bs.flatten := List.mem_flatten.2 ⟨bs.getD j [], by rw [List.getD_eq_getElem?_getD, List.getElem?_eq_getElem hjb]; simp, by rw [← r3, hc]; simp⟩
          rw [a7, emb.1] at a8
          have := (List.nodup_cons.1 a8).1
          rw [← e] at this
          exact this hcm
      · exact .inr ⟨emb.2, emb.1⟩
      · show (mb ++ (bs.set i gk.bl).flatten).Nodup
        rw [flatten_set _ hib]
        rw [a7, flatten_at hib] at a8
        refine nodup_swap a8 b3.nodup fun c hc => ?_
        have := hdis c hc
        rwa [a7, flatten_at hib] at this
    · have hbb : base ≤ b := by rw [← eb]; exact (hr.hn _ _ _ hg hs (by simp) gh.b hgb).1
      exact (Below.refl _ _).setCell (p := ⟨b, i, none⟩) hbb _
end
end Go.Proofs.Ytbalbiliejjnoaa
/-
  The rules of the abstract machine in the form in which the walks use them. No condition.
-/
namespace Go.Proofs.Ytbalbiliejjnoaa
open Go Go.RowKit

/-- An operand's abstract value, found in its slot. -/
def evo (env : Env) : Operand → Option AV
  | .tmp t => env.fd t
  | .const v => some (.val v)
  | .global _ => none
  | .func f => some (.val (.func (.func f) #[] #[]))

section
variable {P : Program} {env : Env} {os : List AO} {d : Option Tmp} {ty : TypeId} {pos : String} {af : Array Edge} {g : Option (Nat × Bool)} {N : APost} {X : Nat → APost} {Rt : APost} {l rest : List Oper} {K : APost} {q : Md} {wl : Bool}

theorem ev_of {x : Operand} {a : AV} (h : evo env x = some a) : AV.ev env x = a := by
  cases x with
  | tmp t => exact Env.lk_of h
  | const v => simp only [evo, Option.some.injEq] at h; exact h
  | global g => cases h
  | func f => simp only [evo, Option.some.injEq] at h; exact h
theorem gd_of {t : Nat} {a : AV} (h : env.fd t = some a) : env.lk t = a := Env.lk_of h
theorem gdl {l : List AV} {t : Nat} {a : AV} (h : l[t]? = some a) : l.getD t .any = a := by simp [h]

theorem a_move {x : Operand} {a : AV} (hx : evo env x = some a) : QOp P wl ⟨d, .move x, ty, pos, af, g⟩ env os a := ev_of hx ▸ q_move
theorem a_assign {x : Operand} {a : AV} (hx : evo env x = some a) : QOp P wl ⟨d, .assign x, ty, pos, af, g⟩ env os a := ev_of hx ▸ q_assign
theorem a_pick_t {c x y : Operand} {a : AV} (hc : evo env c = some (.val (.bool true))) (hx : evo env x = some a) : QOp P wl ⟨d, .pick c x y, ty, pos, af, g⟩ env os a := ev_of hx ▸ q_pick_t (ev_of hc)
theorem a_pick_f {c x y : Operand} {a : AV} (hc : evo env c = some (.val (.bool false))) (hy : evo env y = some a) : QOp P wl ⟨d, .pick c x y, ty, pos, af, g⟩ env os a := ev_of hy ▸ q_pick_f (ev_of hc)
theorem a_len {t e : TypeId} [TSlice P t e] {x : Operand} {a : AV} {n : Nat} (hx : evo env x = some a) (hl : HasLen os a n) : QOp P wl ⟨d, .call { callee := .builtin .len, args := #[x], argTypes := #[t] }, ty, pos, af, g⟩ env os (.i n) :=
  q_len (ev_of hx ▸ hl)

theorem im_nil : Imms os (([] : List Operand).map (AV.ev env)) [] := trivial
theorem im_cons {x : Operand} {xs : List Operand} {a b : AV} {bs : List AV} (hx : evo env x = some a) (h : Imm os a b) (hs : Imms os (xs.map (AV.ev env)) bs) : Imms os ((x :: xs).map (AV.ev env)) (b :: bs) :=
  ⟨ev_of hx ▸ h, hs⟩

theorem im_agg1 {a a' : AV} (h : Imm os a a') : Imm os (.agg [a]) (.agg [a']) := Imm.aggs ⟨h, trivial⟩
theorem im_agg2 {a a' b b' : AV} (h : Imm os a a') (h2 : Imm os b b') : Imm os (.agg [a, b]) (.agg [a', b']) := Imm.aggs ⟨h, h2, trivial⟩
theorem AWp.condT {c : Operand} {x y : Code} (hc : evo env c = some (.val (.bool true))) (h : AWp P x N X Rt env os) : AWp P (.cond c x y) N X Rt env os :=
  .cond (ev_of hc) (fun _ => h) (fun e => by cases e)
theorem AWp.condF {c : Operand} {x y : Code} (hc : evo env c = some (.val (.bool false))) (h : AWp P y N X Rt env os) : AWp P (.cond c x y) N X Rt env os :=
  .cond (ev_of hc) (fun e => by cases e) (fun _ => h)
theorem AWp.condP {c : Operand} {x y : Code} {p : Prop} {_ : Decidable p} (hc : evo env c = some (.val (.bool (decide p)))) (ht : p → AWp P x N X Rt env os) (hf : ¬ p → AWp P y N X Rt env os) : AWp P (.cond c x y) N X Rt env os :=
  .cond (ev_of hc) (fun e => ht (of_decide_eq_true e)) (fun e => hf (of_decide_eq_false e))
theorem AWp.condN {c : Operand} {x y : Code} {p : Prop} {_ : Decidable p} (hc : evo env c = some (.val (.bool (!decide p)))) (ht : ¬ p → AWp P x N X Rt env os) (hf : p → AWp P y N X Rt env os) : AWp P (.cond c x y) N X Rt env os :=
  .cond (ev_of hc) (fun e => ht (by simpa using e)) (fun e => hf (by simpa using e))
theorem AWp.condB {c : Operand} {x y : Code} {b : Bool} (hc : evo env c = some (.val (.bool b))) (ht : b = true → AWp P x N X Rt env os) (hf : b = false → AWp P y N X Rt env os) : AWp P (.cond c x y) N X Rt env os :=
  .cond (ev_of hc) ht hf

theorem imu_nil {H : List Nat} : ImmUs os H (([] : List Operand).map (AV.ev env)) [] := trivial
theorem imu_cons {H : List Nat} {x : Operand} {xs : List Operand} {a b : AV} {bs : List AV} (hx : evo env x = some a) (h : ImmU os H a b) (hs : ImmUs os H (xs.map (AV.ev env)) bs) : ImmUs os H ((x :: xs).map (AV.ev env)) (b :: bs) :=
  ⟨ev_of hx ▸ h, hs⟩
theorem imu_agg1 {H : List Nat} {a a' : AV} (h : ImmU os H a a') : ImmU os H (.agg [a]) (.agg [a']) := ImmU.aggs ⟨h, trivial⟩
theorem imu_agg2 {H : List Nat} {a a' b b' : AV} (h : ImmU os H a a') (h2 : ImmU os H b b') : ImmU os H (.agg [a, b]) (.agg [a', b']) := ImmU.aggs ⟨h, h2, trivial⟩
theorem handed1 {h : Nat} {o : AO} (ho : os[h]? = some o) (hp : o.plain) : Handed os [h] [o] := by
  refine ⟨by simp, fun k x hk => ?_, rfl, by simpa using hp⟩
  cases k with
  | zero => simp at hk; subst hk; simp [ho]
  | succ k => simp at hk
theorem handed2 {h1 h2 : Nat} {o1 o2 : AO} (ho1 : os[h1]? = some o1) (ho2 : os[h2]? = some o2) (hne : (h1 == h2) = false) (hp1 : o1.plain) (hp2 : o2.plain) : Handed os [h1, h2] [o1, o2] := by
  refine ⟨by simpa using hne, fun k x hk => ?_, rfl, by simp; exact ⟨hp1, hp2⟩⟩
  match k with
  | 0 => simp at hk; subst hk; simp [ho1]
  | 1 => simp at hk; subst hk; simp [ho2]
  | k + 2 => simp at hk

section guards
variable {d' d'' : Tmp} {op : Op} {j : Nat} {pol : Bool}
theorem AOps.splitP (_hj : (l[j]?).bind (·.dst) = some d'') {p : Prop} {_ : Decidable p} (hd : env.fd d'' = some (.val (.bool (decide p)))) (ht : p → AOps P q l (⟨some d', op, ty, pos, af, some (j, pol)⟩ :: rest) K (env.up d'' (.val (.bool true))) os)
    (hf : ¬ p → AOps P q l (⟨some d', op, ty, pos, af, some (j, pol)⟩ :: rest) K (env.up d'' (.val (.bool false))) os) : AOps P q l (⟨some d', op, ty, pos, af, some (j, pol)⟩ :: rest) K env os :=
  .split d'' (gd_of hd) (fun e => ht (of_decide_eq_true e)) (fun e => hf (of_decide_eq_false e))
theorem AOps.splitN (_hj : (l[j]?).bind (·.dst) = some d'') {p : Prop} {_ : Decidable p} (hd : env.fd d'' = some (.val (.bool (!decide p)))) (ht : ¬ p → AOps P q l (⟨some d', op, ty, pos, af, some (j, pol)⟩ :: rest) K (env.up d'' (.val (.bool true))) os)
    (hf : p → AOps P q l (⟨some d', op, ty, pos, af, some (j, pol)⟩ :: rest) K (env.up d'' (.val (.bool false))) os) : AOps P q l (⟨some d', op, ty, pos, af, some (j, pol)⟩ :: rest) K env os :=
  .split d'' (gd_of hd) (fun e => ht (by simpa using e)) (fun e => hf (by simpa using e))
theorem AOps.splitB (_hj : (l[j]?).bind (·.dst) = some d'') {b : Bool} (hd : env.fd d'' = some (.val (.bool b))) (ht : b = true → AOps P q l (⟨some d', op, ty, pos, af, some (j, pol)⟩ :: rest) K (env.up d'' (.val (.bool true))) os)
    (hf : b = false → AOps P q l (⟨some d', op, ty, pos, af, some (j, pol)⟩ :: rest) K (env.up d'' (.val (.bool false))) os) : AOps P q l (⟨some d', op, ty, pos, af, some (j, pol)⟩ :: rest) K env os :=
  .split d'' (gd_of hd) ht hf
end guards

theorem ResIs.v1 {fn : Func} {t : Tmp} (h : fn.results = #[.tmp t]) {a : AV} (ht : env.fd t = some a) : ResIs P fn env os a := gd_of ht ▸ .t1 h
theorem ResIs.vv2 {fn : Func} {t u : Tmp} (h : fn.results = #[.tmp t, .tmp u]) {a b : Value} (ha : env.fd t = some (.val a)) (hb : env.fd u = some (.val b)) : ResIs P fn env os (.val (.tuple #[a, b])) := .v2 h (gd_of ha) (gd_of hb)
theorem ResIs.vv3 {fn : Func} {t u s : Tmp} (h : fn.results = #[.tmp t, .tmp u, .tmp s]) {a b c : Value} (ha : env.fd t = some (.val a)) (hb : env.fd u = some (.val b)) (hc : env.fd s = some (.val c)) :
    ResIs P fn env os (.val (.tuple #[a, b, c])) := .v3 h (gd_of ha) (gd_of hb) (gd_of hc)
theorem ResIs.a2 {fn : Func} {t u : Tmp} (h : fn.results = #[.tmp t, .tmp u]) {a b : AV} (ha : env.fd t = some a) (hb : env.fd u = some b) : ResIs P fn env os (.tup [a, b]) := gd_of ha ▸ gd_of hb ▸ .t2 h

theorem ResIs.bool {fn : Func} {t : Tmp} (h : fn.results = #[.tmp t]) {b b' : Bool} (ht : env.fd t = some (.b b)) (e : b = b') : ResIs P fn env os (.val (.bool b')) := e ▸ .v1 h ht
theorem ResIs.int {fn : Func} {t : Tmp} (h : fn.results = #[.tmp t]) {b b' : Int} (ht : env.fd t = some (.i b)) (e : b = b') : ResIs P fn env os (.val (.int .i64 b')) := e ▸ .v1 h ht
theorem ResIs.intint {fn : Func} {t u : Tmp} (h : fn.results = #[.tmp t, .tmp u]) {a a' b b' : Int} (ht : env.fd t = some (.i a)) (hu : env.fd u = some (.i b)) (e1 : a = a') (e2 : b = b') : ResIs P fn env os (.val (.tuple #[.int .i64 a', .int .i64 b'])) :=
  e1 ▸ e2 ▸ .vv2 h ht hu
/-- Facts on a list that is read. -/
theorem RVs.ints {w : World} {args : List AV} {vs : Array Value} (h : RVs w args vs) {i : Nat} {xs : List Int} (hi : args[i]? = some (.ints xs)) : (∀ x ∈ xs, inI x) ∧ xs.length ≤ 9223372036854775807 := by
  have := h.2 i
  rw [gdl hi] at this
  generalize vs.getD i undef = v at this
  cases this with
  | ints h1 =>
    obtain ⟨⟨a, cap, _, h2, h3, _⟩, h4⟩ := h1
    exact ⟨h4, by simp [maxLen] at h3; simp at h2; omega⟩
end

/-- The facts that the arguments bring with them. -/
def ArgOk : AV → Prop
  | .ints xs => (∀ x ∈ xs, inI x) ∧ xs.length ≤ 9223372036854775807
  | .intss xss => (∀ xs ∈ xss, (∀ x ∈ xs, inI x) ∧ xs.length ≤ 9223372036854775807) ∧ xss.length ≤ 9223372036854775807
  | .agg l => ∀ a ∈ l, match a with
    | .ints xs => (∀ x ∈ xs, inI x) ∧ xs.length ≤ 9223372036854775807
    | .intss xss => (∀ xs ∈ xss, (∀ x ∈ xs, inI x) ∧ xs.length ≤ 9223372036854775807) ∧ xss.length ≤ 9223372036854775807
    | _ => True
  | _ => True

theorem IntsAt.ok {w : World} {ok : Nat → Prop} {v : Value} {xs : List Int} (h : IntsAt w ok v xs) : (∀ x ∈ xs, inI x) ∧ xs.length ≤ 9223372036854775807 := by
  obtain ⟨⟨a, cap, _, h2, h3, _⟩, h4⟩ := h
  exact ⟨h4, by simp [maxLen] at h3; simp at h2; omega⟩
theorem IntssAt.ok {w : World} {ok : Nat → Prop} {v : Value} {xss : List (List Int)} (h : IntssAt w ok v xss) : (∀ xs ∈ xss, (∀ x ∈ xs, inI x) ∧ xs.length ≤ 9223372036854775807) ∧ xss.length ≤ 9223372036854775807 := by
  obtain ⟨vs, ⟨a, cap, _, h2, h3, _⟩, h4, h5⟩ := h
  refine ⟨fun xs hx => ?_, by simp [maxLen] at h3; omega⟩
  obtain ⟨i, hi, rfl⟩ := List.getElem_of_mem hx
  have := (h5 i _ (List.getElem?_eq_getElem (by omega))).ok
  simpa [hi] using this

theorem RV.argOk {w : World} {ok : Nat → Prop} {gs : List Gh} {v : Value} {a : AV} (h : RV w ok gs v a) : ArgOk a := by
  cases h with
  | ints h => exact h.ok
  | intss h => exact h.ok
  | @agg vs l h1 h2 h3 =>
    intro b hb
    obtain ⟨i, hi, rfl⟩ := List.getElem_of_mem hb
    have := h3 i
    rw [show l.getD i .any = l[i] by simp [hi]] at this
    show match l[i] with
      | .ints xs => (∀ x ∈ xs, inI x) ∧ xs.length ≤ 9223372036854775807
      | .intss xss => (∀ xs ∈ xss, (∀ x ∈ xs, inI x) ∧ xs.length ≤ 9223372036854775807) ∧ xss.length ≤ 9223372036854775807
      | _ => True
    generalize l[i] = b at this
    generalize vs.getD i undef = v at this
    cases this with
    | ints h => exact h.ok
    | intss h => exact h.ok
    | _ => trivial
  | _ => trivial

/-- A contract's proof may lean on what the arguments bring with them. -/
theorem AFnV.facts {P : Program} {f : FuncId} {args : List AV} {v : Value} (hb : HasBody P f) (h : (∀ a ∈ args, ArgOk a) → AFnV P f args v) : AFnV P f args v := by
  refine ⟨hb, fun w vs hvs => (h fun a ha => ?_).2 w vs hvs⟩
  obtain ⟨i, hi, rfl⟩ := List.getElem_of_mem ha
  have := (hvs.2 i).argOk
  rwa [show args.getD i .any = args[i] by simp [hi]] at this
theorem AFn.facts {P : Program} {f : FuncId} {args : List AV} {Q : AV → List AO → Prop} (hb : HasBody P f) (h : (∀ a ∈ args, ArgOk a) → AFn P f args Q) : AFn P f args Q := by
  refine ⟨hb, fun w vs hvs => (h fun a ha => ?_).2 w vs hvs⟩
  obtain ⟨i, hi, rfl⟩ := List.getElem_of_mem ha
  have := (hvs.2 i).argOk
  rwa [show args.getD i .any = args[i] by simp [hi]] at this

theorem AFnV.start {P : Program} {f : FuncId} {fn : Func} {c : Code} {args : List AV} {v : Value} {m : Nat} (hf : P.funcs[f]? = some fn) (hn : fn.ntmps = m) (hb : fn.body = some c) (hnm : (fn.name == "runtime.NumGoroutine") = false)
    (h : (∀ a ∈ args, ArgOk a) → AWp P c (fun _ _ => False) (fun _ _ _ => False) (fun env os => ResIs P fn env os (.val v)) (Env.start args (m - args.length)) []) : AFnV P f args v :=
  .facts ⟨fn, c, hf, hnm, hb⟩ fun hk => .of hf hb hnm (by rw [hn]) (h hk)
theorem AFn.start {P : Program} {f : FuncId} {fn : Func} {c : Code} {args : List AV} {Q : AV → List AO → Prop} {m : Nat} (hf : P.funcs[f]? = some fn) (hn : fn.ntmps = m) (hb : fn.body = some c) (hnm : (fn.name == "runtime.NumGoroutine") = false)
    (h : (∀ a ∈ args, ArgOk a) → AWp P c (fun _ _ => False) (fun _ _ _ => False) (fun env os => ∃ a r objs, ResIs P fn env os a ∧ Ret1 os a r objs ∧ Q r objs) (Env.start args (m - args.length)) []) : AFn P f args Q :=
  .facts ⟨fn, c, hf, hnm, hb⟩ fun hk => .of hf hb hnm (by rw [hn]) (h hk)

theorem AFnU.start {P : Program} {f : FuncId} {fn : Func} {c : Code} {args : List AV} {objs : List AO} {Q : Value → List AO → Prop} {m : Nat} (hf : P.funcs[f]? = some fn) (hn : fn.ntmps = m) (hb : fn.body = some c) (hnm : (fn.name == "runtime.NumGoroutine") = false)
    (h : ∀ K, AWp P c (fun _ _ => False) (fun _ _ _ => False) (fun env os1 => ∃ v os', ResIs P fn env os1 (.val v) ∧ Q v os' ∧ os1.take objs.length = os' ∧ os1[objs.length]? = some (.keep (objs.length + 1) K) ∧ ∀ o ∈ os', o.plain) (Env.start args (m - args.length)) (objs ++ [.keep (objs.length + 1) K])) :
    AFnU P f args objs Q := .of hf hb hnm (by rw [hn]) h

theorem geti_mem {xs : List Int} {i : Int} (h0 : 0 ≤ i) (h1 : i < xs.length) : geti xs i ∈ xs := by
  unfold geti
  have : i.toNat < xs.length := by omega
  simp [this]
theorem gets_mem {xss : List (List Int)} {i : Int} (h0 : 0 ≤ i) (h1 : i < xss.length) : gets xss i ∈ xss := by
  unfold gets
  have : i.toNat < xss.length := by omega
  simp [this]
theorem inI_of {n : Int} (h0 : -9223372036854775808 ≤ n) (h1 : n ≤ 9223372036854775807) : inI n := ⟨h0, h1⟩

/-- A loop's head against a literal. -/
theorem le_nil {e : Env} : LeM e [] := trivial
theorem le_eq {e : Env} {k : Nat} {a a' : AV} {t : List (Nat × AV)} (h : e.fd k = some a) (ha : a = a') (ht : LeM e t) : LeM e ((k, a') :: t) := ⟨ha ▸ h, ht⟩
theorem lee {e e' : Env} (h : e'.n = e.n) (hm : LeM e e'.m) : LeE e e' := ⟨h, hm⟩
theorem lo_nil {a : List AO} : LeO a [] := by cases a <;> trivial
theorem lo_dead {a : AO} {as0 bs : List AO} (h : LeO as0 bs) : LeO (a :: as0) (.dead :: bs) := ⟨.inl rfl, h⟩
theorem lo_eq {a b : AO} {as0 bs : List AO} (e : a = b) (h : LeO as0 bs) : LeO (a :: as0) (b :: bs) := ⟨.inr (.inl e), h⟩
end Go.Proofs.Ytbalbiliejjnoaa
/-
  The rules of the abstract machine joined with their operations, by program: a walk finds its rule by the operation's head. No condition.
-/
namespace Go.Proofs.Ytbalbiliejjnoaa
open Go Go.RowKit
theorem if_pos' {c : Prop} [Decidable c] {A B : Prop} (hc : c) (h : A) : if c then A else B := by rw [if_pos hc]; exact h
theorem if_neg' {c : Prop} [Decidable c] {A B : Prop} (hc : ¬ c) (h : B) : if c then A else B := by rw [if_neg hc]; exact h
theorem lt_of_get {α : Type} {l : List α} {i : Nat} {a : α} (h : l[i]? = some a) : i < l.length := (List.getElem?_eq_some_iff.1 h).1
section
variable {P : Program} {env : Env} {os : List AO} {d : Tmp} {ty : TypeId} {pos : String} {af : Array Edge} {g : Option (Nat × Bool)} {l rest : List Oper} {K : APost} {q : Md}
theorem w_move {x : Operand} {a : AV} (hw : wantedA l env ⟨some d, .move x, ty, pos, af, g⟩ = some true) (hx : evo env x = some a) (h' : AOps P q l rest K (env.up d (a)) os) : AOps P q l (⟨some d, .move x, ty, pos, af, g⟩ :: rest) K env os := AOps.qo hw (a_move hx) h'
theorem w_assign {x : Operand} {a : AV} (hw : wantedA l env ⟨some d, .assign x, ty, pos, af, g⟩ = some true) (hx : evo env x = some a) (h' : AOps P q l rest K (env.up d (a)) os) : AOps P q l (⟨some d, .assign x, ty, pos, af, g⟩ :: rest) K env os := AOps.qo hw (a_assign hx) h'
theorem w_pickT {c x y : Operand} {a : AV} (hw : wantedA l env ⟨some d, .pick c x y, ty, pos, af, g⟩ = some true) (hc : evo env c = some (.val (.bool true))) (hx : evo env x = some a) (h' : AOps P q l rest K (env.up d (a)) os) : AOps P q l (⟨some d, .pick c x y, ty, pos, af, g⟩ :: rest) K env os := AOps.qo hw (a_pick_t hc hx) h'
theorem w_pickF {c x y : Operand} {a : AV} (hw : wantedA l env ⟨some d, .pick c x y, ty, pos, af, g⟩ = some true) (hc : evo env c = some (.val (.bool false))) (hx : evo env y = some a) (h' : AOps P q l rest K (env.up d (a)) os) : AOps P q l (⟨some d, .pick c x y, ty, pos, af, g⟩ :: rest) K env os := AOps.qo hw (a_pick_f hc hx) h'
theorem w_len {t e : TypeId} [TSlice P t e] {x : Operand} {a : AV} {n : Nat} (hw : wantedA l env ⟨some d, .call { callee := .builtin .len, args := #[x], argTypes := #[t] }, ty, pos, af, g⟩ = some true) (hx : evo env x = some a) (hl : HasLen os a n) (h' : AOps P q l rest K (env.up d (.i n)) os) : AOps P q l (⟨some d, .call { callee := .builtin .len, args := #[x], argTypes := #[t] }, ty, pos, af, g⟩ :: rest) K env os := AOps.qo hw (a_len hx hl) h'
theorem w_lss {xt yt : TypeId} {x y : Operand} {a b : Int} {k : IntKind} (hw : wantedA l env ⟨some d, .binOp .lss xt x y yt, ty, pos, af, g⟩ = some true) (ha : evo env x = some (.val (.int k a))) (hb : evo env y = some (.val (.int k b))) (h' : AOps P q l rest K (env.up d (.b (decide (a < b)))) os) : AOps P q l (⟨some d, .binOp .lss xt x y yt, ty, pos, af, g⟩ :: rest) K env os := AOps.qo hw (q_lss (ev_of ha) (ev_of hb)) h'
theorem w_leq {xt yt : TypeId} {x y : Operand} {a b : Int} {k : IntKind} (hw : wantedA l env ⟨some d, .binOp .leq xt x y yt, ty, pos, af, g⟩ = some true) (ha : evo env x = some (.val (.int k a))) (hb : evo env y = some (.val (.int k b))) (h' : AOps P q l rest K (env.up d (.b (decide (a ≤ b)))) os) : AOps P q l (⟨some d, .binOp .leq xt x y yt, ty, pos, af, g⟩ :: rest) K env os := AOps.qo hw (q_leq (ev_of ha) (ev_of hb)) h'
theorem w_gtr {xt yt : TypeId} {x y : Operand} {a b : Int} {k : IntKind} (hw : wantedA l env ⟨some d, .binOp .gtr xt x y yt, ty, pos, af, g⟩ = some true) (ha : evo env x = some (.val (.int k a))) (hb : evo env y = some (.val (.int k b))) (h' : AOps P q l rest K (env.up d (.b (decide (b < a)))) os) : AOps P q l (⟨some d, .binOp .gtr xt x y yt, ty, pos, af, g⟩ :: rest) K env os := AOps.qo hw (q_gtr (ev_of ha) (ev_of hb)) h'
theorem w_geq {xt yt : TypeId} {x y : Operand} {a b : Int} {k : IntKind} (hw : wantedA l env ⟨some d, .binOp .geq xt x y yt, ty, pos, af, g⟩ = some true) (ha : evo env x = some (.val (.int k a))) (hb : evo env y = some (.val (.int k b))) (h' : AOps P q l rest K (env.up d (.b (decide (b ≤ a)))) os) : AOps P q l (⟨some d, .binOp .geq xt x y yt, ty, pos, af, g⟩ :: rest) K env os := AOps.qo hw (q_geq (ev_of ha) (ev_of hb)) h'
theorem w_eql {xt yt : TypeId} {x y : Operand} {a b : Int} {k : IntKind} (hw : wantedA l env ⟨some d, .binOp .eql xt x y yt, ty, pos, af, g⟩ = some true) (ha : evo env x = some (.val (.int k a))) (hb : evo env y = some (.val (.int k b))) (h' : AOps P q l rest K (env.up d (.b (decide (a = b)))) os) : AOps P q l (⟨some d, .binOp .eql xt x y yt, ty, pos, af, g⟩ :: rest) K env os := AOps.qo hw (q_eql (ev_of ha) (ev_of hb)) h'
theorem w_neq {xt yt : TypeId} {x y : Operand} {a b : Int} {k : IntKind} (hw : wantedA l env ⟨some d, .binOp .neq xt x y yt, ty, pos, af, g⟩ = some true) (ha : evo env x = some (.val (.int k a))) (hb : evo env y = some (.val (.int k b))) (h' : AOps P q l rest K (env.up d (.b (decide (a ≠ b)))) os) : AOps P q l (⟨some d, .binOp .neq xt x y yt, ty, pos, af, g⟩ :: rest) K env os := AOps.qo hw (q_neq (ev_of ha) (ev_of hb)) h'
theorem w_add {xt yt : TypeId} {x y : Operand} {a b : Int} (hw : wantedA l env ⟨some d, .binOp .add xt x y yt, ty, pos, af, g⟩ = some true) (ha : evo env x = some (.i a)) (hb : evo env y = some (.i b)) (hi : inI (a + b)) (h' : AOps P q l rest K (env.up d (.i (a + b))) os) : AOps P q l (⟨some d, .binOp .add xt x y yt, ty, pos, af, g⟩ :: rest) K env os := AOps.qo hw (q_add (ev_of ha) (ev_of hb) hi) h'
theorem w_sub {xt yt : TypeId} {x y : Operand} {a b : Int} (hw : wantedA l env ⟨some d, .binOp .sub xt x y yt, ty, pos, af, g⟩ = some true) (ha : evo env x = some (.i a)) (hb : evo env y = some (.i b)) (hi : inI (a - b)) (h' : AOps P q l rest K (env.up d (.i (a - b))) os) : AOps P q l (⟨some d, .binOp .sub xt x y yt, ty, pos, af, g⟩ :: rest) K env os := AOps.qo hw (q_sub (ev_of ha) (ev_of hb) hi) h'
theorem w_mul {xt yt : TypeId} {x y : Operand} {a b : Int} (hw : wantedA l env ⟨some d, .binOp .mul xt x y yt, ty, pos, af, g⟩ = some true) (ha : evo env x = some (.i a)) (hb : evo env y = some (.i b)) (hi : inI (a * b)) (h' : AOps P q l rest K (env.up d (.i (a * b))) os) : AOps P q l (⟨some d, .binOp .mul xt x y yt, ty, pos, af, g⟩ :: rest) K env os := AOps.qo hw (q_mul (ev_of ha) (ev_of hb) hi) h'
theorem w_quo {xt yt : TypeId} {x y : Operand} {a b : Int} (hw : wantedA l env ⟨some d, .binOp .quo xt x y yt, ty, pos, af, g⟩ = some true) (ha : evo env x = some (.i a)) (hb : evo env y = some (.i b)) (h0 : 0 ≤ a) (h1 : 0 < b) (hi : inI a) (h' : AOps P q l rest K (env.up d (.i (a / b))) os) : AOps P q l (⟨some d, .binOp .quo xt x y yt, ty, pos, af, g⟩ :: rest) K env os := AOps.qo hw (q_quo (ev_of ha) (ev_of hb) h0 h1 hi) h'
theorem w_rem {xt yt : TypeId} {x y : Operand} {a b : Int} (hw : wantedA l env ⟨some d, .binOp .rem xt x y yt, ty, pos, af, g⟩ = some true) (ha : evo env x = some (.i a)) (hb : evo env y = some (.i b)) (h0 : 0 ≤ a) (h1 : 0 < b) (h' : AOps P q l rest K (env.up d (.i (a % b))) os) : AOps P q l (⟨some d, .binOp .rem xt x y yt, ty, pos, af, g⟩ :: rest) K env os := AOps.qo hw (q_rem (ev_of ha) (ev_of hb) h0 h1) h'
theorem w_remT {xt yt : TypeId} {x y : Operand} {a b : Int} (hw : wantedA l env ⟨some d, .binOp .rem xt x y yt, ty, pos, af, g⟩ = some true) (ha : evo env x = some (.i a)) (hb : evo env y = some (.i b)) (h0 : b ≠ 0) (h' : AOps P q l rest K (env.up d (.i (a.tmod b))) os) : AOps P q l (⟨some d, .binOp .rem xt x y yt, ty, pos, af, g⟩ :: rest) K env os := AOps.qo hw (q_remT (ev_of ha) (ev_of hb) h0) h'
theorem w_quoT {xt yt : TypeId} {x y : Operand} {a b : Int} (hw : wantedA l env ⟨some d, .binOp .quo xt x y yt, ty, pos, af, g⟩ = some true) (ha : evo env x = some (.i a)) (hb : evo env y = some (.i b)) (h0 : b ≠ 0) (hi : inI (a.tdiv b)) (h' : AOps P q l rest K (env.up d (.i (a.tdiv b))) os) : AOps P q l (⟨some d, .binOp .quo xt x y yt, ty, pos, af, g⟩ :: rest) K env os := AOps.qo hw (q_quoT (ev_of ha) (ev_of hb) h0 hi) h'
theorem w_eqlb {xt yt : TypeId} [TBool P xt] {x y : Operand} {a b : Bool} (hw : wantedA l env ⟨some d, .binOp .eql xt x y yt, ty, pos, af, g⟩ = some true) (ha : evo env x = some (.b a)) (hb : evo env y = some (.b b)) (h' : AOps P q l rest K (env.up d (.b (decide (a = b)))) os) : AOps P q l (⟨some d, .binOp .eql xt x y yt, ty, pos, af, g⟩ :: rest) K env os := AOps.qo hw (q_eqlb (ev_of ha) (ev_of hb)) h'
theorem w_neqb {xt yt : TypeId} [TBool P xt] {x y : Operand} {a b : Bool} (hw : wantedA l env ⟨some d, .binOp .neq xt x y yt, ty, pos, af, g⟩ = some true) (ha : evo env x = some (.b a)) (hb : evo env y = some (.b b)) (h' : AOps P q l rest K (env.up d (.b (decide (a ≠ b)))) os) : AOps P q l (⟨some d, .binOp .neq xt x y yt, ty, pos, af, g⟩ :: rest) K env os := AOps.qo hw (q_neqb (ev_of ha) (ev_of hb)) h'
theorem w_not {xt : TypeId} {x : Operand} {b : Bool} (hw : wantedA l env ⟨some d, .unOp .not xt x, ty, pos, af, g⟩ = some true) (hb : evo env x = some (.b b)) (h' : AOps P q l rest K (env.up d (.b (!b))) os) : AOps P q l (⟨some d, .unOp .not xt x, ty, pos, af, g⟩ :: rest) K env os := AOps.qo hw (q_not (ev_of hb)) h'
theorem w_neg {xt : TypeId} {x : Operand} {a : Int} (hw : wantedA l env ⟨some d, .unOp .neg xt x, ty, pos, af, g⟩ = some true) (ha : evo env x = some (.i a)) (hi : inI (0 - a)) (h' : AOps P q l rest K (env.up d (.i (0 - a))) os) : AOps P q l (⟨some d, .unOp .neg xt x, ty, pos, af, g⟩ :: rest) K env os := AOps.qo hw (q_neg (ev_of ha) hi) h'
theorem w_conv {src dst : TypeId} [TKind P src .i64] [TKind P dst .i64] {x : Operand} {a : Int} (hw : wantedA l env ⟨some d, .convert src dst x, ty, pos, af, g⟩ = some true) (ha : evo env x = some (.i a)) (hi : inI a) (h' : AOps P q l rest K (env.up d (.i a)) os) : AOps P q l (⟨some d, .convert src dst x, ty, pos, af, g⟩ :: rest) K env os := AOps.qo hw (q_conv (ev_of ha) hi) h'
theorem w_min {ats : Array TypeId} {x y : Operand} {a b : Int} (hw : wantedA l env ⟨some d, .call { callee := .builtin .min, args := #[x, y], argTypes := ats }, ty, pos, af, g⟩ = some true) (ha : evo env x = some (.i a)) (hb : evo env y = some (.i b)) (h' : AOps P q l rest K (env.up d (.i (min a b))) os) : AOps P q l (⟨some d, .call { callee := .builtin .min, args := #[x, y], argTypes := ats }, ty, pos, af, g⟩ :: rest) K env os := AOps.qo hw (q_min (ev_of ha) (ev_of hb)) h'
theorem w_max {ats : Array TypeId} {x y : Operand} {a b : Int} (hw : wantedA l env ⟨some d, .call { callee := .builtin .max, args := #[x, y], argTypes := ats }, ty, pos, af, g⟩ = some true) (ha : evo env x = some (.i a)) (hb : evo env y = some (.i b)) (h' : AOps P q l rest K (env.up d (.i (max a b))) os) : AOps P q l (⟨some d, .call { callee := .builtin .max, args := #[x, y], argTypes := ats }, ty, pos, af, g⟩ :: rest) K env os := AOps.qo hw (q_max (ev_of ha) (ev_of hb)) h'
theorem w_idx {t e : TypeId} [TSlice P t e] [TCell P e] {x y : Operand} {xs : List Int} {i : Int} (hw : wantedA l env ⟨some d, .indexAddr t x y, ty, pos, af, g⟩ = some true) (hx : evo env x = some (.ints xs)) (hy : evo env y = some (.i i)) (h0 : 0 ≤ i) (h1 : i < xs.length) (h' : AOps P q l rest K (env.up d (.iptr xs i)) os) : AOps P q l (⟨some d, .indexAddr t x y, ty, pos, af, g⟩ :: rest) K env os := AOps.qo hw (q_idx_ints (ev_of hx) (ev_of hy) h0 h1) h'
theorem w_idxs {t e : TypeId} [TSlice P t e] [TCell P e] {x y : Operand} {xss : List (List Int)} {i : Int} (hw : wantedA l env ⟨some d, .indexAddr t x y, ty, pos, af, g⟩ = some true) (hx : evo env x = some (.intss xss)) (hy : evo env y = some (.i i)) (h0 : 0 ≤ i) (h1 : i < xss.length) (h' : AOps P q l rest K (env.up d (.iiptr xss i)) os) : AOps P q l (⟨some d, .indexAddr t x y, ty, pos, af, g⟩ :: rest) K env os := AOps.qo hw (q_idx_intss (ev_of hx) (ev_of hy) h0 h1) h'
theorem w_ld {t : TypeId} [TCell P t] {x : Operand} {xs : List Int} {i : Int} (hw : wantedA l env ⟨some d, .load t x, ty, pos, af, g⟩ = some true) (hq : q.wl = false) (hx : evo env x = some (.iptr xs i)) (h' : AOps P q l rest K (env.up d (.i (geti xs i))) os) : AOps P q l (⟨some d, .load t x, ty, pos, af, g⟩ :: rest) K env os := AOps.qo hw (by rw [hq]; exact q_load_iptr (ev_of hx)) h'
theorem w_lds {t : TypeId} [TCell P t] {x : Operand} {xss : List (List Int)} {i : Int} (hw : wantedA l env ⟨some d, .load t x, ty, pos, af, g⟩ = some true) (hq : q.wl = false) (hx : evo env x = some (.iiptr xss i)) (h' : AOps P q l rest K (env.up d (.ints (gets xss i))) os) : AOps P q l (⟨some d, .load t x, ty, pos, af, g⟩ :: rest) K env os := AOps.qo hw (by rw [hq]; exact q_load_iiptr (ev_of hx)) h'
theorem w_idxo {t e : TypeId} [TSlice P t e] [TCell P e] {x y : Operand} {h n : Nat} {i : Int} (hw : wantedA l env ⟨some d, .indexAddr t x y, ty, pos, af, g⟩ = some true) (hx : evo env x = some (.own h)) (hs : IsSl os h n) (hy : evo env y = some (.i i)) (h0 : 0 ≤ i) (h1 : i < n) (h' : AOps P q l rest K (env.up d (.optr h i.toNat)) os) : AOps P q l (⟨some d, .indexAddr t x y, ty, pos, af, g⟩ :: rest) K env os := AOps.qo hw (q_idx_own (ev_of hx) hs (ev_of hy) h0 h1) h'
theorem w_idxr {t e : TypeId} [TSlice P t e] [TCell P e] {x y : Operand} {h j : Nat} {te te2 : TypeId} {xss : List (List Int)} {i : Int} (hw : wantedA l env ⟨some d, .indexAddr t x y, ty, pos, af, g⟩ = some true) (hx : evo env x = some (.orow h j)) (hs : os[h]? = some (.sls te te2 xss)) (hy : evo env y = some (.i i)) (h0 : 0 ≤ i) (h1 : i < (xss.getD j []).length) (h' : AOps P q l rest K (env.up d (.orptr h j i.toNat)) os) : AOps P q l (⟨some d, .indexAddr t x y, ty, pos, af, g⟩ :: rest) K env os := AOps.qo hw (q_idx_orow (ev_of hx) hs (ev_of hy) h0 h1) h'
theorem w_ldo {t : TypeId} [TCell P t] {x : Operand} {h i : Nat} {e : TypeId} {xs : List Int} (hw : wantedA l env ⟨some d, .load t x, ty, pos, af, g⟩ = some true) (hq : q.wl = false) (hx : evo env x = some (.optr h i)) (hs : os[h]? = some (.sli e xs)) (hi : i < xs.length) (h' : AOps P q l rest K (env.up d (.i (geti xs i))) os) : AOps P q l (⟨some d, .load t x, ty, pos, af, g⟩ :: rest) K env os := AOps.qo hw (by rw [hq]; exact q_load_sli (ev_of hx) hs hi) h'
theorem w_ldr {t : TypeId} [TCell P t] {x : Operand} {h i k : Nat} {e : TypeId} {idx : List Nat} (hw : wantedA l env ⟨some d, .load t x, ty, pos, af, g⟩ = some true) (hq : q.wl = false) (hx : evo env x = some (.optr h i)) (hs : os[h]? = some (.slr e (idx.map (AV.orow k)))) (hi : i < idx.length) (h' : AOps P q l rest K (env.up d (.orow k (idx.getD i 0))) os) : AOps P q l (⟨some d, .load t x, ty, pos, af, g⟩ :: rest) K env os := AOps.qo hw (by rw [hq]; exact q_load_slr (ev_of hx) hs (by simp [hi])) h'
theorem w_ldls {t : TypeId} [TCell P t] {x : Operand} {h i : Nat} {e e2 : TypeId} {xss : List (List Int)} (hw : wantedA l env ⟨some d, .load t x, ty, pos, af, g⟩ = some true) (hq : q.wl = false) (hx : evo env x = some (.optr h i)) (hs : os[h]? = some (.sls e e2 xss)) (hi : i < xss.length) (h' : AOps P q l rest K (env.up d (.orow h i)) os) : AOps P q l (⟨some d, .load t x, ty, pos, af, g⟩ :: rest) K env os := AOps.qo hw (by rw [hq]; exact q_load_sls (ev_of hx) hs hi) h'
theorem w_ldrp {t : TypeId} [TCell P t] {x : Operand} {h i j : Nat} {e e2 : TypeId} {xss : List (List Int)} (hw : wantedA l env ⟨some d, .load t x, ty, pos, af, g⟩ = some true) (hq : q.wl = false) (hx : evo env x = some (.orptr h i j)) (hs : os[h]? = some (.sls e e2 xss)) (hj : j < (xss.getD i []).length) (h' : AOps P q l rest K (env.up d (.i (geti (xss.getD i []) j))) os) : AOps P q l (⟨some d, .load t x, ty, pos, af, g⟩ :: rest) K env os := AOps.qo hw (by rw [hq]; exact q_load_orptr (ev_of hx) hs hj) h'
theorem w_ldb {t : TypeId} [TCell P t] {x : Operand} {h i : Nat} {T : TypeId} {avs : List AV} {a : AV} (hw : wantedA l env ⟨some d, .load t x, ty, pos, af, g⟩ = some true) (hq : q.wl = false) (hx : evo env x = some (.optr h i)) (hs : os[h]? = some (.bx T avs)) (hi : avs[i]? = some a) (h' : AOps P q l rest K (env.up d (a)) os) : AOps P q l (⟨some d, .load t x, ty, pos, af, g⟩ :: rest) K env os := AOps.qo hw (by rw [hq]; exact QOp.cast (gdl hi) (q_load_bx (ev_of hx) hs (lt_of_get hi))) h'
theorem w_ldst {t : TypeId} {n : Nat} {zs : List Value} [TStruct P t n zs] {x : Operand} {h : Nat} {T : TypeId} {avs : List AV} (hw : wantedA l env ⟨some d, .load t x, ty, pos, af, g⟩ = some true) (hq : q.wl = false) (hx : evo env x = some (.optr h 0)) (hs : os[h]? = some (.bx T avs)) (hn : avs.length = n) (h' : AOps P q l rest K (env.up d (.agg avs)) os) : AOps P q l (⟨some d, .load t x, ty, pos, af, g⟩ :: rest) K env os := AOps.qo hw (by rw [hq]; exact q_load_str (ev_of hx) hs hn) h'
theorem w_fa {t : TypeId} {f off : Nat} [TField P t f off] {x : Operand} {h i j : Nat} (hw : wantedA l env ⟨some d, .fieldAddr t x f, ty, pos, af, g⟩ = some true) (hx : evo env x = some (.optr h i)) (hj : i + off = j) (h' : AOps P q l rest K (env.up d (.optr h j)) os) : AOps P q l (⟨some d, .fieldAddr t x f, ty, pos, af, g⟩ :: rest) K env os := AOps.qo hw (QOp.cast (by rw [hj]) (q_fieldAddr (off := off) (ev_of hx))) h'
theorem w_fld {t : TypeId} {f off : Nat} [TField P t f off] {x : Operand} {l' : List AV} {a : AV} (hw : wantedA l env ⟨some d, .field t x f, ty, pos, af, g⟩ = some true) (hx : evo env x = some (.agg l')) (hi : l'[off]? = some a) (h' : AOps P q l rest K (env.up d (a)) os) : AOps P q l (⟨some d, .field t x f, ty, pos, af, g⟩ :: rest) K env os := AOps.qo hw (QOp.cast (gdl hi) (q_field (off := off) (ev_of hx) (lt_of_get hi))) h'
theorem w_ext {x : Operand} {l' : List AV} {i : Nat} {a : AV} (hw : wantedA l env ⟨some d, .extract x i, ty, pos, af, g⟩ = some true) (hx : evo env x = some (.tup l')) (hi : l'[i]? = some a) (h' : AOps P q l rest K (env.up d (a)) os) : AOps P q l (⟨some d, .extract x i, ty, pos, af, g⟩ :: rest) K env os := AOps.qo hw (QOp.cast (gdl hi) (q_extract (ev_of hx) (lt_of_get hi))) h'
theorem w_extv {x : Operand} {vs : List Value} {i : Nat} {u : Value} (hw : wantedA l env ⟨some d, .extract x i, ty, pos, af, g⟩ = some true) (hx : evo env x = some (.val (.tuple vs.toArray))) (hi : vs[i]? = some u) (h' : AOps P q l rest K (env.up d (.val u)) os) : AOps P q l (⟨some d, .extract x i, ty, pos, af, g⟩ :: rest) K env os := AOps.qo hw (q_extract_v (ev_of hx) hi) h'
theorem w_slhi {t e : TypeId} [TSlice P t e] [TCell P e] {x y : Operand} {xs : List Int} {n : Int} (hw : wantedA l env ⟨some d, .slice t x none (some y) none, ty, pos, af, g⟩ = some true) (hx : evo env x = some (.ints xs)) (hy : evo env y = some (.i n)) (h0 : 0 ≤ n) (h1 : n ≤ xs.length) (h' : AOps P q l rest K (env.up d (.ints (xs.take n.toNat))) os) : AOps P q l (⟨some d, .slice t x none (some y) none, ty, pos, af, g⟩ :: rest) K env os := AOps.qo hw (q_slice_hi (ev_of hx) (ev_of hy) h0 h1) h'
theorem w_sllo {t e : TypeId} [TSlice P t e] [TCell P e] {x y : Operand} {xs : List Int} {n : Int} (hw : wantedA l env ⟨some d, .slice t x (some y) none none, ty, pos, af, g⟩ = some true) (hx : evo env x = some (.ints xs)) (hy : evo env y = some (.i n)) (h0 : 0 ≤ n) (h1 : n ≤ xs.length) (h' : AOps P q l rest K (env.up d (.ints (xs.drop n.toNat))) os) : AOps P q l (⟨some d, .slice t x (some y) none none, ty, pos, af, g⟩ :: rest) K env os := AOps.qo hw (q_slice_lo (ev_of hx) (ev_of hy) h0 h1) h'
theorem w_sllh {t e : TypeId} [TSlice P t e] [TCell P e] {x y z : Operand} {xs : List Int} {m n : Int} (hw : wantedA l env ⟨some d, .slice t x (some y) (some z) none, ty, pos, af, g⟩ = some true) (hx : evo env x = some (.ints xs)) (hy : evo env y = some (.i m)) (hz : evo env z = some (.i n)) (h0 : 0 ≤ m) (h1 : m ≤ n) (h2 : n ≤ xs.length) (h' : AOps P q l rest K (env.up d (.ints ((xs.take n.toNat).drop m.toNat))) os) : AOps P q l (⟨some d, .slice t x (some y) (some z) none, ty, pos, af, g⟩ :: rest) K env os := AOps.qo hw (q_slice_lh (ev_of hx) (ev_of hy) (ev_of hz) h0 h1 h2) h'
theorem w_oslo {t e : TypeId} [TSlice P t e] [TCell P e] {x y : Operand} {h : Nat} {e' : TypeId} {xs : List Int} {n : Int} (hw : wantedA l env ⟨some d, .slice t x (some y) none none, ty, pos, af, g⟩ = some true) (hx : evo env x = some (.own h)) (hs : os[h]? = some (.sli e' xs)) (hy : evo env y = some (.i n)) (h0 : 0 ≤ n) (h1 : n ≤ xs.length) (h' : AOps P q l rest K (env.up d (.osub h n.toNat (xs.length - n.toNat))) os) : AOps P q l (⟨some d, .slice t x (some y) none none, ty, pos, af, g⟩ :: rest) K env os := AOps.qo hw (q_oslice_lo (ev_of hx) hs (ev_of hy) h0 h1) h'
theorem w_oshi {t e : TypeId} [TSlice P t e] [TCell P e] {x y : Operand} {h : Nat} {e' : TypeId} {xs : List Int} {n : Int} (hw : wantedA l env ⟨some d, .slice t x none (some y) none, ty, pos, af, g⟩ = some true) (hx : evo env x = some (.own h)) (hs : os[h]? = some (.sli e' xs)) (hy : evo env y = some (.i n)) (h0 : 0 ≤ n) (h1 : n ≤ xs.length) (h' : AOps P q l rest K (env.up d (.osub h 0 n.toNat)) os) : AOps P q l (⟨some d, .slice t x none (some y) none, ty, pos, af, g⟩ :: rest) K env os := AOps.qo hw (q_oslice_hi (ev_of hx) hs (ev_of hy) h0 h1) h'
theorem w_build0 {t : TypeId} {n : Nat} {zs : List Value} [TBuild P t n zs] (hw : wantedA l env ⟨some d, .build t #[], ty, pos, af, g⟩ = some true) (h1 : zs.all (·.oneCell') = true) (h' : AOps P q l rest K (env.up d (.agg (zs.map AV.val))) os) : AOps P q l (⟨some d, .build t #[], ty, pos, af, g⟩ :: rest) K env os := AOps.qo hw (q_build0 h1) h'
theorem w_build1 {t : TypeId} {zs : List Value} [TBuild P t 1 zs] {x : Operand} {a : AV} (hw : wantedA l env ⟨some d, .build t #[(0, x)], ty, pos, af, g⟩ = some true) (hx : evo env x = some a) (h1 : OneC env os a) (h' : AOps P q l rest K (env.up d (.agg [a])) os) : AOps P q l (⟨some d, .build t #[(0, x)], ty, pos, af, g⟩ :: rest) K env os := AOps.qo hw (q_build1 (ev_of hx) h1) h'
theorem w_build2 {t : TypeId} {zs : List Value} [TBuild P t 2 zs] {x y : Operand} {a b : AV} (hw : wantedA l env ⟨some d, .build t #[(0, x), (1, y)], ty, pos, af, g⟩ = some true) (hx : evo env x = some a) (hy : evo env y = some b) (h1 : OneC env os a) (h2 : OneC env os b) (h' : AOps P q l rest K (env.up d (.agg [a, b])) os) : AOps P q l (⟨some d, .build t #[(0, x), (1, y)], ty, pos, af, g⟩ :: rest) K env os := AOps.qo hw (q_build2 (ev_of hx) (ev_of hy) h1 h2) h'
theorem w_skip {op : Op} (hw : wantedA l env ⟨some d, op, ty, pos, af, g⟩ = some false) (h' : AOps P q l rest K (env.up d (.val undef)) os) : AOps P q l (⟨some d, op, ty, pos, af, g⟩ :: rest) K env os := AOps.skip hw h'
theorem w_bs0 {t e : TypeId} {bytes : Nat} [TSlice P t e] [TElem P e (.int .i64 0) bytes] {m : Nat} (hm : os.length = m) (h' : AOps P .seq l rest K (env.up d (.own m)) (os ++ [.sli e []])) : AOps P .seq l (⟨some d, .buildSlice t 0 #[], ty, pos, af, none⟩ :: rest) K env os := AOps.lo (hm ▸ l_bs0) h'
theorem w_bs1 {t e : TypeId} {bytes : Nat} [TSlice P t e] [TElem P e (.int .i64 0) bytes] {x : Operand} {a : Int} {m : Nat} (hx : evo env x = some (.i a)) (hm : os.length = m) (ha : inI a) (h' : AOps P .seq l rest K (env.up d (.own m)) (os ++ [.sli e [a]])) : AOps P .seq l (⟨some d, .buildSlice t 1 #[(0, x)], ty, pos, af, none⟩ :: rest) K env os := AOps.lo (hm ▸ l_bs1 (ev_of hx) ha) h'
theorem w_bs2 {t e : TypeId} {bytes : Nat} [TSlice P t e] [TElem P e (.int .i64 0) bytes] {x y : Operand} {a b : Int} {m : Nat} (hx : evo env x = some (.i a)) (hy : evo env y = some (.i b)) (hm : os.length = m) (ha : inI a) (hb : inI b) (h' : AOps P .seq l rest K (env.up d (.own m)) (os ++ [.sli e [a, b]])) : AOps P .seq l (⟨some d, .buildSlice t 2 #[(0, x), (1, y)], ty, pos, af, none⟩ :: rest) K env os := AOps.lo (hm ▸ l_bs2 (ev_of hx) (ev_of hy) ha hb) h'
theorem w_appn {t e : TypeId} {bytes : Nat} [TSlice P t e] [TElem P e (.int .i64 0) bytes] {x y : Operand} {a : AV} {ys : List Int} {m : Nat} (hx : evo env x = some (.val (.slice none 0 0))) (hy : evo env y = some a) (hi : Imm os a (.ints ys)) (hm : os.length = m) (hb : ys.length * bytes ≤ 140737488355328) (h' : AOps P .seq l rest K (env.up d (.own m)) (os ++ [.sli e ys])) : AOps P .seq l (⟨some d, .call { callee := .builtin .append, args := #[x, y], argTypes := #[t, t] }, ty, pos, af, none⟩ :: rest) K env os := AOps.lo (hm ▸ l_append_nil (ev_of hx) (ev_of hy ▸ hi) hb) h'
theorem w_boxa {T : TypeId} {x : Operand} {avs : List AV} {m : Nat} (hx : evo env x = some (.agg avs)) (hm : os.length = m) (h' : AOps P .seq l rest K (env.up d (.optr m 0)) (os ++ [.bx T avs])) : AOps P .seq l (⟨some d, .box T x, ty, pos, af, none⟩ :: rest) K env os := AOps.lo (hm ▸ l_box_agg (ev_of hx)) h'
theorem w_alst {T : TypeId} {n : Nat} {zs : List Value} [TStruct P T n zs] {m : Nat} (h1 : zs.all (·.oneCell') = true) (hm : os.length = m) (h' : AOps P .seq l rest K (env.up d (.optr m 0)) (os ++ [.bx T (zs.map AV.val)])) : AOps P .seq l (⟨some d, .alloc T, ty, pos, af, none⟩ :: rest) K env os := AOps.lo (hm ▸ l_alloc_str (List.all_eq_true.1 h1)) h'
theorem w_alone {T : TypeId} {z : Value} {bytes : Nat} [TElem P T z bytes] {m : Nat} (h1 : z.oneCell' = true) (hc : z.cells = #[z]) (hm : os.length = m) (h' : AOps P .seq l rest K (env.up d (.optr m 0)) (os ++ [.bx T [.val z]])) : AOps P .seq l (⟨some d, .alloc T, ty, pos, af, none⟩ :: rest) K env os := AOps.lo (hm ▸ l_alloc_one h1 hc) h'
theorem w_mkr {t e e2 : TypeId} {bytes : Nat} [TSlice P t e] [TSlice P e e2] [TElem P e (.slice none 0 0) bytes] {x y : Operand} {n : Int} {m : Nat} (hx : evo env x = some (.i n)) (hy : evo env y = some (.i n)) (h0 : 0 ≤ n) (hb : (bytes : Int) * n ≤ 281474976710656) (h63 : n ≤ 9223372036854775807) (hm : os.length = m) (h' : AOps P .seq l rest K (env.up d (.own m)) (os ++ [.sls e e2 (List.replicate n.toNat [])])) : AOps P .seq l (⟨some d, .makeSlice t x y, ty, pos, af, none⟩ :: rest) K env os := AOps.lo (hm ▸ l_make_rows e2 (ev_of hx) (ev_of hy) h0 hb h63) h'
theorem w_mki {t e : TypeId} {bytes : Nat} [TSlice P t e] [TElem P e (.int .i64 0) bytes] {x y : Operand} {n : Int} {m : Nat} (hx : evo env x = some (.i n)) (hy : evo env y = some (.i n)) (h0 : 0 ≤ n) (hb : (bytes : Int) * n ≤ 281474976710656) (h63 : n ≤ 9223372036854775807) (hm : os.length = m) (h' : AOps P .seq l rest K (env.up d (.own m)) (os ++ [.sli e (List.replicate n.toNat 0)])) : AOps P .seq l (⟨some d, .makeSlice t x y, ty, pos, af, none⟩ :: rest) K env os := AOps.lo (hm ▸ l_make_int (ev_of hx) (ev_of hy) h0 hb h63) h'
theorem w_copy {t e : TypeId} {bytes : Nat} [TSlice P t e] [TElem P e (.int .i64 0) bytes] {x y : Operand} {h off len : Nat} {e' : TypeId} {xs ys : List Int} {a b : AV} (hx : evo env x = some a) (hd : Dst os h off len a) (hs : os[h]? = some (.sli e' xs)) (hle : off + len ≤ xs.length) (hy : evo env y = some b) (hi : Imm os b (.ints ys)) (h' : AOps P .seq l rest K (env.up d (.i (min len ys.length : Nat))) (os.set h (.sli e' (over xs off len ys)))) : AOps P .seq l (⟨some d, .call { callee := .builtin .copy, args := #[x, y], argTypes := #[t, t] }, ty, pos, af, none⟩ :: rest) K env os := AOps.lo (l_copy (ev_of hx) hd hs hle (ev_of hy ▸ hi)) h'
theorem w_app {t e : TypeId} {bytes : Nat} [TSlice P t e] [TElem P e (.int .i64 0) bytes] {x y : Operand} {h : Nat} {e' : TypeId} {xs ys : List Int} {a : AV} (hx : evo env x = some (.own h)) (hs : os[h]? = some (.sli e' xs)) (hee : e' = e) (hy : evo env y = some a) (hi : Imm os a (.ints ys)) (hb : (xs.length + ys.length) * bytes ≤ 140737488355328) (h' : AOps P .seq l rest K (Env.up (env.mp (AV.kill h)) d (.own h)) ((os.map (AO.kill h)).set h (.sli e (xs ++ ys)))) : AOps P .seq l (⟨some d, .call { callee := .builtin .append, args := #[x, y], argTypes := #[t, t] }, ty, pos, af, none⟩ :: rest) K env os := AOps.lo (l_append (ev_of hx) hs hee (ev_of hy ▸ hi) hb) h'
theorem w_strow {t : TypeId} [TCell P t] {x y : Operand} {h i k : Nat} {e e2 e3 : TypeId} {xss : List (List Int)} {ys : List Int} (hx : evo env x = some (.optr h i)) (hs : os[h]? = some (.sls e e2 xss)) (hi : i < xss.length) (hy : evo env y = some (.own k)) (hk : os[k]? = some (.sli e3 ys)) (he : e3 = e2) (hhk : (h == k) = false) (h' : AOps P .seq l rest K (env.mp (AV.noRow h)) (((os.map (AO.via (AV.noRow h) h)).set h (.sls e e2 (xss.set i ys))).set k .dead)) : AOps P .seq l (⟨none, .store t x y, ty, pos, af, none⟩ :: rest) K env os := AOps.so (l_store_row (ev_of hx) hs hi (ev_of hy) hk he hhk) h'
theorem w_sti {t : TypeId} [TCell P t] {x y : Operand} {h i : Nat} {e : TypeId} {xs : List Int} {n : Int} (hx : evo env x = some (.optr h i)) (hs : os[h]? = some (.sli e xs)) (hi : i < xs.length) (hy : evo env y = some (.i n)) (hn : inI n) (h' : AOps P .seq l rest K env (os.set h (.sli e (xs.set i n)))) : AOps P .seq l (⟨none, .store t x y, ty, pos, af, none⟩ :: rest) K env os := AOps.so (l_store_sli (ev_of hx) hs hi (ev_of hy) hn) h'
theorem w_stst {t : TypeId} {n : Nat} {zs : List Value} [TStruct P t n zs] {x y : Operand} {h : Nat} {T : TypeId} {avs l' : List AV} (hx : evo env x = some (.optr h 0)) (hs : os[h]? = some (.bx T avs)) (hn : avs.length = n) (hy : evo env y = some (.agg l')) (hl : l'.length = n) (h' : AOps P .seq l rest K env (os.set h (.bx T l'))) : AOps P .seq l (⟨none, .store t x y, ty, pos, af, none⟩ :: rest) K env os := AOps.so (l_store_str (ev_of hx) hs hn (ev_of hy) hl) h'
theorem w_stbv {t : TypeId} [TCell P t] {x y : Operand} {h i : Nat} {T : TypeId} {avs : List AV} {a0 : AV} {v : Value} (hx : evo env x = some (.optr h i)) (hs : os[h]? = some (.bx T avs)) (hi : avs[i]? = some a0) (hy : evo env y = some (.val v)) (h1 : v.oneCell' = true) (h2 : v.cells = #[v]) (h' : AOps P .seq l rest K env (os.set h (.bx T (avs.set i (.val v))))) : AOps P .seq l (⟨none, .store t x y, ty, pos, af, none⟩ :: rest) K env os := AOps.so (l_store_bx (ev_of hx) hs (lt_of_get hi) (ev_of hy) (one_val h1 h2)) h'
theorem w_stbi {t : TypeId} [TCell P t] {x y : Operand} {h i : Nat} {T : TypeId} {avs : List AV} {a0 : AV} {xs : List Int} (hx : evo env x = some (.optr h i)) (hs : os[h]? = some (.bx T avs)) (hi : avs[i]? = some a0) (hy : evo env y = some (.ints xs)) (h' : AOps P .seq l rest K env (os.set h (.bx T (avs.set i (.ints xs))))) : AOps P .seq l (⟨none, .store t x y, ty, pos, af, none⟩ :: rest) K env os := AOps.so (l_store_bx (ev_of hx) hs (lt_of_get hi) (ev_of hy) one_ints) h'
theorem w_stbii {t : TypeId} [TCell P t] {x y : Operand} {h i : Nat} {T : TypeId} {avs : List AV} {a0 : AV} {xs : List (List Int)} (hx : evo env x = some (.optr h i)) (hs : os[h]? = some (.bx T avs)) (hi : avs[i]? = some a0) (hy : evo env y = some (.intss xs)) (h' : AOps P .seq l rest K env (os.set h (.bx T (avs.set i (.intss xs))))) : AOps P .seq l (⟨none, .store t x y, ty, pos, af, none⟩ :: rest) K env os := AOps.so (l_store_bx (ev_of hx) hs (lt_of_get hi) (ev_of hy) one_intss) h'
theorem w_stbo {t : TypeId} [TCell P t] {x y : Operand} {h i k : Nat} {T : TypeId} {avs : List AV} {a0 : AV} {o : AO} (hx : evo env x = some (.optr h i)) (hs : os[h]? = some (.bx T avs)) (hi : avs[i]? = some a0) (hy : evo env y = some (.own k)) (ho : os[k]? = some o) (hn : o.live) (h' : AOps P .seq l rest K env (os.set h (.bx T (avs.set i (.own k))))) : AOps P .seq l (⟨none, .store t x y, ty, pos, af, none⟩ :: rest) K env os := AOps.so (l_store_bx (ev_of hx) hs (lt_of_get hi) (ev_of hy) (one_own ho hn)) h'
theorem w_call {f : FuncId} {args : List AV} {v : Value} {xs : List Operand} {ats : Array TypeId} (hc : AFnV P f args v) (hw : wantedA l env ⟨some d, .call { callee := .value (.func f), args := xs.toArray, argTypes := ats }, ty, pos, af, g⟩ = some true)
    (hq : q.wl = false) (hi : Imms os (xs.map (AV.ev env)) args) (h' : AOps P q l rest K (env.up d (.val v)) os) : AOps P q l (⟨some d, .call { callee := .value (.func f), args := xs.toArray, argTypes := ats }, ty, pos, af, g⟩ :: rest) K env os := AOps.qo hw (by rw [hq]; exact q_call hc hi) h'
theorem w_callm {f : FuncId} {args : List AV} {Q : AV → List AO → Prop} {xs : List Operand} {ats : Array TypeId} (hc : AFn P f args Q) (hi : Imms os (xs.map (AV.ev env)) args)
    (h' : ∀ r os0, Q r os0 → AOps P .seq l rest K (env.up d (r.sh os.length)) (os ++ os0.map (AO.sh os.length))) :
    AOps P .seq l (⟨some d, .call { callee := .value (.func f), args := xs.toArray, argTypes := ats }, ty, pos, af, none⟩ :: rest) K env os :=
  AOps.ca (c_call hc hi) fun r e o ⟨r0, os0, hq, h1, h2, h3⟩ => by subst h1; subst h2; subst h3; exact h' r0 os0 hq
theorem w_callu {f : FuncId} {args : List AV} {objs : List AO} {Q : Value → List AO → Prop} {xs : List Operand} {ats : Array TypeId} (H : List Nat) (hc : AFnU P f args objs Q) (hh : Handed os H objs) (hi : ImmUs os H (xs.map (AV.ev env)) args)
    (h' : ∀ v os', Q v os' → AOps P .seq l rest K (env.up d (.val v)) (setAll os H os')) :
    AOps P .seq l (⟨some d, .call { callee := .value (.func f), args := xs.toArray, argTypes := ats }, ty, pos, af, none⟩ :: rest) K env os :=
  AOps.ca (c_callu hc hh hi) fun r e o ⟨v, os', hq, h1, h2, h3⟩ => by subst h1; subst h2; subst h3; exact h' v os' hq
end
end Go.Proofs.Ytbalbiliejjnoaa
/-
  Regions that draw their order and make memory: every order is walked. No condition.
-/
namespace Go.Proofs.Ytbalbiliejjnoaa
open Go Go.RowKit

theorem Oper.wp_mono2 {P : Program} {o : Oper} {a : Act} {w : World} {K K' : Act → World → Prop} {Q Q' : Exit → Act → World → Prop} (hK : ∀ a w, K a w → K' a w) (hp : ∀ c a w, Q (.panic c) a w → Q' (.panic c) a w)
    (hl : LetsOut Q → LetsOut Q') (h : Oper.wp P o a w K Q) : Oper.wp P o a w K' Q' := by
  unfold Oper.wp at *
  generalize (execOp a.eval o).run P w = r at *
  cases r with
  | ok n w' =>
    cases n <;> simp only [Oper.upon] at h ⊢
    case value u => exact hK _ _ h
    case skip => exact hK _ _ h
    case defer d => exact hK _ _ h
    case enter f args =>
      refine Calls.mono h fun e w'' he => ?_
      cases e with
      | returned u => exact hK _ _ he
      | panicked c => exact hp _ _ _ he
      | outgrown => exact hl he
    case row row args => exact Rows.mono h fun u w'' he => hK _ _ he
  | halt x w' =>
    cases x <;> simp only [Oper.upon] at h ⊢
    case panic u => exact hp _ _ _ h

/-- What may come up now. -/
def rdyGo (listed : List Bool) : Nat → List Oper → List Nat
  | _, [] => []
  | k, o :: os => cond (!(listed.getD k true) && o.after.toList.all fun e => !Region.binds .any e || listed.getD e.on false) (k :: rdyGo listed (k + 1) os) (rdyGo listed (k + 1) os)

theorem mem_rdyGo {listed : List Bool} {j : Nat} : ∀ {k : Nat} {l : List Oper}, j ∈ rdyGo listed k l ↔ k ≤ j ∧ listed.getD j true = false ∧ ∃ o, l[j - k]? = some o ∧ ∀ e ∈ o.after, Region.binds .any e = true → listed.getD e.on false = true
  | k, [] => by simp [rdyGo]
  | k, o :: os => by
    have ih := mem_rdyGo (listed := listed) (j := j) (k := k + 1) (l := os)
    have step : (k + 1 ≤ j ∧ listed.getD j true = false ∧ ∃ o', os[j - (k + 1)]? = some o' ∧ ∀ e ∈ o'.after, Region.binds .any e = true → listed.getD e.on false = true) ↔
        (k ≤ j ∧ j ≠ k ∧ listed.getD j true = false ∧ ∃ o', (o :: os)[j - k]? = some o' ∧ ∀ e ∈ o'.after, Region.binds .any e = true → listed.getD e.on false = true) := by
      constructor
      · rintro ⟨h1, h2, o', h3, h4⟩
        exact ⟨by omega, by omega, h2, o', by rw [show j - k = (j - (k + 1)) + 1 by omega]; exact h3, h4⟩
      · rintro ⟨h1, h0, h2, o', h3, h4⟩
        exact ⟨by omega, h2, o', by rw [show j - k = (j - (k + 1)) + 1 by omega] at h3; exact h3, h4⟩
    have here : (!(listed.getD k true) && o.after.toList.all fun e => !Region.binds .any e || listed.getD e.on false) = true ↔ (listed.getD k true = false ∧ ∀ e ∈ o.after, Region.binds .any e = true → listed.getD e.on false = true) := by
      rw [Bool.and_eq_true, List.all_eq_true]
      constructor
      · rintro ⟨h1, h2⟩
        refine ⟨by simpa using h1, fun e he hb => ?_⟩
        have := h2 e (by simpa using he)
        simpa [hb] using this
      · rintro ⟨h1, h2⟩
        refine ⟨by simpa using h1, fun e he => ?_⟩
        by_cases hb : Region.binds .any e = true
        · rw [h2 e (by simpa using he) hb]; simp
        · simp [hb]
    unfold rdyGo
    cases hc : (!(listed.getD k true) && o.after.toList.all fun e => !Region.binds .any e || listed.getD e.on false) with
    | true =>
      rw [cond_true, List.mem_cons, ih, step]
      have hh := here.1 hc
      constructor
      · rintro (rfl | ⟨h1, _, h2, h3⟩)
        · exact ⟨Nat.le_refl _, hh.1, o, by simp, hh.2⟩
        · exact ⟨h1, h2, h3⟩
      · rintro ⟨h1, h2, h3⟩
        by_cases e : j = k
        · exact .inl e
        · exact .inr ⟨h1, e, h2, h3⟩
    | false =>
      rw [cond_false, ih, step]
      constructor
      · rintro ⟨h1, _, h2, h3⟩; exact ⟨h1, h2, h3⟩
      · rintro ⟨h1, h2, o', h3, h4⟩
        refine ⟨h1, ?_, h2, o', h3, h4⟩
        intro e
        subst e
        simp at h3
        subst h3
        have := here.2 ⟨h2, h4⟩
        rw [hc] at this
        cases this

theorem mem_rdy {l : List Oper} {listed : List Bool} {j : Nat} : j ∈ Region.ready .any l.toArray listed.toArray ↔ j ∈ rdyGo listed 0 l := by
  rw [mem_ready, mem_rdyGo]
  simp [Array.getD_eq_getD_getElem?, List.getD_eq_getElem?_getD]

/-- Whatever order is picked from here on. -/
def AAny (P : Program) (l : List Oper) (fuel : Nat) (listed : List Bool) (K : APost) (env : Env) (os : List AO) : Prop :=
  ∀ base w0 w gs tm, Rel base w gs env os tm → Below base w0 w → ∀ X Rt, wpAny P .any l.toArray (Post base w0 K X Rt) fuel listed.toArray ⟨tm, []⟩ w

/-- Each of these comes up next. -/
def AllOf (P : Program) (l : List Oper) (fuel : Nat) (listed : List Bool) (K : APost) (env : Env) (os : List AO) : List Nat → Prop
  | [] => True
  | i :: is => (∃ o, l[i]? = some o ∧ AOps P .seq l [o] (fun env os => AAny P l fuel (listed.set i true) K env os) env os) ∧ AllOf P l fuel listed K env os is

section
variable {P : Program} {N : APost} {X : Nat → APost} {Rt : APost} {env : Env} {os : List AO} {l : List Oper} {K : APost} {fuel : Nat} {listed : List Bool}

theorem AllOf.get : ∀ {rs : List Nat}, AllOf P l fuel listed K env os rs → ∀ i ∈ rs, ∃ o, l[i]? = some o ∧ AOps P .seq l [o] (fun env os => AAny P l fuel (listed.set i true) K env os) env os
  | [], _, i, h => by cases h
  | j :: rs, h, i, hi => by
    rcases List.mem_cons.1 hi with rfl | hi
    · exact h.1
    · exact AllOf.get h.2 i hi

theorem AllOf.nil : AllOf P l fuel listed K env os [] := trivial
theorem AllOf.cons {i : Nat} {o : Oper} {is : List Nat} (ho : l[i]? = some o) (h : AOps P .seq l [o] (fun env os => AAny P l fuel (listed.set i true) K env os) env os) (hs : AllOf P l fuel listed K env os is) :
    AllOf P l fuel listed K env os (i :: is) := ⟨⟨o, ho, h⟩, hs⟩

theorem AAny.all {i : Nat} {is : List Nat} (hr : rdyGo listed 0 l = i :: is) (h : AllOf P l fuel listed K env os (i :: is)) : AAny P l (fuel + 1) listed K env os := by
  intro base w0 w gs tm hrel hb X Rt
  refine ⟨fun h0 => ?_, fun j hj => ?_⟩
  · have : i ∈ Region.ready .any l.toArray listed.toArray := mem_rdy.2 (by rw [hr]; simp)
    rw [h0] at this; cases this
  · have hj' := mem_rdy.1 hj
    rw [hr] at hj'
    obtain ⟨o, ho, hop⟩ := h.get j hj'
    have := hop base w0 w gs tm hrel hb X Rt
    unfold wpOp
    have ho' : l.toArray[j]? = some o := by simpa using ho
    rw [ho']
    have kk : ∀ a w', Post base w0 (fun env os => AAny P l fuel (listed.set j true) K env os) X Rt .normal a w' → wpAny P .any l.toArray (Post base w0 K X Rt) fuel (listed.toArray.setIfInBounds j true) a w' := by
      rintro a w' ⟨env', os', gs', h1, h2, h3, h4⟩
      have ea : a = ⟨a.tmps, []⟩ := by cases a; simp_all
      rw [ea]
      have := h4 base w0 w' gs' a.tmps h1 h3 X Rt
      rwa [show listed.toArray.setIfInBounds j true = (listed.set j true).toArray from by simp]
    unfold wpList at this
    simp only
    split
    · rename_i hw
      rw [if_pos hw] at this
      rcases this with this | ⟨h1, ⟨a, w', h2⟩⟩
      · exact .inl (Oper.wp_mono2 kk (fun _ _ _ h => (h : False).elim) (fun ⟨_, _, h⟩ => (h : False).elim) this)
      · exact (h2 : False).elim
    · rename_i hw
      rw [if_neg hw] at this
      exact kk _ _ this

theorem AAny.done (hr : rdyGo listed 0 l = []) (h : K env os) : AAny P l fuel listed K env os := by
  intro base w0 w gs tm hrel hb X Rt
  have hr' : Region.ready .any l.toArray listed.toArray = [] := by
    apply List.eq_nil_iff_forall_not_mem.2
    intro j hj
    have := mem_rdy.1 hj
    rw [hr] at this; cases this
  cases fuel with
  | zero => exact ⟨hr', env, os, gs, hrel, rfl, hb, h⟩
  | succ n => exact ⟨fun _ => ⟨env, os, gs, hrel, rfl, hb, h⟩, by rw [hr']; intro j hj; cases hj⟩

/-- What needs no world. -/
def wlessB (o : Oper) : Bool :=
  match o.op with
  | .move _ => true
  | .assign _ => true
  | .pick _ _ _ => true
  | .build _ _ => true
  | .binOp _ _ _ _ _ => true
  | .unOp _ _ _ => true
  | .convert _ _ _ => true
  | .fieldAddr _ _ _ => true
  | .field _ _ _ => true
  | .indexAddr _ _ _ => true
  | .extract _ _ => true
  | .call c => match c.callee with
    | .builtin .len => true
    | .builtin .min => true
    | .builtin .max => true
    | _ => false
  | _ => false
def findW (l : List Oper) : List Nat → Option Nat
  | [] => none
  | i :: is => cond (match l[i]? with | some o => wlessB o | none => false) (some i) (findW l is)

theorem findW_mem {l : List Oper} : ∀ {is : List Nat} {i : Nat}, findW l is = some i → i ∈ is
  | [], _, h => by cases h
  | j :: is, i, h => by
    simp only [findW] at h
    cases hb : (match l[j]? with | some o => wlessB o | none => false) with
    | true => rw [hb] at h; simp at h; simp [h]
    | false => rw [hb] at h; exact List.mem_cons_of_mem _ (findW_mem h)

/-- An operation that needs no world is taken first. -/
theorem AAny.take {i : Nat} {o : Oper} (hi : findW l (rdyGo listed 0 l) = some i) (ho : l[i]? = some o) (hs : Region.noSelect l.toArray = true) (hf : Region.free .any l.toArray listed.toArray i = true)
    (h : AOps P .wless l [o] (fun env os => AAny P l fuel (listed.set i true) K env os) env os) : AAny P l (fuel + 1) listed K env os := by
  intro base w0 w gs tm hrel hb X Rt
  obtain ⟨v, hy, env', os', gs', hk, hd, hr'⟩ := h base w gs tm hrel
  refine wpAny_take (oi := o) (v := v) (by simpa using ho) hs hf ?_ (fun _ _ _ h => h.elim) hy ?_
  · have : i ∈ Region.ready .any l.toArray listed.toArray := mem_rdy.2 (findW_mem hi)
    simpa using this
  · have := hk base w0 w gs' _ hr' hb X Rt
    rw [show listed.toArray.setIfInBounds i true = (listed.set i true).toArray from by simp]
    have e : (⟨(Act.put ⟨tm, []⟩ o.dst v).tmps, []⟩ : Act) = Act.put ⟨tm, []⟩ o.dst v := by
      have : (Act.put ⟨tm, []⟩ o.dst v).defers = [] := hd
      generalize Act.put ⟨tm, []⟩ o.dst v = a at this
      cases a; simp_all
    rw [e] at this
    exact this

/-- A region that draws its order: every order comes to a state that may be seen as (envC, osC). -/
theorem AWp.regionA {id : Nat} (hm : P.follows .mixedOrders = true) {envC : Env} {osC : List AO} {n : Nat} (hn : l.length = n) {listed : List Bool} (hl : List.replicate n false = listed)
    (h : AAny P l n listed (fun e o => Fit e o envC osC ∨ ∃ σ, FitS σ e o envC osC) env os) (hk : N envC osC) : AWp P (.region id l.toArray true) N X Rt env os := by
  intro base w0 w gs tm hr hb
  have hbel : Below w.heap.size w { w with drawn := w.drawn + 1 } := (Below.refl _ _).drew
  refine wp_region_any hm ?_
  have := h base w0 _ gs tm (hr.below hbel) (hb.trans (hbel.mono hr.hb)) X Rt
  rw [← hl] at this
  have e1 : (List.replicate n false).toArray = Array.replicate l.toArray.size false := by simp [hn]
  rw [e1] at this
  have e2 : l.toArray.size = n := by simpa using hn
  rw [e2] at this ⊢
  refine wpAny_monoQ ?_ this
  intro e a w' hq
  cases e with
  | normal =>
    obtain ⟨env', os', gs', r1, r2, r3, hf⟩ := hq
    rcases hf with hf | ⟨σ, hf⟩
    · obtain ⟨gs2, r4⟩ := r1.fit hf
      exact ⟨envC, osC, gs2, r4, r2, r3, hk⟩
    · obtain ⟨gs2, r4⟩ := r1.fits hf
      exact ⟨envC, osC, gs2, r4, r2, r3, hk⟩
  | exit j => exact hq
  | ret => exact hq
  | goto l => exact hq
  | panic ch => exact hq
  | outgrown => exact hq
where
  wpAny_monoQ {P : Program} {ops : Array Oper} {Q Q' : Exit → Act → World → Prop} (hq : ∀ e a w, Q e a w → Q' e a w) : ∀ {fuel : Nat} {listed : Array Bool} {a : Act} {w : World}, wpAny P .any ops Q fuel listed a w → wpAny P .any ops Q' fuel listed a w
    | 0, _, _, _, h => ⟨h.1, hq _ _ _ h.2⟩
    | fuel + 1, _, _, _, h => by
      refine ⟨fun h0 => hq _ _ _ (h.1 h0), fun i hi => ?_⟩
      have := h.2 i hi
      unfold wpOp at this ⊢
      split
      · rename_i ho; rw [ho] at this; exact wpAny_monoQ hq this
      · rename_i o ho
        rw [ho] at this
        simp only at this
        split
        · rename_i hw
          rw [if_pos hw] at this
          rcases this with h1 | ⟨h1, a, w, h2⟩
          · exact .inl (Oper.wp_mono2 (fun _ _ h' => wpAny_monoQ hq h') (fun _ _ _ => hq _ _ _) (fun ⟨a, w, h⟩ => ⟨a, w, hq _ _ _ h⟩) h1)
          · exact .inr ⟨h1, a, w, hq _ _ _ h2⟩
        · rename_i hw
          rw [if_neg hw] at this
          exact wpAny_monoQ hq this

end
end Go.Proofs.Ytbalbiliejjnoaa
/-
  More rules: parts of own slices as sources, a slice compared with nil, functions that hand back a part of what they are handed. No condition.
-/
namespace Go.Proofs.Ytbalbiliejjnoaa
open Go Go.RowKit
section
variable {P : Program} {env : Env} {os : List AO} {d : Option Tmp} {ty : TypeId} {pos : String} {af : Array Edge} {g : Option (Nat × Bool)} {wl : Bool}

end

section
variable {P : Program} {env : Env} {os : List AO} {d : Tmp} {ty : TypeId} {pos : String} {af : Array Edge} {g : Option (Nat × Bool)} {l rest : List Oper} {K : APost} {q : Md}
end

/-! ### Functions that hand back a part of what they are handed -/
/-- The function leaves the object 'os' behind the handle 0 as it is, and hands back a part of it: what lies off on, len long. -/
def AFnR (P : Program) (f : FuncId) (args : List AV) (T : TypeId) (xs : List Int) (off len : Nat) : Prop :=
  HasBody P f ∧ ∀ base w gs vs, base ≤ w.heap.size → Objs base w gs [.sli T xs] → vs.size = args.length → (∀ i : Nat, RV w (okOf gs [.sli T xs]) gs (vs.getD i undef) (args.getD i .any)) →
    Calls P f vs w fun e w' => ∃ v, e = .returned v ∧ RV w' (fun _ => True) gs v (.osub 0 off len) ∧ Objs base w' gs [.sli T xs] ∧ Below base w w' ∧ ∀ b, b < w.heap.size → (∀ (h : Nat) g, gs[h]? = some g → b ∉ g.bl) → w'.heap[b]? = w.heap[b]?
theorem AFnR.of {P : Program} {f : FuncId} {fn : Func} {c : Code} {args : List AV} {T : TypeId} {xs : List Int} {off len : Nat} {n : Nat} (hf : P.funcs[f]? = some fn) (hb : fn.body = some c) (hnm : (fn.name == "runtime.NumGoroutine") = false) (hn : fn.ntmps - args.length = n)
    (h : ∀ K, AWp P c (fun _ _ => False) (fun _ _ _ => False) (fun env os1 => ResIs P fn env os1 (.osub 0 off len) ∧ os1.take 1 = [.sli T xs] ∧ os1[1]? = some (.keep 2 K)) (Env.start args n) [.sli T xs, .keep 2 K]) :
    AFnR P f args T xs off len := by
  obtain ⟨os, hos⟩ : ∃ os : List AO, os = [.sli T xs] := ⟨_, rfl⟩
  have h' : ∀ K, AWp P c (fun _ _ => False) (fun _ _ _ => False) (fun env os1 => ResIs P fn env os1 (.osub 0 off len) ∧ os1.take os.length = os ∧ os1[os.length]? = some (.keep (os.length + 1) K) ∧ ∀ o ∈ os, o.plain) (Env.start args n) (os ++ [.keep (os.length + 1) K]) := by
    subst hos
    exact fun K => (h K).mono (fun _ _ e => e) (fun _ _ _ e => e) fun _ _ ⟨e1, e2, e3⟩ => ⟨e1, e2, e3, by intro o ho; simp at ho; subst ho; trivial⟩
  unfold AFnR
  rw [← hos]
  refine ⟨⟨fn, c, hf, hnm, hb⟩, fun base w gs vs hbase hO hsz hvs => calls_of_wp hf hb ?_⟩
  rw [show fn.ntmps - vs.size = n by rw [hsz]; exact hn]
  let bl : List Nat := (List.range w.heap.size).filter fun b => decide (base ≤ b) && gs.all fun g => !g.bl.contains b
  let gk : Gh := ⟨undef, 0, bl, []⟩
  let K : Kp := ⟨fun b => w.heap[b]?, gs ++ [gk]⟩
  have hbl : ∀ b, b ∈ bl ↔ b < w.heap.size ∧ base ≤ b ∧ ∀ (h : Nat) g, gs[h]? = some g → b ∉ g.bl := by
    intro b
    simp only [bl, List.mem_filter, List.mem_range, Bool.and_eq_true, decide_eq_true_eq, List.all_eq_true, Bool.not_eq_true', List.contains_eq_mem, decide_eq_false_iff_not]
    constructor
    · rintro ⟨h1, h2, h3⟩
      exact ⟨h1, h2, fun h g hg => h3 g (List.mem_of_getElem? hg)⟩
    · rintro ⟨h1, h2, h3⟩
      exact ⟨h1, h2, fun g hg => by obtain ⟨i, hi⟩ := List.getElem?_of_mem hg; exact h3 i g hi⟩
  have hl := hO.hl
  have part : ∀ {i : Nat} {x : Gh} {y : AO}, (gs ++ [gk])[i]? = some x → (os ++ [.keep (os.length + 1) K])[i]? = some y → (gs[i]? = some x ∧ os[i]? = some y) ∨ (i = os.length ∧ x = gk ∧ y = .keep (os.length + 1) K) := by
    intro i x y hx hy
    rcases append_one hx with ⟨h1, h2⟩ | ⟨h1, rfl⟩
    · rcases append_one hy with ⟨h3, h4⟩ | ⟨h3, rfl⟩
      · exact .inl ⟨h2, h4⟩
      · omega
    · rcases append_one hy with ⟨h3, h4⟩ | ⟨h3, rfl⟩
      · omega
      · exact .inr ⟨h3, rfl, rfl⟩
  have gl : ∀ (i : Nat) x, gs[i]? = some x → (gs ++ [gk])[i]? = some x := fun i x e => by
    rw [List.getElem?_append_left (List.getElem?_eq_some_iff.1 e).1]; exact e
  have kp : Keeps (okOf gs os) (okOf (gs ++ [gk]) (os ++ [.keep (os.length + 1) K])) w w := by
    intro b hbk _
    refine ⟨fun i x y hx hy hny hm => ?_, rfl⟩
    rcases part hx hy with ⟨h1, h2⟩ | ⟨_, _, rfl⟩
    · exact hbk i x y h1 h2 hny hm
    · exact hny.elim
  have hrel : Rel base w (gs ++ [gk]) (Env.start args n) (os ++ [.keep (os.length + 1) K]) (vs ++ Array.replicate n undef) := by
    refine ⟨hbase, by simp [hl], by simp [Env.start, hsz], fun i => ?_, ?_, ?_, ?_⟩
    · exact start_rv args n vs (fun i => (hvs i).mono kp gl) i
    · intro i x y hx hy
      rcases part hx hy with ⟨h1, h2⟩ | ⟨_, rfl, rfl⟩
      · exact (hO.hp y (List.mem_of_getElem? h2)).ro (hO.ho i x y h1 h2)
      · exact ⟨fun b _ => rfl, by simp [K, hl], fun i x h => h⟩
    · intro i j g1 g2 o1 o2 hij hg1 hg2 ho1 ho2 _ _ b hb1 hb2
      rcases part hg1 ho1 with ⟨a1, a2⟩ | ⟨a1, rfl, _⟩
      · rcases part hg2 ho2 with ⟨b1, b2⟩ | ⟨_, rfl, _⟩
        · exact hO.hd i j g1 g2 hij a1 b1 b hb1 hb2
        · exact ((hbl b).1 hb2).2.2 i g1 a1 hb1
      · rcases part hg2 ho2 with ⟨b1, b2⟩ | ⟨b1, _, _⟩
        · exact ((hbl b).1 hb1).2.2 j g2 b1 hb2
        · omega
    · intro i x y hx hy _ b hb
      rcases part hx hy with ⟨h1, h2⟩ | ⟨_, rfl, _⟩
      · exact hO.hn i x h1 b hb
      · exact ⟨((hbl b).1 hb).2.1, ((hbl b).1 hb).1⟩
  refine wp_mono (h' K base w w _ _ hrel (Below.refl _ _)) ?_
  intro e a w' hq
  cases e with
  | normal => obtain ⟨_, _, _, _, _, _, hx⟩ := hq; exact hx.elim
  | exit j => obtain ⟨_, _, _, _, _, _, hx⟩ := hq; exact hx.elim
  | ret =>
    obtain ⟨env, os1, gs1, hr, hd, hbel, h1, h3, h4, h5⟩ := hq
    obtain ⟨v, hu, hv⟩ := h1 _ _ _ _ hr
    have hlt : os.length < os1.length := (List.getElem?_eq_some_iff.1 h4).1
    have hltg : os.length < gs1.length := by have := hr.hl; omega
    obtain ⟨g1, hg1⟩ : ∃ g1, gs1[os.length]? = some g1 := ⟨_, List.getElem?_eq_getElem hltg⟩
    obtain ⟨r1, r2, r3⟩ := hr.ho _ _ _ hg1 h4
    have pin : ∀ (i : Nat) x, gs[i]? = some x → gs1[i]? = some x := fun i x e => r3 i x (gl i x e)
    have egk : g1 = gk := by
      have := r3 os.length gk (by show (gs ++ [gk])[os.length]? = some gk; rw [← hl]; simp)
      rw [hg1] at this
      exact Option.some.inj this
    rw [egk] at r1
    have get' : ∀ {i : Nat} {y : AO}, os[i]? = some y → os1[i]? = some y ∧ i < os.length := by
      intro i y hy
      rw [← h3, List.getElem?_take] at hy
      split at hy
      · exact ⟨hy, ‹_›⟩
      · cases hy
    refine ⟨hd, v, hu, v, rfl, ?_, ⟨hO.hl, h5, ?_, hO.hd, ?_⟩, hbel, ?_⟩
    · cases hv with
      | @osub _ _ _ cap p g0 hg hp hc hm =>
        have hlt0 : 0 < gs.length := by rw [hl, hos]; simp
        have e0 := pin 0 _ (List.getElem?_eq_getElem hlt0)
        rw [hg] at e0
        cases e0
        exact .osub (List.getElem?_eq_getElem hlt0) hp hc hm
    · intro i x y hx hy
      obtain ⟨h6, h7⟩ := get' hy
      exact (h5 y (List.mem_of_getElem? hy)).ro (hr.ho i x y (pin i x hx) h6)
    · intro i x hx b hb
      have := hO.hn i x hx b hb
      exact ⟨this.1, Nat.lt_of_lt_of_le this.2 hbel.size⟩
    · intro b hb hnot
      rcases Nat.lt_or_ge b base with h6 | h6
      · exact hbel.block b h6
      · exact r1 b ((hbl b).2 ⟨hb, h6, hnot⟩)
  | goto l => exact (hq : False).elim
  | panic ch => exact (hq : False).elim
  | outgrown => exact (hq : False).elim


theorem AFnR.start {P : Program} {f : FuncId} {fn : Func} {nt : Nat} {args : List AV} {T : TypeId} {xs : List Int} {off len : Nat} (hf : P.funcs[f]? = some fn) (hnt : fn.ntmps = nt) {c : Code} (hb : fn.body = some c) (hnm : (fn.name == "runtime.NumGoroutine") = false)
    (h : ∀ K, AWp P c (fun _ _ => False) (fun _ _ _ => False) (fun env os1 => ResIs P fn env os1 (.osub 0 off len) ∧ os1.take 1 = [.sli T xs] ∧ os1[1]? = some (.keep 2 K)) (Env.start args (nt - args.length)) [.sli T xs, .keep 2 K]) :
    AFnR P f args T xs off len := AFnR.of hf hb hnm (by rw [hnt]) h

section
variable {P : Program} {env : Env} {os : List AO} {d : Tmp} {ty : TypeId} {pos : String} {af : Array Edge} {l rest : List Oper} {K : APost}
end
end Go.Proofs.Ytbalbiliejjnoaa
/-
  Rows that go into own slices by append; literal slices of rows. No condition.
-/
namespace Go.Proofs.Ytbalbiliejjnoaa
open Go Go.RowKit

section
variable {w w' : World} {ok ok' : Nat → Prop} {gs gs' : List Gh} {p k j : Nat} {gk g' : Gh}

structure RowIn (p k j : Nat) (gs gs' : List Gh) : Prop where
  other : ∀ (i : Nat) g, i ≠ p → gs[i]? = some g → gs'[i]? = some g
  rows : ∀ g, gs[p]? = some g → ∃ g', gs'[p]? = some g' ∧ ∀ (i : Nat) v, g.rows[i]? = some v → g'.rows[i]? = some v
  row : ∀ gk, gs[k]? = some gk → ∃ g', gs'[p]? = some g' ∧ g'.rows[j]? = some gk.v

end

section
variable {P : Program} {env : Env} {os : List AO} {d : Option Tmp} {ty : TypeId} {pos : String} {af : Array Edge} {g : Option (Nat × Bool)}

end

section
variable {P : Program} {env : Env} {os : List AO} {d : Tmp} {ty : TypeId} {pos : String} {af : Array Edge} {l rest : List Oper} {K : APost}
end
end Go.Proofs.Ytbalbiliejjnoaa
/-
  Own slices whose cells are rows of another own slice: literal ones, appends, cuts; the two made one. No condition.
-/
namespace Go.Proofs.Ytbalbiliejjnoaa
open Go Go.RowKit

section
variable {P : Program} {env : Env} {os : List AO} {d : Option Tmp} {ty : TypeId} {pos : String} {af : Array Edge} {g : Option (Nat × Bool)}

end

theorem nodup_sel {bs : List (List Nat)} {idx : List Nat} (h : bs.flatten.Nodup) (hi : idx.Nodup) (hlt : ∀ i ∈ idx, i < bs.length) : ((idx.map fun i => bs.getD i []).flatten).Nodup := by
  unfold List.Nodup at h ⊢
  rw [List.pairwise_flatten] at h ⊢
  obtain ⟨h1, h2⟩ := h
  refine ⟨?_, ?_⟩
  · intro l hl
    obtain ⟨i, hi', rfl⟩ := List.mem_map.1 hl
    have := hlt i hi'
    rw [List.getD_eq_getElem?_getD, List.getElem?_eq_getElem this]
    exact h1 _ (List.getElem_mem this)
  · rw [List.pairwise_map]
    refine List.Pairwise.imp_of_mem ?_ hi
    intro a b ha hb hab
    have la := hlt a ha
    have lb := hlt b hb
    rw [List.getD_eq_getElem?_getD, List.getElem?_eq_getElem la, List.getD_eq_getElem?_getD, List.getElem?_eq_getElem lb]
    rw [List.pairwise_iff_getElem] at h2
    rcases Nat.lt_or_gt_of_ne hab with hl | hl
    · exact h2 a b la lb hl
    · exact fun x hx y hy e => h2 b a lb la hl y hy x hx e.symm

set_option maxHeartbeats 1000000 in
/-- The slice 'p' of rows of 'k' takes these rows; the rest of 'k' is no more. -/
theorem Rel.merge {base : Nat} {w : World} {gs : List Gh} {env : Env} {os : List AO} {tm : Array Value} (h : Rel base w gs env os tm) {p k : Nat} {e e2 e3 : TypeId} {xss : List (List Int)} {idx : List Nat} (hs : os[p]? = some (.slr e (idx.map (AV.orow k)))) (hk : os[k]? = some (.sls e3 e2 xss)) (hnd : idx.Nodup) :
    ∃ gs', Rel base w gs' (env.mp (AV.noRow p)) (((os.map (AO.via (AV.noRow p) p)).set p (.sls e e2 (idx.map fun i => xss.getD i []))).set k .dead) tm := by
  have hne : p ≠ k := fun e => by subst e; rw [hs] at hk; cases hk
  have hpo : p < os.length := (List.getElem?_eq_some_iff.1 hs).1
  have hko : k < os.length := (List.getElem?_eq_some_iff.1 hk).1
  obtain ⟨gp, hgp⟩ : ∃ x, gs[p]? = some x := ⟨_, List.getElem?_eq_getElem (by rw [h.hl]; exact hpo)⟩
  obtain ⟨gk, hgk⟩ : ∃ x, gs[k]? = some x := ⟨_, List.getElem?_eq_getElem (by rw [h.hl]; exact hko)⟩
  obtain ⟨vs, a1, a2, a3, a4⟩ := h.ho _ _ _ hgp hs
  obtain ⟨us, bs, mb, b1, b2, b3, b4, b5, b6, b7, b8⟩ := h.ho _ _ _ hgk hk
  have a2' : vs.length = idx.length := by simpa using a2
  have row : ∀ (j : Nat) u, vs[j]? = some u → ∃ i, idx[j]? = some i ∧ us[i]? = some u := by
    intro j u hj
    have hjl := (List.getElem?_eq_some_iff.1 hj).1
    have hrv := a3 j
    obtain ⟨i, hi⟩ : ∃ i, idx[j]? = some i := ⟨_, List.getElem?_eq_getElem (by omega)⟩
    rw [List.getD_eq_getElem?_getD, hj, List.getD_eq_getElem?_getD, List.getElem?_map, hi] at hrv
    simp only [Option.getD_some, Option.map_some] at hrv
    cases hrv with
    | @orow _ _ g0 _ q1 q2 =>
      rw [hgk] at q1
      cases q1
      rw [b4] at q2
      exact ⟨i, hi, q2⟩
  have hidx : ∀ i ∈ idx, i < bs.length := by
    intro i hi
    obtain ⟨j, hj⟩ := List.getElem?_of_mem hi
    have hjl := (List.getElem?_eq_some_iff.1 hj).1
    obtain ⟨i', q1, q2⟩ := row j _ (List.getElem?_eq_getElem (by omega))
    rw [hj] at q1
    cases q1
    have := (List.getElem?_eq_some_iff.1 q2).1
    omega
  let cs : List (List Nat) := idx.map fun i => bs.getD i []
  let g' : Gh := ⟨gp.v, gp.b, gp.bl ++ cs.flatten, vs⟩
  have hcs : ∀ b, b ∈ cs.flatten → b ∈ bs.flatten := by
    intro b hb
    obtain ⟨l, hl, hbl⟩ := List.mem_flatten.1 hb
    obtain ⟨i, hi, rfl⟩ := List.mem_map.1 hl
    have hil := hidx i hi
    rw [List.getD_eq_getElem?_getD, List.getElem?_eq_getElem hil] at hbl
    exact List.mem_flatten.2 ⟨_, List.getElem_mem hil, hbl⟩
  have hsk : ∀ b, b ∈ cs.flatten → b ∈ gk.bl := fun b hb => by rw [b7]; exact List.mem_append.2 (.inr (hcs b hb))
  have hgl : p < gs.length := by rw [h.hl]; exact hpo
  have sv : SameV p gs (gs.set p g') := by
    refine ⟨fun j z hj hz => ?_, fun z hz => ⟨g', by simp [hgl], ?_, ?_⟩⟩
    · rw [List.getElem?_set, if_neg (fun e => hj e.symm)]; exact hz
    · rw [hgp] at hz; cases hz; rfl
    · rw [hgp] at hz; cases hz; rfl
  refine ⟨gs.set p g', h.absorb hgp hs trivial hgk hk trivial hne g' _ (AV.noRow p) rfl (fun _ _ _ => rfl) (Nat.le_refl _) ?_ (fun kp hv => hv.noRow kp sv) ?_⟩
  · intro b hb
    rcases List.mem_append.1 hb with hb | hb
    · exact ⟨.inl hb, (h.hn _ _ _ hgp hs (by simp) b hb).2⟩
    · exact ⟨.inr (.inl (hsk b hb)), (h.hn _ _ _ hgk hk (by simp) b (hsk b hb)).2⟩
  · intro kp
    refine ⟨vs, cs, gp.bl, a1, by simp [a2'], by simp [cs], rfl, fun j u hj => ?_, a4, rfl, ?_⟩
    · obtain ⟨i, q1, q2⟩ := row j u hj
      have g1 : (idx.map fun i => xss.getD i []).getD j [] = xss.getD i [] := by
        rw [List.getD_eq_getElem?_getD, List.getElem?_map, q1]; rfl
      have g2 : cs.getD j [] = bs.getD i [] := by
        show (idx.map fun i => bs.getD i []).getD j [] = _
        rw [List.getD_eq_getElem?_getD, List.getElem?_map, q1]; rfl
      rw [g1, g2]
      exact b5 i u q2
    · show (gp.bl ++ cs.flatten).Nodup
      rw [List.nodup_append]
      refine ⟨a4.nodup, nodup_sel ?_ hnd hidx, ?_⟩
      · rw [b7] at b8
        exact (List.nodup_append.1 b8).2.1
      · intro a ha b hb e
        subst e
        exact h.hd p k gp gk _ _ hne hgp hgk hs hk (by simp) (by simp) a ha (hsk a hb)

theorem AWp.merge {P : Program} {c : Code} {N : APost} {X : Nat → APost} {Rt : APost} {env : Env} {os : List AO} {p k : Nat} {e e2 e3 : TypeId} {xss : List (List Int)} {idx : List Nat} (hs : os[p]? = some (.slr e (idx.map (AV.orow k)))) (hk : os[k]? = some (.sls e3 e2 xss)) (hnd : idx.Nodup)
    (h : AWp P c N X Rt (env.mp (AV.noRow p)) (((os.map (AO.via (AV.noRow p) p)).set p (.sls e e2 (idx.map fun i => xss.getD i []))).set k .dead)) : AWp P c N X Rt env os := by
  intro base w0 w gs tm hr hb
  obtain ⟨gs', hr'⟩ := hr.merge hs hk hnd
  exact h base w0 w gs' tm hr' hb

section
variable {P : Program} {env : Env} {os : List AO} {d : Tmp} {ty : TypeId} {pos : String} {af : Array Edge} {l rest : List Oper} {K : APost}
end
end Go.Proofs.Ytbalbiliejjnoaa
/-
  Own slices put together out of rows of another one and of one more row; functions that are handed an own slice of rows and hand one back in its place. No condition.
-/
namespace Go.Proofs.Ytbalbiliejjnoaa
open Go Go.RowKit

/-- A state may be seen as another one. -/
def Turns (env : Env) (os : List AO) (env' : Env) (os' : List AO) : Prop := ∀ base w gs tm, Rel base w gs env os tm → ∃ gs', Rel base w gs' env' os' tm
theorem Turns.refl {env : Env} {os : List AO} : Turns env os env os := fun _ _ gs _ h => ⟨gs, h⟩
theorem Turns.merge {env : Env} {os : List AO} {p k : Nat} {e e2 e3 : TypeId} {xss : List (List Int)} {idx : List Nat} (hs : os[p]? = some (.slr e (idx.map (AV.orow k)))) (hk : os[k]? = some (.sls e3 e2 xss)) (hnd : idx.Nodup) :
    Turns env os (env.mp (AV.noRow p)) (((os.map (AO.via (AV.noRow p) p)).set p (.sls e e2 (idx.map fun i => xss.getD i []))).set k .dead) := fun _ _ _ _ h => h.merge hs hk hnd
end Go.Proofs.Ytbalbiliejjnoaa
/-
  Own slices of rows put together: parts of own slices of rows, appends of them; a cell of a row is written; functions that are handed an own slice of rows and hand one back in its place. No condition.
-/
namespace Go.Proofs.Ytbalbiliejjnoaa
open Go Go.RowKit

section
variable {P : Program} {env : Env} {os : List AO} {d : Option Tmp} {ty : TypeId} {pos : String} {af : Array Edge} {g : Option (Nat × Bool)} {wl : Bool}

/-! ### Sources of appends -/
end

/-! ### Functions that hand back an own slice of rows in the place of the one that they were handed -/
/-- The function is handed the own slice of rows 'xss' (handle 0) and hands back one made of its memory and new memory. All else is as it was. -/
def AFnT (P : Program) (f : FuncId) (args : List AV) (T T2 : TypeId) (xss : List (List Int)) (Q : List (List Int) → Prop) : Prop :=
  HasBody P f ∧ ∀ base w g vs, base ≤ w.heap.size → Objs base w [g] [.sls T T2 xss] → vs.size = args.length → (∀ i : Nat, RV w (okOf [g] [.sls T T2 xss]) [g] (vs.getD i undef) (args.getD i .any)) →
    Calls P f vs w fun e w' => ∃ g' xss', e = .returned g'.v ∧ Q xss' ∧ RO base w' (fun _ => True) [g'] g' (.sls T T2 xss') ∧ (∀ b, b ∈ g'.bl → (b ∈ g.bl ∨ w.heap.size ≤ b) ∧ b < w'.heap.size) ∧ Below base w w' ∧ ∀ b, b < w.heap.size → b ∉ g.bl → w'.heap[b]? = w.heap[b]?

theorem AFnT.of {P : Program} {f : FuncId} {fn : Func} {c : Code} {args args' : List AV} {T T2 : TypeId} {xss : List (List Int)} {Q : List (List Int) → Prop} {n : Nat} (hf : P.funcs[f]? = some fn) (hb : fn.body = some c) (hnm : (fn.name == "runtime.NumGoroutine") = false) (hn : fn.ntmps - args.length = n) (ha : args' = args.map (AV.sh 1))
    (h : ∀ K, AWp P c (fun _ _ => False) (fun _ _ _ => False) (fun env os => ∃ env2 os2 k xss', Turns env os env2 os2 ∧ ResIs P fn env2 os2 (.own k) ∧ os2[k]? = some (.sls T T2 xss') ∧ Q xss' ∧ os2[0]? = some (.keep 1 K)) (Env.start args' n) [.keep 1 K, .sls T T2 xss]) :
    AFnT P f args T T2 xss Q := by
  refine ⟨⟨fn, c, hf, hnm, hb⟩, fun base w g vs hbase hO hsz hvs => calls_of_wp hf hb ?_⟩
  rw [show fn.ntmps - vs.size = n by rw [hsz]; exact hn]
  let bl : List Nat := (List.range w.heap.size).filter fun b => decide (base ≤ b) && !g.bl.contains b
  let gk : Gh := ⟨undef, 0, bl, []⟩
  let K : Kp := ⟨fun b => w.heap[b]?, [gk]⟩
  have hbl : ∀ b, b ∈ bl ↔ b < w.heap.size ∧ base ≤ b ∧ b ∉ g.bl := by
    intro b
    simp only [bl, List.mem_filter, List.mem_range, Bool.and_eq_true, decide_eq_true_eq, Bool.not_eq_true', List.contains_eq_mem, decide_eq_false_iff_not]
  have gg : ∀ {i : Nat} {x : Gh}, [gk, g][i]? = some x → (i = 0 ∧ x = gk) ∨ (i = 1 ∧ x = g) := by
    intro i x hx
    match i with
    | 0 => simp at hx; exact .inl ⟨rfl, hx.symm⟩
    | 1 => simp at hx; exact .inr ⟨rfl, hx.symm⟩
    | i + 2 => simp at hx
  have go : ∀ {i : Nat} {x : AO}, [AO.keep 1 K, AO.sls T T2 xss][i]? = some x → (i = 0 ∧ x = .keep 1 K) ∨ (i = 1 ∧ x = .sls T T2 xss) := by
    intro i x hx
    match i with
    | 0 => simp at hx; exact .inl ⟨rfl, hx.symm⟩
    | 1 => simp at hx; exact .inr ⟨rfl, hx.symm⟩
    | i + 2 => simp at hx
  have hkeep : Keeps (okOf [g] [.sls T T2 xss]) (okOf [gk, g] [.keep 1 K, .sls T T2 xss]) w w := by
    intro b hbk _
    refine ⟨fun i x y hx hy hny hm => ?_, rfl⟩
    rcases gg hx with ⟨rfl, rfl⟩ | ⟨rfl, rfl⟩
    · rcases go hy with ⟨_, rfl⟩ | ⟨h0, _⟩
      · exact hny.elim
      · omega
    · rcases go hy with ⟨h0, _⟩ | ⟨_, rfl⟩
      · omega
      · exact hbk 0 _ _ rfl rfl hny hm
  have hro0 := hO.ho 0 g _ rfl rfl
  have hn0 := hO.hn 0 g rfl
  have hrel : Rel base w [gk, g] (Env.start args' n) [.keep 1 K, .sls T T2 xss] (vs ++ Array.replicate n undef) := by
    refine ⟨hbase, rfl, by simp [Env.start, hsz, ha], fun i => start_rv args' n vs (fun i => ?_) i, ?_, ?_, ?_⟩
    · rw [ha, getD_map_any _ rfl]
      have := (hvs i).sh (gs0 := [gk]) hkeep
      exact this
    · intro i x y hx hy
      rcases gg hx with ⟨rfl, rfl⟩ | ⟨rfl, rfl⟩
      · rcases go hy with ⟨_, rfl⟩ | ⟨h0, _⟩
        · exact ⟨fun b _ => rfl, rfl, fun i x h => by
            match i with
            | 0 => exact h
            | i + 1 => simp [K] at h⟩
        · omega
      · rcases go hy with ⟨h0, _⟩ | ⟨_, rfl⟩
        · omega
        · exact AO.plain.ro trivial hro0
    · intro i j g1 g2 o1 o2 hij hg1 hg2 ho1 ho2 _ _ b hb1 hb2
      rcases gg hg1 with ⟨rfl, rfl⟩ | ⟨rfl, rfl⟩
      · rcases gg hg2 with ⟨rfl, rfl⟩ | ⟨rfl, rfl⟩
        · exact hij rfl
        · exact ((hbl b).1 hb1).2.2 hb2
      · rcases gg hg2 with ⟨rfl, rfl⟩ | ⟨rfl, rfl⟩
        · exact ((hbl b).1 hb2).2.2 hb1
        · exact hij rfl
    · intro i x y hx hy _ b hb
      rcases gg hx with ⟨rfl, rfl⟩ | ⟨rfl, rfl⟩
      · exact ⟨((hbl b).1 hb).2.1, ((hbl b).1 hb).1⟩
      · exact hn0 b hb
  refine wp_mono (h K base w w _ _ hrel (Below.refl _ _)) ?_
  intro e a w' hq
  cases e with
  | normal => obtain ⟨_, _, _, _, _, _, hx⟩ := hq; exact hx.elim
  | exit j => obtain ⟨_, _, _, _, _, _, hx⟩ := hq; exact hx.elim
  | ret =>
    obtain ⟨env, os1, gs1, hr1, hd, hbel, env2, os2, k, xss', ht, hres, hok, hQ, hkp⟩ := hq
    obtain ⟨gs2, hr⟩ := ht base w' gs1 _ hr1
    obtain ⟨v, hu, hv⟩ := hres _ _ _ _ hr
    cases hv with
    | @own _ g' hg' =>
      have hlt0 : 0 < gs2.length := by rw [hr.hl]; exact (List.getElem?_eq_some_iff.1 hkp).1
      obtain ⟨g0, hg0⟩ : ∃ g0, gs2[0]? = some g0 := ⟨_, List.getElem?_eq_getElem hlt0⟩
      obtain ⟨r1, r2, r3⟩ := hr.ho _ _ _ hg0 hkp
      have egk : g0 = gk := by
        have := r3 0 gk rfl
        rw [hg0] at this
        exact Option.some.inj this
      subst egk
      have hk0 : k ≠ 0 := fun e => by subst e; rw [hkp] at hok; cases hok
      refine ⟨hd, g'.v, hu, g', xss', rfl, hQ, AO.plain.ro trivial (hr.ho _ _ _ hg' hok), fun b hb => ?_, hbel, fun b hb hnot => ?_⟩
      · have hbn := hr.hn _ _ _ hg' hok (by simp) b hb
        refine ⟨?_, hbn.2⟩
        by_cases hbw : b < w.heap.size
        · left
          apply Classical.byContradiction
          intro hnb
          exact hr.hd k 0 g' _ _ _ hk0 hg' hg0 hok hkp (by simp) (by simp) b hb ((hbl b).2 ⟨hbw, hbn.1, hnb⟩)
        · right; omega
      · rcases Nat.lt_or_ge b base with h6 | h6
        · exact hbel.block b h6
        · exact r1 b ((hbl b).2 ⟨hb, h6, hnot⟩)
  | goto l => exact (hq : False).elim
  | panic ch => exact (hq : False).elim
  | outgrown => exact (hq : False).elim
theorem AFnT.start {P : Program} {f : FuncId} {fn : Func} {nt : Nat} {args : List AV} {T T2 : TypeId} {xss : List (List Int)} {Q : List (List Int) → Prop} (hf : P.funcs[f]? = some fn) (hnt : fn.ntmps = nt) {c : Code} (hb : fn.body = some c) (hnm : (fn.name == "runtime.NumGoroutine") = false)
    (h : ∀ K, AWp P c (fun _ _ => False) (fun _ _ _ => False) (fun env os => ∃ env2 os2 k xss', Turns env os env2 os2 ∧ ResIs P fn env2 os2 (.own k) ∧ os2[k]? = some (.sls T T2 xss') ∧ Q xss' ∧ os2[0]? = some (.keep 1 K)) (Env.start (args.map (AV.sh 1)) (nt - args.length)) [.keep 1 K, .sls T T2 xss]) :
    AFnT P f args T T2 xss Q := AFnT.of hf hb hnm (by rw [hnt]) rfl h

section
variable {w w' : World} {ok ok' : Nat → Prop} {gs : List Gh} {h : Nat} {g' : Gh}
end

section
variable {P : Program} {env : Env} {os : List AO} {d : Option Tmp} {ty : TypeId} {pos : String} {af : Array Edge} {g : Option (Nat × Bool)}
end

section
variable {P : Program} {env : Env} {os : List AO} {d : Tmp} {ty : TypeId} {pos : String} {af : Array Edge} {g : Option (Nat × Bool)} {l rest : List Oper} {K : APost} {q : Md}
end
end Go.Proofs.Ytbalbiliejjnoaa
/-
  Own slices of truth values; own rows that are only read from here on. No condition.
-/
namespace Go.Proofs.Ytbalbiliejjnoaa
open Go Go.RowKit

/-- Cells that are truth values. -/
def bL (bs : List Bool) : List AV := bs.map AV.b
theorem bL_len (bs : List Bool) : (bL bs).length = bs.length := List.length_map _
theorem bL_set (bs : List Bool) (i : Nat) (b : Bool) : bL (bs.set i b) = (bL bs).set i (.b b) := by unfold bL; rw [List.map_set]
theorem bL_kill (h : Nat) (bs : List Bool) : (bL bs).map (AV.kill h) = bL bs := by unfold bL; rw [List.map_map]; rfl
theorem bL_lim (n : Nat) (bs : List Bool) : (bL bs).map (AV.lim n) = bL bs := by unfold bL; rw [List.map_map]; rfl
theorem bL_ren (s : List Nat) (bs : List Bool) : (bL bs).map (AV.ren s) = bL bs := by unfold bL; rw [List.map_map]; rfl
theorem bL_get {bs : List Bool} {i : Nat} (h : i < bs.length) : (bL bs)[i]? = some (.b (bs.getD i false)) := by
  unfold bL; rw [List.getElem?_map, List.getD_eq_getElem?_getD, List.getElem?_eq_getElem h]; rfl

section
variable {P : Program} {env : Env} {os : List AO} {d : Option Tmp} {ty : TypeId} {pos : String} {af : Array Edge} {g : Option (Nat × Bool)}
theorem l_make_bool {t e : TypeId} {bytes : Nat} [ht : TSlice P t e] [he : TElem P e (.bool false) bytes] {x y : Operand} {n : Int} (hx : AV.ev env x = .i n) (hy : AV.ev env y = .i n) (h0 : 0 ≤ n) (hb : (bytes : Int) * n ≤ 281474976710656) (hm : n ≤ 9223372036854775807) :
    LOp P ⟨d, .makeSlice t x y, ty, pos, af, g⟩ env os (.own os.length) env (os ++ [.slr e (bL (List.replicate n.toNat false))]) := by
  refine l_new fun base w gs tm hr => ?_
  obtain ⟨ii, hi, hs, hz, hby⟩ := he.info
  obtain ⟨m, rfl⟩ := Int.eq_ofNat_of_zero_le h0
  have hb' : ii.bytes * m ≤ 281474976710656 := by
    have : ((bytes * m : Nat) : Int) ≤ 281474976710656 := by rw [Int.natCast_mul]; exact hb
    rw [hby]; omega
  obtain ⟨w', h1, h2, h3⟩ := run_make_full (P := P) w base t e ii _ 1 ht.und hi hz hs .i64 .i64 m hb' (by simp [maxLen]; omega) hr.hb
  have hbel : Below w.heap.size w w' := (Below.refl _ _).grown h3 (Nat.le_refl _) (fun k hk => by cases hk)
  have hlt := h2.lt w.heap.size rfl
  refine ⟨w', ⟨.slice (some ⟨w.heap.size, 0, none⟩) m m, w.heap.size, [w.heap.size], []⟩, by simp only [execOp, hr.evv hx, hr.evv hy, Sem.run_bind, h1, Result.andThen_ok, Sem.run_pure], hbel,
    fun b hb => by simp at hb; omega, fun ok gs' => ⟨List.replicate m (.bool false), ?_, by simp [bL_len], fun i => ?_, .inr ⟨rfl, rfl⟩⟩⟩
  · rw [show (Value.bool false).cells = #[.bool false] from rfl, toList_madeCells_one] at h2
    simpa using h2
  · rw [Int.toNat_natCast]
    by_cases hi : i < m
    · have e1 : (List.replicate m (Value.bool false)).getD i undef = .bool false := by simp [List.getD_eq_getElem?_getD, hi]
      have e2 : (bL (List.replicate m false)).getD i .any = .b false := by
        rw [List.getD_eq_getElem?_getD, bL_get (by simpa using hi)]; simp [List.getD_eq_getElem?_getD, hi]
      rw [e1, e2]; exact .val _
    · have e2 : (bL (List.replicate m false)).getD i .any = .any := by
        rw [List.getD_eq_getElem?_getD, List.getElem?_eq_none (by rw [bL_len]; simp; omega)]; rfl
      rw [e2]; exact .any _

/-- A truth value goes into its place. -/
theorem l_store_bool {t : TypeId} [ht : TCell P t] {x y : Operand} {h i : Nat} {e : TypeId} {bs : List Bool} {b : Bool} (hx : AV.ev env x = .optr h i) (hs : os[h]? = some (.slr e (bL bs))) (hi : i < bs.length) (hy : AV.ev env y = .b b) :
    LOp P ⟨d, .store t x y, ty, pos, af, g⟩ env os .any env (os.set h (.slr e (bL (bs.set i b)))) := by
  intro base w gs tm hr
  have hh := hr.ev x
  rw [hx] at hh
  generalize hv : Act.eval ⟨tm, []⟩ x = v at hh
  cases hh with
  | @optr _ _ gh hg =>
    obtain ⟨vs, a1, a2, a3, a4⟩ := hr.ho _ _ _ hg hs
    rw [bL_len] at a2
    obtain ⟨bk, cap, e1, e2, e3, e4⟩ := own_slice a1 (i := i) (by omega)
    have eb := a4.eq e2
    rw [e1] at a1
    have hst := a1.stored i (.bool b)
    have hcell : w.cell? ⟨gh.b, i, none⟩ = some (vs[i]'(by omega)) := by rw [eb, e3]; exact List.getElem?_eq_getElem (by omega)
    have hbl : gh.bl = [gh.b] := by
      rcases a4 with ⟨h1, _⟩ | ⟨_, h2⟩
      · rw [h1] at e2; cases e2
      · exact h2
    have hother : ∀ c, c < w.heap.size → c ∉ gh.bl → (w.setCell ⟨bk, i, none⟩ (.bool b)).heap[c]? = w.heap[c]? := fun c hc hcb => hst.2.block c hc (fun e' => hcb (by rw [hbl, eb]; simpa using e'))
    refine ⟨undef, w.setCell ⟨bk, i, none⟩ (.bool b), gs, .inr ⟨?_, rfl⟩, hr.upd hg hs trivial _ trivial hother hst.2.size fun kp => ?_, .any _, ?_⟩
    · have := run_store_cell (P := P) (t := t) (a := ⟨gh.b, i, none⟩) hcell (by rw [eb]; exact e4) (v := .bool b) rfl rfl
      rw [eb] at this hv
      simp only [execOp, hv, hr.evv hy, Sem.run_bind, this, Result.andThen_ok, Sem.run_pure]
    · refine ⟨vs.set i (.bool b), ?_, by rw [bL_len]; simpa using a2, fun j => ?_, a4⟩
      · rw [e1, List.length_set]
        exact hst.1
      · by_cases hj : i = j
        · subst hj
          have q1 : (vs.set i (.bool b)).getD i undef = .bool b := by rw [List.getD_eq_getElem?_getD, List.getElem?_set, if_pos rfl, if_pos (by omega)]; rfl
          have q2 : (bL (bs.set i b)).getD i .any = .b b := by
            rw [List.getD_eq_getElem?_getD, bL_get (by simpa using hi), List.getD_eq_getElem?_getD, List.getElem?_set, if_pos rfl, if_pos hi]; rfl
          rw [q1, q2]; exact .val _
        · have q1 : (vs.set i (.bool b)).getD j undef = vs.getD j undef := by rw [List.getD_eq_getElem?_getD, List.getElem?_set, if_neg hj, List.getD_eq_getElem?_getD]
          have q2 : (bL (bs.set i b)).getD j .any = (bL bs).getD j .any := by rw [bL_set, List.getD_eq_getElem?_getD, List.getElem?_set, if_neg hj, List.getD_eq_getElem?_getD]
          rw [q1, q2]
          exact (a3 j).mono kp (fun _ _ h => h)
    · have hbb : base ≤ bk := by rw [← eb]; exact (hr.hn _ _ _ hg hs (by simp) gh.b (by simp [hbl])).1
      exact (Below.refl _ _).setCell (p := ⟨bk, i, none⟩) hbb _
end

section
variable {P : Program} {env : Env} {os : List AO} {d : Tmp} {ty : TypeId} {pos : String} {af : Array Edge} {g : Option (Nat × Bool)} {l rest : List Oper} {K : APost} {q : Md}
theorem w_mkb {t e : TypeId} {bytes : Nat} [TSlice P t e] [TElem P e (.bool false) bytes] {x y : Operand} {n : Int} {m : Nat} (hx : evo env x = some (.i n)) (hy : evo env y = some (.i n)) (h0 : 0 ≤ n) (hb : (bytes : Int) * n ≤ 281474976710656) (h63 : n ≤ 9223372036854775807) (hm : os.length = m)
    (h' : AOps P .seq l rest K (env.up d (.own m)) (os ++ [.slr e (bL (List.replicate n.toNat false))])) : AOps P .seq l (⟨some d, .makeSlice t x y, ty, pos, af, none⟩ :: rest) K env os := AOps.lo (hm ▸ l_make_bool (ev_of hx) (ev_of hy) h0 hb h63) h'
theorem w_stb {t : TypeId} [TCell P t] {x y : Operand} {h i : Nat} {e : TypeId} {bs : List Bool} {b : Bool} (hx : evo env x = some (.optr h i)) (hs : os[h]? = some (.slr e (bL bs))) (hi : i < bs.length) (hy : evo env y = some (.b b))
    (h' : AOps P .seq l rest K env (os.set h (.slr e (bL (bs.set i b))))) : AOps P .seq l (⟨none, .store t x y, ty, pos, af, none⟩ :: rest) K env os := AOps.so (l_store_bool (ev_of hx) hs hi (ev_of hy)) h'
theorem w_ldbl {t : TypeId} [TCell P t] {x : Operand} {h i : Nat} {e : TypeId} {bs : List Bool} (hw : wantedA l env ⟨some d, .load t x, ty, pos, af, g⟩ = some true) (hq : q.wl = false) (hx : evo env x = some (.optr h i)) (hs : os[h]? = some (.slr e (bL bs))) (hi : i < bs.length)
    (h' : AOps P q l rest K (env.up d (.b (bs.getD i false))) os) : AOps P q l (⟨some d, .load t x, ty, pos, af, g⟩ :: rest) K env os := AOps.qo hw (by rw [hq]; exact q_load_slr (ev_of hx) hs (bL_get hi)) h'
theorem w_idxb {t e : TypeId} [TSlice P t e] [TCell P e] {x y : Operand} {h : Nat} {e' : TypeId} {bs : List Bool} {i : Int} (hw : wantedA l env ⟨some d, .indexAddr t x y, ty, pos, af, g⟩ = some true) (hx : evo env x = some (.own h)) (hs : os[h]? = some (.slr e' (bL bs))) (hy : evo env y = some (.i i)) (h0 : 0 ≤ i) (h1 : i < bs.length)
    (h' : AOps P q l rest K (env.up d (.optr h i.toNat)) os) : AOps P q l (⟨some d, .indexAddr t x y, ty, pos, af, g⟩ :: rest) K env os := w_idxo hw hx (.slr hs) hy h0 (by rw [bL_len]; exact h1) h'
theorem w_lenb {t e0 : TypeId} [TSlice P t e0] {x : Operand} {h : Nat} {e : TypeId} {bs : List Bool} (hw : wantedA l env ⟨some d, .call { callee := .builtin .len, args := #[x], argTypes := #[t] }, ty, pos, af, g⟩ = some true) (hx : evo env x = some (.own h)) (hs : os[h]? = some (.slr e (bL bs)))
    (h' : AOps P q l rest K (env.up d (.i bs.length)) os) : AOps P q l (⟨some d, .call { callee := .builtin .len, args := #[x], argTypes := #[t] }, ty, pos, af, g⟩ :: rest) K env os :=
  w_len hw hx (.slr hs) (by rw [bL_len]; exact h')
end

/-! ### Rows that are only read from here on -/
def AV.frz1 (k : Nat) (xss : List (List Int)) : AV → AV
  | .own h => if h = k then .intss xss else .own h
  | .optr h i => if h = k then .any else .optr h i
  | .osub h a b => if h = k then .any else .osub h a b
  | .orow h i => if h = k then .ints (xss.getD i []) else .orow h i
  | .orptr h i j => if h = k then .any else .orptr h i j
  | .agg _ => .any
  | .tup _ => .any
  | a => a
def AV.frz (k : Nat) (xss : List (List Int)) : AV → AV
  | .own h => if h = k then .intss xss else .own h
  | .optr h i => if h = k then .any else .optr h i
  | .osub h a b => if h = k then .any else .osub h a b
  | .orow h i => if h = k then .ints (xss.getD i []) else .orow h i
  | .orptr h i j => if h = k then .any else .orptr h i j
  | .agg l => .agg (l.map (AV.frz1 k xss))
  | .tup l => .tup (l.map (AV.frz1 k xss))
  | a => a
theorem bL_frz (k : Nat) (xss : List (List Int)) (bs : List Bool) : (bL bs).map (AV.frz k xss) = bL bs := by unfold bL; rw [List.map_map]; rfl
def AO.frz (k : Nat) (xss : List (List Int)) : AO → AO
  | .bx T avs => .bx T (avs.map (AV.frz k xss))
  | .slr e avs => .slr e (avs.map (AV.frz k xss))
  | o => o
theorem AO.frz_dead {k : Nat} {xss : List (List Int)} {o : AO} : o.frz k xss = .dead ↔ o = .dead := by cases o <;> simp [AO.frz]
theorem AO.frz_live {k : Nat} {xss : List (List Int)} {o : AO} : (o.frz k xss).live ↔ o.live := by cases o <;> exact Iff.rfl
/-- Own rows read as rows. -/
theorem sls_at {base : Nat} {w : World} {ok ok' : Nat → Prop} {gs : List Gh} {g : Gh} {e e2 : TypeId} {xss : List (List Int)} (h : RO base w ok gs g (.sls e e2 xss)) (hb : ∀ b, b ∈ g.bl → ok' b) :
    IntssAt w ok' g.v xss ∧ ∀ (i : Nat) u, g.rows[i]? = some u → IntsAt w ok' u (xss.getD i []) := by
  obtain ⟨vs, bs, mb, a1, a2, a3, a4, a5, a6, a7, a8⟩ := h
  have hrow : ∀ (i : Nat) u, vs[i]? = some u → IntsAt w ok' u (xss.getD i []) := by
    intro i u hu
    obtain ⟨r1, r2, r3⟩ := a5 i u hu
    refine ⟨RowAt.of_owns' (by rw [← List.length_map (f := Value.int .i64)] at r1; exact r1) fun b hbk => hb b ?_, r2⟩
    rw [a7]
    refine List.mem_append.2 (.inr (List.mem_flatten.2 ⟨bs.getD i [], ?_, ?_⟩))
    · have hi := (List.getElem?_eq_some_iff.1 hu).1
      rw [List.getD_eq_getElem?_getD, List.getElem?_eq_getElem (by omega)]
      exact List.getElem_mem _
    · rw [← r3, hbk]; simp
  refine ⟨⟨vs, RowAt.of_owns' a1 fun b hbk => hb b ?_, a2, hrow⟩, fun i u hu => hrow i u (by rw [← a4]; exact hu)⟩
  rw [a7]
  refine List.mem_append.2 (.inl ?_)
  rcases a6 with ⟨s1, _⟩ | ⟨s1, s2⟩
  · rw [s1] at hbk; cases hbk
  · rw [s1] at hbk; cases hbk; rw [s2]; simp

section
variable {w : World} {ok ok' : Nat → Prop} {gs : List Gh} {k : Nat} {xss : List (List Int)}
/-- What the frozen rows look like to their readers. -/
def FrzAt (w : World) (ok' : Nat → Prop) (gs : List Gh) (k : Nat) (xss : List (List Int)) : Prop := ∀ g, gs[k]? = some g → IntssAt w ok' g.v xss ∧ ∀ (i : Nat) u, g.rows[i]? = some u → IntsAt w ok' u (xss.getD i [])
theorem RV.frz1 (kp : Keeps ok ok' w w) (hf : FrzAt w ok' gs k xss) {v : Value} {a : AV} (hv : RV w ok gs v a) : RV w ok' gs v (a.frz1 k xss) := by
  cases hv with
  | any v => exact .any v
  | val v => exact .val v
  | ints h => exact .ints (h.mono kp)
  | intss h => exact .intss (h.mono kp)
  | @ro v r h => exact .ro (r.up kp h)
  | iptr h h1 h2 => exact .iptr (h.mono kp) h1 h2
  | iiptr h h1 h2 => exact .iiptr (h.mono kp) h1 h2
  | own h1 =>
    simp only [AV.frz1]; split
    · subst_vars; exact .intss (hf _ h1).1
    · exact .own h1
  | optr h1 =>
    simp only [AV.frz1]; split
    · exact .any _
    · exact .optr h1
  | osub h1 h2 h3 h4 =>
    simp only [AV.frz1]; split
    · exact .any _
    · exact .osub h1 h2 h3 h4
  | orow h1 h2 =>
    simp only [AV.frz1]; split
    · subst_vars; exact .ints ((hf _ h1).2 _ _ h2)
    · exact .orow h1 h2
  | orptr h1 h2 =>
    simp only [AV.frz1]; split
    · exact .any _
    · exact .orptr h1 h2
  | agg _ _ _ => exact .any _
  | tup _ _ => exact .any _
theorem getD_map_frz1 (l : List AV) (i : Nat) : (l.map (AV.frz1 k xss)).getD i .any = (l.getD i .any).frz1 k xss := getD_map_f _ rfl l i
theorem getD_map_frz (l : List AV) (i : Nat) : (l.map (AV.frz k xss)).getD i .any = (l.getD i .any).frz k xss := getD_map_f _ rfl l i
theorem RV.frz (kp : Keeps ok ok' w w) (hf : FrzAt w ok' gs k xss) {v : Value} {a : AV} (hv : RV w ok gs v a) : RV w ok' gs v (a.frz k xss) := by
  cases hv with
  | any v => exact .any v
  | val v => exact .val v
  | ints h => exact .ints (h.mono kp)
  | intss h => exact .intss (h.mono kp)
  | @ro v r h => exact .ro (r.up kp h)
  | iptr h h1 h2 => exact .iptr (h.mono kp) h1 h2
  | iiptr h h1 h2 => exact .iiptr (h.mono kp) h1 h2
  | own h1 =>
    simp only [AV.frz]; split
    · subst_vars; exact .intss (hf _ h1).1
    · exact .own h1
  | optr h1 =>
    simp only [AV.frz]; split
    · exact .any _
    · exact .optr h1
  | osub h1 h2 h3 h4 =>
    simp only [AV.frz]; split
    · exact .any _
    · exact .osub h1 h2 h3 h4
  | orow h1 h2 =>
    simp only [AV.frz]; split
    · subst_vars; exact .ints ((hf _ h1).2 _ _ h2)
    · exact .orow h1 h2
  | orptr h1 h2 =>
    simp only [AV.frz]; split
    · exact .any _
    · exact .orptr h1 h2
  | agg h1 h3 h2 => exact .agg (by simpa using h1) h3 fun i => by rw [getD_map_frz1]; exact (h2 i).frz1 kp hf
  | tup h1 h2 => exact .tup (by simpa using h1) fun i => by rw [getD_map_frz1]; exact (h2 i).frz1 kp hf
end
theorem Rel.freeze {base : Nat} {w : World} {gs : List Gh} {env : Env} {os : List AO} {tm : Array Value} (h : Rel base w gs env os tm) {k : Nat} {e e2 : TypeId} {xss : List (List Int)} (hs : os[k]? = some (.sls e e2 xss)) :
    Rel base w gs (env.mp (AV.frz k xss)) ((os.map (AO.frz k xss)).set k .dead) tm := by
  have hk : k < os.length := (List.getElem?_eq_some_iff.1 hs).1
  have oset : ∀ {i : Nat} {x : AO}, ((os.map (AO.frz k xss)).set k .dead)[i]? = some x → (i = k ∧ x = .dead) ∨ (i ≠ k ∧ ∃ y, os[i]? = some y ∧ x = y.frz k xss) := by
    intro i x hx
    rw [List.getElem?_set] at hx
    by_cases e : k = i
    · subst e
      rw [if_pos rfl, if_pos (by simpa using hk)] at hx
      cases hx; exact .inl ⟨rfl, rfl⟩
    · rw [if_neg e, List.getElem?_map] at hx
      cases hy : os[i]? with
      | none => rw [hy] at hx; cases hx
      | some y => rw [hy] at hx; cases hx; exact .inr ⟨fun e' => e e'.symm, y, rfl, rfl⟩
  have kp : Keeps (okOf gs os) (okOf gs ((os.map (AO.frz k xss)).set k .dead)) w w := by
    intro b hb _
    refine ⟨fun i x o' hx ho' hl => ?_, rfl⟩
    rcases oset ho' with ⟨_, rfl⟩ | ⟨_, y, hy, rfl⟩
    · exact hl.elim
    · exact hb i x y hx hy (AO.frz_live.1 hl)
  have hf : FrzAt w (okOf gs ((os.map (AO.frz k xss)).set k .dead)) gs k xss := by
    intro g hg
    refine sls_at (h.ho k g _ hg hs) fun b hb i x o' hx ho' hl hm => ?_
    rcases oset ho' with ⟨_, rfl⟩ | ⟨hik, y, hy, rfl⟩
    · exact hl.elim
    · exact h.hd k i g x _ _ (fun e => hik e.symm) hg hx hs hy (by simp) (AO.frz_live.1 hl).ne b hb hm
  refine ⟨h.hb, by simpa using h.hl, h.hs, fun i => ?_, ?_, ?_, ?_⟩
  · rw [Env.lk_mp _ rfl]
    exact (h.he i).frz kp hf
  · intro i g o' hg ho'
    rcases oset ho' with ⟨_, rfl⟩ | ⟨_, y, hy, rfl⟩
    · trivial
    · have hro := h.ho i g y hg hy
      cases y with
      | dead => trivial
      | sli e xs => exact hro
      | sls e e2 xs => exact hro
      | ob q => exact hro
      | keep n K => exact hro
      | slr e avs =>
        obtain ⟨vs, a1, a2, a3, a4⟩ := hro
        exact ⟨vs, a1, by simpa using a2, fun j => by rw [getD_map_frz]; exact (a3 j).frz kp hf, a4⟩
      | bx T avs =>
        obtain ⟨cs, c1, c2, c3, c4, c5, c6, c7⟩ := hro
        exact ⟨cs, c1, c2, c3, c4, by simpa using c5, c6, fun j => by rw [getD_map_frz]; exact (c7 j).frz kp hf⟩
  · intro i j g1 g2 o1 o2 hij hg1 hg2 ho1 ho2 hn1 hn2
    rcases oset ho1 with ⟨_, rfl⟩ | ⟨_, y, hy, rfl⟩
    · exact absurd rfl hn1
    · rcases oset ho2 with ⟨_, rfl⟩ | ⟨_, z, hz, rfl⟩
      · exact absurd rfl hn2
      · exact h.hd i j g1 g2 y z hij hg1 hg2 hy hz (fun e => hn1 (AO.frz_dead.2 e)) (fun e => hn2 (AO.frz_dead.2 e))
  · intro i g o' hg ho' hn
    rcases oset ho' with ⟨_, rfl⟩ | ⟨_, y, hy, rfl⟩
    · exact absurd rfl hn
    · exact h.hn i g y hg hy fun e => hn (AO.frz_dead.2 e)
theorem Turns.freeze {env : Env} {os : List AO} {k : Nat} {e e2 : TypeId} {xss : List (List Int)} (hs : os[k]? = some (.sls e e2 xss)) : Turns env os (env.mp (AV.frz k xss)) ((os.map (AO.frz k xss)).set k .dead) :=
  fun _ _ gs _ h => ⟨gs, h.freeze hs⟩
theorem handed0 {os : List AO} : Handed os [] [] := ⟨List.nodup_nil, fun _ _ hk => (by cases hk), rfl, fun _ ho => (by cases ho)⟩
end Go.Proofs.Ytbalbiliejjnoaa
/-
  A struct of two read slices, two own slices of numbers, one of truth values, and a truth value, behind a pointer; functions that write to it in its place. No condition.
-/
namespace Go.Proofs.Ytbalbiliejjnoaa
open Go Go.RowKit

/-- What such a struct holds. -/
structure WS where
  f : List Int
  g : List Int
  s : List Bool
  l : Bool

theorem RO.slrb {base : Nat} {w : World} {ok ok' : Nat → Prop} {gs gs' : List Gh} {g : Gh} {e : TypeId} {bs : List Bool} (h : RO base w ok gs g (.slr e (bL bs))) : RO base w ok' gs' g (.slr e (bL bs)) := by
  obtain ⟨vs, a1, a2, a3, a4⟩ := h
  refine ⟨vs, a1, a2, fun i => ?_, a4⟩
  have := a3 i
  by_cases hi : i < bs.length
  · have e1 : (bL bs).getD i .any = .b (bs.getD i false) := by rw [List.getD_eq_getElem?_getD, bL_get hi]; rfl
    rw [e1] at this ⊢
    generalize vs.getD i undef = z at this ⊢
    cases this; exact .val _
  · have e1 : (bL bs).getD i .any = .any := by rw [List.getD_eq_getElem?_getD, List.getElem?_eq_none (by rw [bL_len]; omega)]; rfl
    rw [e1]; exact .any _

/-- A known value that reads as numbers, as rows. -/
def roI (u : Value) (W : List Int) : Ro where
  p w ok v := v = u ∧ IntsAt w ok v W
  up k h := ⟨h.1, h.2.mono k⟩
def roN (u : Value) (N : List (List Int)) : Ro where
  p w ok v := v = u ∧ IntssAt w ok v N
  up k h := ⟨h.1, h.2.mono k⟩
def RdI (a : AV) (W : List Int) : Prop := ∀ w ok gs v, RV w ok gs v a → IntsAt w ok v W
def RdN (a : AV) (N : List (List Int)) : Prop := ∀ w ok gs v, RV w ok gs v a → IntssAt w ok v N
theorem rdI_ints (W : List Int) : RdI (.ints W) W := fun _ _ _ _ h => by cases h; assumption
theorem rdI_ro (u : Value) (W : List Int) : RdI (.ro (roI u W)) W := fun _ _ _ _ h => by cases h with | ro h => exact h.2
theorem rdN_intss (N : List (List Int)) : RdN (.intss N) N := fun _ _ _ _ h => by cases h; assumption
theorem rdN_ro (u : Value) (N : List (List Int)) : RdN (.ro (roN u N)) N := fun _ _ _ _ h => by cases h with | ro h => exact h.2

/-- Objects that were written to in their places. -/
theorem Rel.upds {base : Nat} {w w' : World} {gs : List Gh} {env : Env} {os os' : List AO} {tm : Array Value} (h : Rel base w gs env os tm) (H : List Nat) (hl : os'.length = os.length) (hsame : ∀ i, i ∉ H → os'[i]? = os[i]?)
    (hlive : ∀ i ∈ H, ∀ o o', os[i]? = some o → os'[i]? = some o' → o.live ∧ o'.live) (hw : ∀ b, b < w.heap.size → (∀ i ∈ H, ∀ g, gs[i]? = some g → b ∉ g.bl) → w'.heap[b]? = w.heap[b]?) (hsz : w.heap.size ≤ w'.heap.size)
    (hro : Keeps (okOf gs os) (okOf gs os') w w' → ∀ i ∈ H, ∀ g o', gs[i]? = some g → os'[i]? = some o' → RO base w' (okOf gs os') gs g o') : Rel base w' gs env os' tm := by
  have back : ∀ {i : Nat} {o' : AO}, os'[i]? = some o' → ∃ o, os[i]? = some o ∧ ((i ∈ H ∧ o.live ∧ o'.live) ∨ (i ∉ H ∧ o' = o)) := by
    intro i o' ho'
    by_cases hi : i ∈ H
    · have hlt : i < os.length := by rw [← hl]; exact (List.getElem?_eq_some_iff.1 ho').1
      obtain ⟨l1, l2⟩ := hlive i hi _ o' (List.getElem?_eq_getElem hlt) ho'
      exact ⟨_, List.getElem?_eq_getElem hlt, .inl ⟨hi, l1, l2⟩⟩
    · exact ⟨o', by rw [← hsame i hi]; exact ho', .inr ⟨hi, rfl⟩⟩
  have fwd : ∀ {i : Nat} {o : AO}, os[i]? = some o → ∃ o', os'[i]? = some o' ∧ ((i ∈ H ∧ o.live ∧ o'.live) ∨ (i ∉ H ∧ o' = o)) := by
    intro i o ho
    by_cases hi : i ∈ H
    · have hlt : i < os'.length := by rw [hl]; exact (List.getElem?_eq_some_iff.1 ho).1
      obtain ⟨l1, l2⟩ := hlive i hi o _ ho (List.getElem?_eq_getElem hlt)
      exact ⟨_, List.getElem?_eq_getElem hlt, .inl ⟨hi, l1, l2⟩⟩
    · exact ⟨o, by rw [hsame i hi]; exact ho, .inr ⟨hi, rfl⟩⟩
  have kp : Keeps (okOf gs os) (okOf gs os') w w' := by
    intro b hb hlt
    refine ⟨fun i g o' hg ho' hlv hm => ?_, hw b hlt fun i hi g hg hm => ?_⟩
    · obtain ⟨o, ho, hc⟩ := back ho'
      rcases hc with ⟨_, l1, _⟩ | ⟨_, rfl⟩
      · exact hb i g o hg ho l1 hm
      · exact hb i g _ hg ho hlv hm
    · have hlt' : i < os.length := by rw [← h.hl]; exact (List.getElem?_eq_some_iff.1 hg).1
      obtain ⟨o', ho', hc⟩ := fwd (List.getElem?_eq_getElem hlt')
      rcases hc with ⟨_, l1, _⟩ | ⟨hn, _⟩
      · exact hb i g _ hg (List.getElem?_eq_getElem hlt') l1 hm
      · exact hn hi
  refine ⟨Nat.le_trans h.hb hsz, by rw [h.hl, hl], h.hs, fun i => (h.he i).mono kp fun _ _ e => e, ?_, ?_, ?_⟩
  · intro i g o' hg ho'
    obtain ⟨o, ho, hc⟩ := back ho'
    rcases hc with ⟨hi, _, _⟩ | ⟨hi, rfl⟩
    · exact hro kp i hi g o' hg ho'
    · refine (h.ho i g _ hg ho).mono kp (fun _ _ e => e) fun hnd b hb => hw b (h.hn i g _ hg ho hnd b hb).2 fun j hj g' hg' hm => ?_
      have hltj : j < os.length := by rw [← h.hl]; exact (List.getElem?_eq_some_iff.1 hg').1
      obtain ⟨_, _, hcj⟩ := fwd (List.getElem?_eq_getElem hltj)
      rcases hcj with ⟨_, l1, _⟩ | ⟨hn, _⟩
      · exact h.hd i j g g' _ _ (fun e => hi (e ▸ hj)) hg hg' ho (List.getElem?_eq_getElem hltj) hnd l1.ne b hb hm
      · exact hn hj
  · intro i j g1 g2 o1 o2 hij hg1 hg2 ho1 ho2 hn1 hn2
    obtain ⟨p1, hp1, c1⟩ := back ho1
    obtain ⟨p2, hp2, c2⟩ := back ho2
    refine h.hd i j g1 g2 p1 p2 hij hg1 hg2 hp1 hp2 ?_ ?_
    · rcases c1 with ⟨_, l1, _⟩ | ⟨_, rfl⟩
      · exact l1.ne
      · exact hn1
    · rcases c2 with ⟨_, l1, _⟩ | ⟨_, rfl⟩
      · exact l1.ne
      · exact hn2
  · intro i g o' hg ho' hn b hb
    obtain ⟨o, ho, hc⟩ := back ho'
    have hne : o ≠ .dead := by
      rcases hc with ⟨_, l1, _⟩ | ⟨_, rfl⟩
      · exact l1.ne
      · exact hn
    have := h.hn i g o hg ho hne b hb
    exact ⟨this.1, Nat.lt_of_lt_of_le this.2 hsz⟩

/-- The struct and its parts in memory. -/
structure Wk (T e eb : TypeId) (base : Nat) (w : World) (g0 g1 g2 g3 : Gh) (vW vN : Value) (st : WS) : Prop where
  cell : w.heap[g0.b]? = some (.cells #[vW, vN, g1.v, g2.v, g3.v, .bool st.l] T (0, 0))
  one : vW.oneCell' = true ∧ vN.oneCell' = true
  hb : base ≤ g0.b
  bl : g0.bl = [g0.b]
  v : g0.v = .pointer (some ⟨g0.b, 0, none⟩)
  rf : RO base w (fun _ => True) [] g1 (.sli e st.f)
  rg : RO base w (fun _ => True) [] g2 (.sli e st.g)
  rs : RO base w (fun _ => True) [] g3 (.slr eb (bL st.s))
  hd : ∀ (i j : Nat) a b, i ≠ j → [g0, g1, g2, g3][i]? = some a → [g0, g1, g2, g3][j]? = some b → ∀ c, c ∈ a.bl → c ∉ b.bl
  hn : ∀ a ∈ [g0, g1, g2, g3], ∀ c, c ∈ a.bl → base ≤ c ∧ c < w.heap.size
def okB (g0 g1 g2 g3 : Gh) (b : Nat) : Prop := ∀ a ∈ [g0, g1, g2, g3], b ∉ a.bl

def AFnB (P : Program) (f : FuncId) (T e eb : TypeId) (W : List Int) (N : List (List Int)) (as0 : List Value) (st st' : WS) (rv : Value) : Prop :=
  HasBody P f ∧ ∀ base w g0 g1 g2 g3 vW vN, base ≤ w.heap.size → Wk T e eb base w g0 g1 g2 g3 vW vN st → IntsAt w (okB g0 g1 g2 g3) vW W → IntssAt w (okB g0 g1 g2 g3) vN N →
    Calls P f (g0.v :: as0).toArray w fun ev w' => ev = .returned rv ∧ Wk T e eb base w' g0 g1 g2 g3 vW vN st' ∧ Below base w w' ∧ ∀ b, b < w.heap.size → okB g0 g1 g2 g3 b → w'.heap[b]? = w.heap[b]?

/-- The objects of the struct, behind the handles 1 to 4. -/
def wkL (T e eb : TypeId) (W : List Int) (N : List (List Int)) (vW vN : Value) (st : WS) : List AO :=
  [.bx T [.ro (roI vW W), .ro (roN vN N), .own 2, .own 3, .own 4, .b st.l], .sli e st.f, .sli e st.g, .slr eb (bL st.s)]
def WkEnd (P : Program) (fn : Func) (T e eb : TypeId) (W : List Int) (N : List (List Int)) (vW vN : Value) (K : Kp) (st' : WS) (rv : Value) (env : Env) (os : List AO) : Prop :=
  ResIs P fn env os (.val rv) ∧ ∃ tl, os = .keep 5 K :: wkL T e eb W N vW vN st' ++ tl

set_option maxHeartbeats 2000000 in
theorem AFnB.of {P : Program} {f : FuncId} {fn : Func} {c : Code} {T e eb : TypeId} {W : List Int} {N : List (List Int)} {as0 : List Value} {args' : List AV} {st st' : WS} {rv : Value} {n : Nat} (hf : P.funcs[f]? = some fn) (hb : fn.body = some c) (hnm : (fn.name == "runtime.NumGoroutine") = false)
    (hn : fn.ntmps - (as0.length + 1) = n) (ha : args' = .optr 1 0 :: as0.map AV.val)
    (h : ∀ K vW vN, AWp P c (WkEnd P fn T e eb W N vW vN K st' rv) (fun _ _ _ => False) (WkEnd P fn T e eb W N vW vN K st' rv) (Env.start args' n) (.keep 5 K :: wkL T e eb W N vW vN st)) :
    AFnB P f T e eb W N as0 st st' rv := by
  refine ⟨⟨fn, c, hf, hnm, hb⟩, fun base w g0 g1 g2 g3 vW vN hbase hC hW hN => calls_of_wp hf hb ?_⟩
  have hvs : ((g0.v :: as0).toArray).size = as0.length + 1 := by simp
  rw [show fn.ntmps - ((g0.v :: as0).toArray).size = n by rw [hvs]; exact hn]
  obtain ⟨c1, c1', c2, c3, c4, c5, c6, c7, c8, c9⟩ := hC
  let bl : List Nat := (List.range w.heap.size).filter fun b => decide (base ≤ b) && !(g0.bl ++ g1.bl ++ g2.bl ++ g3.bl).contains b
  let gk : Gh := ⟨undef, 0, bl, []⟩
  let K : Kp := ⟨fun b => w.heap[b]?, [gk, g0, g1, g2, g3]⟩
  have hbl : ∀ b, b ∈ bl ↔ b < w.heap.size ∧ base ≤ b ∧ okB g0 g1 g2 g3 b := by
    intro b
    simp only [bl, List.mem_filter, List.mem_range, Bool.and_eq_true, decide_eq_true_eq, Bool.not_eq_true', List.contains_eq_mem, decide_eq_false_iff_not, List.mem_append, okB, List.mem_cons, List.not_mem_nil, or_false, forall_eq_or_imp, forall_eq, not_or]
    constructor
    · rintro ⟨h1, h2, ⟨⟨h3, h4⟩, h5⟩, h6⟩; exact ⟨h1, h2, h3, h4, h5, h6⟩
    · rintro ⟨h1, h2, h3, h4, h5, h6⟩; exact ⟨h1, h2, ⟨⟨h3, h4⟩, h5⟩, h6⟩
  have okk : ∀ b, okB g0 g1 g2 g3 b → okOf [gk, g0, g1, g2, g3] (.keep 5 K :: wkL T e eb W N vW vN st) b := by
    intro b hb i x y hx hy hl
    match i with
    | 0 => cases hy; exact hl.elim
    | i + 1 => exact hb x (List.mem_of_getElem? (by simpa using hx))
  have kp : Keeps (okB g0 g1 g2 g3) (okOf [gk, g0, g1, g2, g3] (.keep 5 K :: wkL T e eb W N vW vN st)) w w := fun b hb _ => ⟨okk b hb, rfl⟩
  have hrel : Rel base w [gk, g0, g1, g2, g3] (Env.start args' n) (.keep 5 K :: wkL T e eb W N vW vN st) ((g0.v :: as0).toArray ++ Array.replicate n undef) := by
    refine ⟨hbase, rfl, by simp [Env.start, ha], fun i => ?_, ?_, ?_, ?_⟩
    · refine start_rv args' n (g0.v :: as0).toArray (fun i => ?_) i
      rw [ha]
      match i with
      | 0 =>
        show RV w _ _ g0.v (.optr 1 0)
        rw [c4]
        exact .optr (g := g0) rfl
      | i + 1 =>
        have e1 : ((g0.v :: as0).toArray).getD (i + 1) undef = as0.getD i undef := by simp [Array.getD_eq_getD_getElem?, List.getD_eq_getElem?_getD]
        have e2 : (AV.optr 1 0 :: as0.map AV.val).getD (i + 1) .any = (as0.map AV.val).getD i .any := rfl
        rw [e1, e2]
        rw [List.getD_eq_getElem?_getD, List.getD_eq_getElem?_getD, List.getElem?_map]
        cases as0[i]? with
        | none => exact .any _
        | some z => exact .val z
    · intro i x y hx hy
      match i with
      | 0 =>
        cases hx; cases hy
        exact ⟨fun b _ => rfl, rfl, fun i x h => h⟩
      | 1 =>
        cases hx; cases hy
        refine ⟨[vW, vN, g1.v, g2.v, g3.v, .bool st.l], c1, c2, c3, c4, rfl, ?_, fun j => ?_⟩
        · intro z hz
          simp only [List.mem_cons, List.not_mem_nil, or_false] at hz
          obtain ⟨a1, _, _⟩ := c5
          obtain ⟨u1, k1, e1⟩ := ownsRow_slice a1
          obtain ⟨a2, _, _⟩ := c6
          obtain ⟨u2, k2, e2⟩ := ownsRow_slice a2
          obtain ⟨vs3, a3, _⟩ := c7
          obtain ⟨u3, k3, e3⟩ := ownsRow_slice a3
          rcases hz with rfl | rfl | rfl | rfl | rfl | rfl
          · exact c1'.1
          · exact c1'.2
          · rw [e1]; rfl
          · rw [e2]; rfl
          · rw [e3]; rfl
          · rfl
        · match j with
          | 0 => exact .ro ⟨rfl, hW.mono kp⟩
          | 1 => exact .ro ⟨rfl, hN.mono kp⟩
          | 2 => exact .own (g := g1) rfl
          | 3 => exact .own (g := g2) rfl
          | 4 => exact .own (g := g3) rfl
          | 5 => exact .val _
          | j + 6 => exact .any _
      | 2 => cases hx; cases hy; exact c5
      | 3 => cases hx; cases hy; exact c6
      | 4 => cases hx; cases hy; exact RO.slrb c7
      | i + 5 => simp at hx
    · intro i j a b o1 o2 hij ha1 hb1 ho1 ho2 _ _ c hc1 hc2
      match i, j with
      | 0, 0 => omega
      | 0, j + 1 =>
        cases ha1
        exact ((hbl c).1 hc1).2.2 b (List.mem_of_getElem? (by simpa using hb1)) hc2
      | i + 1, 0 =>
        cases hb1
        exact ((hbl c).1 hc2).2.2 a (List.mem_of_getElem? (by simpa using ha1)) hc1
      | i + 1, j + 1 => exact c8 i j a b (by omega) (by simpa using ha1) (by simpa using hb1) c hc1 hc2
    · intro i x y hx hy _ b hb
      match i with
      | 0 => cases hx; exact ⟨((hbl b).1 hb).2.1, ((hbl b).1 hb).1⟩
      | i + 1 => exact c9 x (List.mem_of_getElem? (by simpa using hx)) b hb
  have fin : ∀ {env : Env} {os1 : List AO} {gs2 : List Gh} {a : Act} {w' : World}, Rel base w' gs2 env os1 a.tmps → Below base w w' → WkEnd P fn T e eb W N vW vN K st' rv env os1 →
      ∃ u, (results fn a.tmps).run P w' = .ok u w' ∧ (Ending.returned u = .returned rv ∧ Wk T e eb base w' g0 g1 g2 g3 vW vN st' ∧ Below base w w' ∧ ∀ b, b < w.heap.size → okB g0 g1 g2 g3 b → w'.heap[b]? = w.heap[b]?) := by
    rintro env os1 gs2 a w' hr hbel ⟨hres, tl, rfl⟩
    obtain ⟨u, hu, hv⟩ := hres _ _ _ _ hr
    cases hv
    have hgl := hr.hl
    obtain ⟨x0, hx0⟩ : ∃ x, gs2[0]? = some x := ⟨_, List.getElem?_eq_getElem (by rw [hgl]; simp [wkL])⟩
    obtain ⟨r1, r2, r3⟩ := hr.ho 0 _ _ hx0 rfl
    have p0 := r3 0 gk rfl
    have p1 := r3 1 g0 rfl
    have p2 := r3 2 g1 rfl
    have p3 := r3 3 g2 rfl
    have p4 := r3 4 g3 rfl
    have e0 : x0 = gk := by rw [hx0] at p0; exact Option.some.inj p0
    subst e0
    have o1 := hr.ho 1 _ _ p1 rfl
    have o2 := hr.ho 2 _ _ p2 rfl
    have o3 := hr.ho 3 _ _ p3 rfl
    have o4 := hr.ho 4 _ _ p4 rfl
    obtain ⟨cs, d1, d2, d3, d4, d5, d6, d7⟩ := o1
    match cs, d5 with
    | [z0, z1, z2, z3, z4, z5], _ =>
      have q0 := d7 0
      have q1 := d7 1
      have q2 := d7 2
      have q3 := d7 3
      have q4 := d7 4
      have q5 := d7 5
      have w0 : z0 = vW := by cases q0 with | ro h => exact h.1
      have w1 : z1 = vN := by cases q1 with | ro h => exact h.1
      have w2 : z2 = g1.v := by cases q2 with | own hh => rw [p2] at hh; cases hh; rfl
      have w3 : z3 = g2.v := by cases q3 with | own hh => rw [p3] at hh; cases hh; rfl
      have w4 : z4 = g3.v := by cases q4 with | own hh => rw [p4] at hh; cases hh; rfl
      have w5 : z5 = .bool st'.l := by cases q5; rfl
      subst w0 w1 w2 w3 w4 w5
      refine ⟨_, hu, rfl, ⟨d1, c1', c2, c3, c4, o2, o3, RO.slrb o4, c8, fun x hx b hb => ?_⟩, hbel, fun b hb hok => ?_⟩
      · have := c9 x hx b hb
        exact ⟨this.1, Nat.lt_of_lt_of_le this.2 hbel.size⟩
      · rcases Nat.lt_or_ge b base with h6 | h6
        · exact hbel.block b h6
        · exact r1 b ((hbl b).2 ⟨hb, h6, hok⟩)
  refine wp_mono (h K vW vN base w w _ _ hrel (Below.refl _ _)) ?_
  intro ev a w' hq
  cases ev with
  | normal =>
    obtain ⟨env, os1, gs1, hr, hd, hbel, hx⟩ := hq
    obtain ⟨u, hu, hw⟩ := fin hr hbel hx
    exact ⟨hd, u, hu, hw⟩
  | exit j => obtain ⟨_, _, _, _, _, _, hx⟩ := hq; exact hx.elim
  | ret =>
    obtain ⟨env, os1, gs1, hr, hd, hbel, hx⟩ := hq
    obtain ⟨u, hu, hw⟩ := fin hr hbel hx
    exact ⟨hd, u, hu, hw⟩
  | goto l => exact (hq : False).elim
  | panic ch => exact (hq : False).elim
  | outgrown => exact (hq : False).elim
theorem AFnB.start {P : Program} {f : FuncId} {fn : Func} {nt : Nat} {T e eb : TypeId} {W : List Int} {N : List (List Int)} {as0 : List Value} {st st' : WS} {rv : Value} (hf : P.funcs[f]? = some fn) (hnt : fn.ntmps = nt) {c : Code} (hb : fn.body = some c) (hnm : (fn.name == "runtime.NumGoroutine") = false)
    (h : ∀ K vW vN, AWp P c (WkEnd P fn T e eb W N vW vN K st' rv) (fun _ _ _ => False) (WkEnd P fn T e eb W N vW vN K st' rv) (Env.start (.optr 1 0 :: as0.map AV.val) (nt - (as0.length + 1))) (.keep 5 K :: wkL T e eb W N vW vN st)) :
    AFnB P f T e eb W N as0 st st' rv := AFnB.of hf hb hnm (by rw [hnt]) rfl h

section
variable {P : Program} {env : Env} {os : List AO} {d : Option Tmp} {ty : TypeId} {pos : String} {af : Array Edge} {g : Option (Nat × Bool)}
set_option maxHeartbeats 2000000 in
theorem c_callb {f : FuncId} {T e eb : TypeId} {W : List Int} {N : List (List Int)} {as0 : List Value} {st st' : WS} {rv : Value} {h0 h1 h2 h3 : Nat} {a0 a1 : AV} (hc : AFnB P f T e eb W N as0 st st' rv) {x : Operand} {xs : List Operand} {ats : Array TypeId} (hx : AV.ev env x = .optr h0 0)
    (o0 : os[h0]? = some (.bx T [a0, a1, .own h1, .own h2, .own h3, .b st.l])) (o1 : os[h1]? = some (.sli e st.f)) (o2 : os[h2]? = some (.sli e st.g)) (o3 : os[h3]? = some (.slr eb (bL st.s))) (hxs : xs.map (AV.ev env) = as0.map AV.val)
    (ra : RdI a0 W) (rn : RdN a1 N) (hne : ((h0 == h1) || (h0 == h2) || (h0 == h3) || (h1 == h2) || (h1 == h3) || (h2 == h3)) = false) :
    COp P ⟨d, .call { callee := .value (.func f), args := (x :: xs).toArray, argTypes := ats }, ty, pos, af, g⟩ env os (fun r e' o => r = .val rv ∧ e' = env ∧ o = (((os.set h0 (.bx T [a0, a1, .own h1, .own h2, .own h3, .b st'.l])).set h1 (.sli e st'.f)).set h2 (.sli e st'.g)).set h3 (.slr eb (bL st'.s))) := by
  simp only [Bool.or_eq_false_iff, beq_eq_false_iff_ne, ne_eq] at hne
  obtain ⟨⟨⟨⟨⟨n01, n02⟩, n03⟩, n12⟩, n13⟩, n23⟩ := hne
  intro base w gs tm hr
  have gget : ∀ {h : Nat} {o : AO}, os[h]? = some o → ∃ x, gs[h]? = some x := fun {h o} ho => ⟨_, List.getElem?_eq_getElem (by rw [hr.hl]; exact (List.getElem?_eq_some_iff.1 ho).1)⟩
  obtain ⟨g0, q0⟩ := gget o0
  obtain ⟨g1, q1⟩ := gget o1
  obtain ⟨g2, q2⟩ := gget o2
  obtain ⟨g3, q3⟩ := gget o3
  have r0 := hr.ho _ _ _ q0 o0
  have r1 := hr.ho _ _ _ q1 o1
  have r2 := hr.ho _ _ _ q2 o2
  have r3 := hr.ho _ _ _ q3 o3
  obtain ⟨cs, d1, d2, d3, d4, d5, d6, d7⟩ := r0
  match cs, d5 with
  | [z0, z1, z2, z3, z4, z5], _ =>
    have t0 : RV w (okOf gs os) gs z0 a0 := d7 0
    have t1 : RV w (okOf gs os) gs z1 a1 := d7 1
    have t2 : RV w (okOf gs os) gs z2 (.own h1) := d7 2
    have t3 : RV w (okOf gs os) gs z3 (.own h2) := d7 3
    have t4 : RV w (okOf gs os) gs z4 (.own h3) := d7 4
    have t5 : RV w (okOf gs os) gs z5 (.b st.l) := d7 5
    have w2 : z2 = g1.v := by cases t2 with | own hh => rw [q1] at hh; cases hh; rfl
    have w3 : z3 = g2.v := by cases t3 with | own hh => rw [q2] at hh; cases hh; rfl
    have w4 : z4 = g3.v := by cases t4 with | own hh => rw [q3] at hh; cases hh; rfl
    have w5 : z5 = .bool st.l := by cases t5; rfl
    subst w2 w3 w4 w5
    have hw0 := ra _ _ _ _ t0
    have hw1 := rn _ _ _ _ t1
    have hin : ∀ a ∈ [g0, g1, g2, g3], ∃ (h : Nat) (o : AO), gs[h]? = some a ∧ os[h]? = some o ∧ o.live := by
      intro a ha
      simp only [List.mem_cons, List.not_mem_nil, or_false] at ha
      rcases ha with rfl | rfl | rfl | rfl
      · exact ⟨h0, _, q0, o0, trivial⟩
      · exact ⟨h1, _, q1, o1, trivial⟩
      · exact ⟨h2, _, q2, o2, trivial⟩
      · exact ⟨h3, _, q3, o3, trivial⟩
    have okb : ∀ b, okOf gs os b → okB g0 g1 g2 g3 b := fun b hb a ha hm => by
      obtain ⟨h, o, p1, p2, p3⟩ := hin a ha
      exact hb h a o p1 p2 p3 hm
    have kpb : Keeps (okOf gs os) (okB g0 g1 g2 g3) w w := fun b hb _ => ⟨okb b hb, rfl⟩
    have dis : ∀ {i j : Nat} {a b : Gh} {p q : AO}, i ≠ j → gs[i]? = some a → gs[j]? = some b → os[i]? = some p → os[j]? = some q → p.live → q.live → ∀ c, c ∈ a.bl → c ∉ b.bl := fun hij x1 x2 y1 y2 l1 l2 => hr.hd _ _ _ _ _ _ hij x1 x2 y1 y2 l1.ne l2.ne
    have hWk : Wk T e eb base w g0 g1 g2 g3 z0 z1 st := by
      refine ⟨d1, ⟨d6 _ (by simp), d6 _ (by simp)⟩, d2, d3, d4, r1, r2, RO.slrb r3, ?_, fun a ha c hc => ?_⟩
      · intro i j a b hij ha hb
        match i, j with
        | 0, 0 => omega
        | 0, 1 => cases ha; cases hb; exact dis n01 q0 q1 o0 o1 trivial trivial
        | 0, 2 => cases ha; cases hb; exact dis n02 q0 q2 o0 o2 trivial trivial
        | 0, 3 => cases ha; cases hb; exact dis n03 q0 q3 o0 o3 trivial trivial
        | 1, 0 => cases ha; cases hb; exact dis (Ne.symm n01) q1 q0 o1 o0 trivial trivial
        | 1, 1 => omega
        | 1, 2 => cases ha; cases hb; exact dis n12 q1 q2 o1 o2 trivial trivial
        | 1, 3 => cases ha; cases hb; exact dis n13 q1 q3 o1 o3 trivial trivial
        | 2, 0 => cases ha; cases hb; exact dis (Ne.symm n02) q2 q0 o2 o0 trivial trivial
        | 2, 1 => cases ha; cases hb; exact dis (Ne.symm n12) q2 q1 o2 o1 trivial trivial
        | 2, 2 => omega
        | 2, 3 => cases ha; cases hb; exact dis n23 q2 q3 o2 o3 trivial trivial
        | 3, 0 => cases ha; cases hb; exact dis (Ne.symm n03) q3 q0 o3 o0 trivial trivial
        | 3, 1 => cases ha; cases hb; exact dis (Ne.symm n13) q3 q1 o3 o1 trivial trivial
        | 3, 2 => cases ha; cases hb; exact dis (Ne.symm n23) q3 q2 o3 o2 trivial trivial
        | 3, 3 => omega
        | i + 4, _ => simp at ha
        | 0, j + 4 => simp at hb
        | 1, j + 4 => simp at hb
        | 2, j + 4 => simp at hb
        | 3, j + 4 => simp at hb
      · obtain ⟨h, o, p1, p2, p3⟩ := hin a ha
        exact hr.hn h a o p1 p2 p3.ne c hc
    have hxv := hr.ev x
    rw [hx] at hxv
    have ex : Act.eval ⟨tm, []⟩ x = g0.v := by
      generalize Act.eval ⟨tm, []⟩ x = v at hxv
      cases hxv with
      | optr hh => rw [q0] at hh; cases hh; exact d4.symm
    have exs : xs.map (Act.eval ⟨tm, []⟩) = as0 := by
      have hlen : xs.length = as0.length := by simpa using congrArg List.length hxs
      apply List.ext_getElem (by simpa using hlen)
      intro i k1 k2
      have k3 : i < xs.length := by simpa using k1
      have : AV.ev env xs[i] = .val as0[i] := by
        have := congrArg (fun l => l[i]?) hxs
        simpa [List.getElem?_eq_getElem k3, List.getElem?_eq_getElem k2] using this
      simpa using hr.evv this
    refine ⟨f, _, run_call hc.1 (x :: xs) ats _ rfl w, ?_⟩
    have eargs : ((x :: xs).map (Act.eval ⟨tm, []⟩)).toArray = (g0.v :: as0).toArray := by rw [List.map_cons, ex, exs]
    rw [eargs]
    refine (hc.2 base w g0 g1 g2 g3 z0 z1 hr.hb hWk (hw0.mono kpb) (hw1.mono kpb)).mono ?_
    rintro ev w' ⟨rfl, hWk', hbel, hfr⟩
    obtain ⟨c1, c1', c2, c3, c4, c5, c6, c7, c8, c9⟩ := hWk'
    have l0 := (List.getElem?_eq_some_iff.1 o0).1
    have l1 := (List.getElem?_eq_some_iff.1 o1).1
    have l2 := (List.getElem?_eq_some_iff.1 o2).1
    have l3 := (List.getElem?_eq_some_iff.1 o3).1
    have oget : ∀ i : Nat, ((((os.set h0 (.bx T [a0, a1, .own h1, .own h2, .own h3, .b st'.l])).set h1 (.sli e st'.f)).set h2 (.sli e st'.g)).set h3 (.slr eb (bL st'.s)))[i]? =
        if i = h3 then some (.slr eb (bL st'.s)) else if i = h2 then some (.sli e st'.g) else if i = h1 then some (.sli e st'.f) else if i = h0 then some (.bx T [a0, a1, .own h1, .own h2, .own h3, .b st'.l]) else os[i]? := by
      intro i
      simp only [List.getElem?_set, List.length_set]
      by_cases e3 : h3 = i
      · subst e3; simp [l3]
      · have e3' : ¬ i = h3 := fun e => e3 e.symm
        by_cases e2 : h2 = i
        · subst e2; simp [l2, e3, e3']
        · have e2' : ¬ i = h2 := fun e => e2 e.symm
          by_cases e1 : h1 = i
          · subst e1; simp [l1, e3, e3', e2, e2']
          · have e1' : ¬ i = h1 := fun e => e1 e.symm
            by_cases e0 : h0 = i
            · subst e0; simp [l0, e3, e3', e2, e2', e1, e1']
            · have e0' : ¬ i = h0 := fun e => e0 e.symm
              simp [e3, e3', e2, e2', e1, e1', e0, e0']
    refine ⟨rv, .val rv, env, _, gs, rfl, ⟨rfl, rfl, rfl⟩, hr.upds [h0, h1, h2, h3] (by simp) (fun i hi => ?_) (fun i hi o o' ho ho' => ?_) (fun b hb hn => ?_) hbel.size (fun kp i hi gx o' hgx ho' => ?_), .val rv, hbel⟩
    · simp only [List.mem_cons, List.not_mem_nil, or_false, not_or] at hi
      rw [oget, if_neg hi.2.2.2, if_neg hi.2.2.1, if_neg hi.2.1, if_neg hi.1]
    · rw [oget] at ho'
      simp only [List.mem_cons, List.not_mem_nil, or_false] at hi
      rcases hi with rfl | rfl | rfl | rfl
      · rw [if_neg n03, if_neg n02, if_neg n01, if_pos rfl] at ho'
        rw [o0] at ho; cases ho; cases ho'; exact ⟨trivial, trivial⟩
      · rw [if_neg n13, if_neg n12, if_pos rfl] at ho'
        rw [o1] at ho; cases ho; cases ho'; exact ⟨trivial, trivial⟩
      · rw [if_neg n23, if_pos rfl] at ho'
        rw [o2] at ho; cases ho; cases ho'; exact ⟨trivial, trivial⟩
      · rw [if_pos rfl] at ho'
        rw [o3] at ho; cases ho; cases ho'; exact ⟨trivial, trivial⟩
    · refine hfr b hb fun a ha => ?_
      simp only [List.mem_cons, List.not_mem_nil, or_false] at ha
      rcases ha with rfl | rfl | rfl | rfl
      · exact hn h0 (by simp) _ q0
      · exact hn h1 (by simp) _ q1
      · exact hn h2 (by simp) _ q2
      · exact hn h3 (by simp) _ q3
    · rw [oget] at ho'
      simp only [List.mem_cons, List.not_mem_nil, or_false] at hi
      rcases hi with rfl | rfl | rfl | rfl
      · rw [if_neg n03, if_neg n02, if_neg n01, if_pos rfl] at ho'
        rw [q0] at hgx; cases hgx; cases ho'
        refine ⟨[z0, z1, g1.v, g2.v, g3.v, .bool st'.l], c1, c2, c3, c4, rfl, ?_, fun j => ?_⟩
        · intro z hz
          simp only [List.mem_cons, List.not_mem_nil, or_false] at hz
          rcases hz with rfl | rfl | rfl | rfl | rfl | rfl
          · exact c1'.1
          · exact c1'.2
          · exact d6 _ (by simp)
          · exact d6 _ (by simp)
          · exact d6 _ (by simp)
          · rfl
        · match j with
          | 0 => exact t0.mono kp fun _ _ h => h
          | 1 => exact t1.mono kp fun _ _ h => h
          | 2 => exact .own q1
          | 3 => exact .own q2
          | 4 => exact .own q3
          | 5 => exact .val _
          | j + 6 => exact .any _
      · rw [if_neg n13, if_neg n12, if_pos rfl] at ho'
        rw [q1] at hgx; cases hgx; cases ho'; exact c5
      · rw [if_neg n23, if_pos rfl] at ho'
        rw [q2] at hgx; cases hgx; cases ho'; exact c6
      · rw [if_pos rfl] at ho'
        rw [q3] at hgx; cases hgx; cases ho'; exact RO.slrb c7
end

section
variable {P : Program} {env : Env} {os : List AO} {d : Tmp} {ty : TypeId} {pos : String} {af : Array Edge} {g : Option (Nat × Bool)} {l rest : List Oper} {K : APost} {q : Md}
theorem w_callb {f : FuncId} {T e eb : TypeId} {W : List Int} {N : List (List Int)} {as0 : List Value} {st st' : WS} {rv : Value} {h0 h1 h2 h3 : Nat} {a0 a1 : AV} {x : Operand} {xs : List Operand} {ats : Array TypeId} {fl gl : List Int} {sl : List Bool} {b : Bool} (hc : AFnB P f T e eb W N as0 st st' rv) (hx : evo env x = some (.optr h0 0))
    (o0 : os[h0]? = some (.bx T [a0, a1, .own h1, .own h2, .own h3, .b b])) (o1 : os[h1]? = some (.sli e fl)) (o2 : os[h2]? = some (.sli e gl)) (o3 : os[h3]? = some (.slr eb (bL sl))) (hst : st = ⟨fl, gl, sl, b⟩) (hxs : xs.map (AV.ev env) = as0.map AV.val)
    (ra : RdI a0 W) (rn : RdN a1 N) (hne : ((h0 == h1) || (h0 == h2) || (h0 == h3) || (h1 == h2) || (h1 == h3) || (h2 == h3)) = false)
    (h' : AOps P .seq l rest K (env.up d (.val rv)) ((((os.set h0 (.bx T [a0, a1, .own h1, .own h2, .own h3, .b st'.l])).set h1 (.sli e st'.f)).set h2 (.sli e st'.g)).set h3 (.slr eb (bL st'.s)))) :
    AOps P .seq l (⟨some d, .call { callee := .value (.func f), args := (x :: xs).toArray, argTypes := ats }, ty, pos, af, none⟩ :: rest) K env os := by
  subst hst
  exact AOps.ca (c_callb hc (ev_of hx) o0 o1 o2 o3 hxs ra rn hne) fun r e' o ⟨h1, h2, h3⟩ => by subst h1; subst h2; subst h3; exact h'
theorem QOp.weak {o : Oper} {a a' : AV} {b : Bool} (h : QOp P b o env os a) (hw : ∀ w ok gs v, RV w ok gs v a → RV w ok gs v a') : QOp P b o env os a' := by
  unfold QOp at *
  exact fun base w gs tm hr => let ⟨v, h1, h2⟩ := h base w gs tm hr; ⟨v, hw _ _ _ _ h1, h2⟩
/-- A field that is read: its numbers, its rows. -/
theorem w_ldbi {t : TypeId} [TCell P t] {x : Operand} {h i : Nat} {T : TypeId} {avs : List AV} {u : Value} {W : List Int} (hw : wantedA l env ⟨some d, .load t x, ty, pos, af, g⟩ = some true) (hq : q.wl = false) (hx : evo env x = some (.optr h i)) (hs : os[h]? = some (.bx T avs)) (hi : avs[i]? = some (.ro (roI u W)))
    (h' : AOps P q l rest K (env.up d (.ints W)) os) : AOps P q l (⟨some d, .load t x, ty, pos, af, g⟩ :: rest) K env os :=
  AOps.qo hw (by rw [hq]; exact (QOp.cast (gdl hi) (q_load_bx (ev_of hx) hs (lt_of_get hi))).weak fun _ _ _ _ h => .ints (rdI_ro u W _ _ _ _ h)) h'
theorem w_ldbn {t : TypeId} [TCell P t] {x : Operand} {h i : Nat} {T : TypeId} {avs : List AV} {u : Value} {N : List (List Int)} (hw : wantedA l env ⟨some d, .load t x, ty, pos, af, g⟩ = some true) (hq : q.wl = false) (hx : evo env x = some (.optr h i)) (hs : os[h]? = some (.bx T avs)) (hi : avs[i]? = some (.ro (roN u N)))
    (h' : AOps P q l rest K (env.up d (.intss N)) os) : AOps P q l (⟨some d, .load t x, ty, pos, af, g⟩ :: rest) K env os :=
  AOps.qo hw (by rw [hq]; exact (QOp.cast (gdl hi) (q_load_bx (ev_of hx) hs (lt_of_get hi))).weak fun _ _ _ _ h => .intss (rdN_ro u N _ _ _ _ h)) h'
end
end Go.Proofs.Ytbalbiliejjnoaa
/-
  A search in depth finds the determinants of branches. No condition.
-/
namespace Go.Proofs.Ytbalbiliejjnoaa
open Go Go.RowKit

def WS.sn (s : WS) (x : Int) : Bool := s.s.getD x.toNat false
def WS.mark (s : WS) (v : Int) : WS := { s with s := s.s.set v.toNat true }
def WS.put (s : WS) (v p r : Int) : WS := { s with f := s.f.set v.toNat r, g := s.g.set v.toNat p }
def WS.big (s : WS) : WS := { s with l := true }
def WS.cnt (s : WS) : Nat := (s.s.filter fun b => !b).length
/-- The branches of a vertex, one after the other. -/
def lpF (vis : Int → WS → WS) : List Int → WS → Int → Int → WS × Int × Int
  | [], s, p, r => (s, p, r)
  | c :: cs, s, p, r =>
    if s.sn c = true then lpF vis cs s p r
    else if okS p r (geti (vis c s).f c) (geti (vis c s).g c) = true then lpF vis cs (vis c s) (p * geti (vis c s).f c) (r * geti (vis c s).f c - p * geti (vis c s).g c)
    else lpF vis cs (vis c s).big 0 0
def visF (W : List Int) (near : Int → List Int) : Nat → Int → WS → WS
  | 0, _, s => s
  | k + 1, v, s =>
    let t := lpF (visF W near k) (near v) (s.mark v) 1 (-geti W v)
    t.1.put v t.2.1 t.2.2

structure WOk (n : Nat) (s : WS) : Prop where
  lf : s.f.length = n
  lg : s.g.length = n
  ls : s.s.length = n
  bf : ∀ x ∈ s.f, inM x
  bg : ∀ x ∈ s.g, inM x
/-- Nothing that has been seen is forgotten. -/
structure WLe (s t : WS) : Prop where
  sn : ∀ x : Int, s.sn x = true → t.sn x = true
  cnt : t.cnt ≤ s.cnt
  l : s.l = true → t.l = true
theorem WLe.refl (s : WS) : WLe s s := ⟨fun _ h => h, Nat.le_refl _, fun h => h⟩
theorem WLe.trans {a b c : WS} (h1 : WLe a b) (h2 : WLe b c) : WLe a c := ⟨fun x h => h2.sn x (h1.sn x h), Nat.le_trans h2.cnt h1.cnt, fun h => h2.l (h1.l h)⟩
theorem sn_mark {n : Nat} {s : WS} (h : s.s.length = n) {v : Int} (hv : 0 ≤ v ∧ v < n) {x : Int} (hx : 0 ≤ x) : (s.mark v).sn x = if x = v then true else s.sn x := by
  unfold WS.mark WS.sn
  simp only [List.getD_eq_getElem?_getD, List.getElem?_set]
  by_cases e : x = v
  · subst e; rw [if_pos rfl, if_pos (by omega), if_pos rfl]; rfl
  · rw [if_neg (by omega), if_neg e]
theorem cnt_set : ∀ (l : List Bool) (i : Nat), i < l.length → l.getD i false = false → ((l.set i true).filter fun b => !b).length + 1 = (l.filter fun b => !b).length
  | [], i, h, _ => by simp at h
  | b :: l, 0, _, h => by
    have : b = false := h
    subst this
    simp
  | b :: l, i + 1, h, h2 => by
    have ih := cnt_set l i (by simpa using h) h2
    rw [List.set_cons_succ]
    cases b <;> simp <;> omega
theorem cnt_mark {n : Nat} {s : WS} (h : s.s.length = n) {v : Int} (hv : 0 ≤ v ∧ v < n) (hn : s.sn v = false) : (s.mark v).cnt + 1 = s.cnt :=
  cnt_set s.s v.toNat (by omega) hn
theorem cnt_pos {n : Nat} {s : WS} (h : s.s.length = n) {v : Int} (hv : 0 ≤ v ∧ v < n) (hn : s.sn v = false) : 1 ≤ s.cnt := by
  have := cnt_mark h hv hn; omega
theorem le_mark {n : Nat} {s : WS} (h : s.s.length = n) {v : Int} (hv : 0 ≤ v ∧ v < n) (hn : s.sn v = false) : WLe s (s.mark v) := by
  refine ⟨fun x hx => ?_, by have := cnt_mark h hv hn; omega, fun h => h⟩
  unfold WS.mark WS.sn at *
  simp only [List.getD_eq_getElem?_getD, List.getElem?_set] at *
  by_cases e : v.toNat = x.toNat
  · rw [if_pos e, if_pos (by omega)]; rfl
  · rw [if_neg e]; exact hx
theorem ok_mark {n : Nat} {s : WS} (h : WOk n s) (v : Int) : WOk n (s.mark v) := ⟨h.lf, h.lg, by simp [WS.mark, h.ls], h.bf, h.bg⟩
theorem ok_put {n : Nat} {s : WS} (h : WOk n s) (v : Int) {p r : Int} (hp : inM p) (hr : inM r) : WOk n (s.put v p r) := by
  refine ⟨by simp [WS.put, h.lf], by simp [WS.put, h.lg], h.ls, fun x hx => ?_, fun x hx => ?_⟩
  · rcases List.mem_or_eq_of_mem_set hx with hx | rfl
    · exact h.bf x hx
    · exact hr
  · rcases List.mem_or_eq_of_mem_set hx with hx | rfl
    · exact h.bg x hx
    · exact hp
theorem okS_in {p r f g : Int} (h : okS p r f g = true) : inM (p * f) ∧ inM (r * f - p * g) := by
  unfold okS at h
  simp only [Bool.and_eq_true, decide_eq_true_eq] at h
  exact ⟨tok_in h.1.2, h.2⟩
theorem inM0 : inM 0 := by unfold inM; omega

/-- The loop keeps what each visit keeps. -/
theorem lpF_ok {n : Nat} {vis : Int → WS → WS} (m : Nat) (hv : ∀ (c : Int) s, WOk n s → s.cnt ≤ m → 0 ≤ c ∧ c < n → s.sn c = false → WOk n (vis c s) ∧ WLe s (vis c s)) :
    ∀ (cs : List Int) (s : WS) (p r : Int), (∀ c ∈ cs, 0 ≤ c ∧ c < n) → WOk n s → s.cnt ≤ m → inM p → inM r →
      WOk n (lpF vis cs s p r).1 ∧ WLe s (lpF vis cs s p r).1 ∧ inM (lpF vis cs s p r).2.1 ∧ inM (lpF vis cs s p r).2.2
  | [], s, p, r, _, h, _, hp, hr => ⟨h, WLe.refl s, hp, hr⟩
  | c :: cs, s, p, r, hc, h, hm, hp, hr => by
    have hcs : ∀ c ∈ cs, 0 ≤ c ∧ c < n := fun x hx => hc x (by simp [hx])
    rw [lpF]
    by_cases h1 : s.sn c = true
    · rw [if_pos h1]; exact lpF_ok m hv cs s p r hcs h hm hp hr
    · rw [if_neg h1]
      obtain ⟨a1, a2⟩ := hv c s h hm (hc c (by simp)) (by simpa using h1)
      have a3 : (vis c s).cnt ≤ m := Nat.le_trans a2.cnt hm
      by_cases h2 : okS p r (geti (vis c s).f c) (geti (vis c s).g c) = true
      · rw [if_pos h2]
        obtain ⟨b1, b2, b3, b4⟩ := lpF_ok m hv cs (vis c s) _ _ hcs a1 a3 (okS_in h2).1 (okS_in h2).2
        exact ⟨b1, a2.trans b2, b3, b4⟩
      · rw [if_neg h2]
        obtain ⟨b1, b2, b3, b4⟩ := lpF_ok m hv cs (vis c s).big 0 0 hcs ⟨a1.lf, a1.lg, a1.ls, a1.bf, a1.bg⟩ a3 inM0 inM0
        exact ⟨b1, a2.trans ((show WLe (vis c s) (vis c s).big from ⟨fun _ h => h, Nat.le_refl _, fun _ => rfl⟩).trans b2), b3, b4⟩
theorem visF_ok {n : Nat} {W : List Int} {near : Int → List Int} (hW : ∀ v : Int, -1000 ≤ geti W v ∧ geti W v ≤ 1000) (hF : Fst n near) : ∀ (k : Nat) (v : Int) (s : WS), WOk n s → s.cnt ≤ k → 0 ≤ v ∧ v < n → s.sn v = false → WOk n (visF W near k v s) ∧ WLe s (visF W near k v s)
  | 0, v, s, h, hk, hv, hn => by have := cnt_pos h.ls hv hn; omega
  | k + 1, v, s, h, hk, hv, hn => by
    have hw := hW v
    have hm := cnt_mark h.ls hv hn
    obtain ⟨b1, b2, b3, b4⟩ := lpF_ok k (fun c t ht hc h1 h2 => visF_ok hW hF k c t ht hc h1 h2) (near v) (s.mark v) 1 (-geti W v) (fun c hc => (hF.bnd v c hc).1) (ok_mark h v) (by omega) (by unfold inM; omega) (by unfold inM; omega)
    exact ⟨ok_put b1 v b3 b4, (le_mark h.ls hv hn).trans (b2.trans ⟨fun _ h => h, Nat.le_refl _, fun h => h⟩)⟩

section
variable {n : Nat} {near : Int → List Int} {r : Int} {o p W : List Int}
/-- What a visit of v has done. -/
structure Done (n : Nat) (near : Int → List Int) (W : List Int) (r : Int) (o p : List Int) (D : Int → Prop) (s t : WS) : Prop where
  sn : ∀ x : Int, 0 ≤ x → (t.sn x = true ↔ s.sn x = true ∨ D x)
  fr : ∀ x : Int, 0 ≤ x → ¬ D x → geti t.f x = geti s.f x ∧ geti t.g x = geti s.g x
  vl : ∀ x : Int, D x → ∀ a b, FG n near W p x = some (a, b) → geti t.f x = b ∧ geti t.g x = a

/-- The visits of the children dn of v, after v was marked. -/
structure LpI (n : Nat) (near : Int → List Int) (W : List Int) (r : Int) (o p : List Int) (v : Int) (s : WS) (dn : List Int) (t : WS) (a b : Int) : Prop where
  sn : ∀ x : Int, 0 ≤ x → (t.sn x = true ↔ s.sn x = true ∨ x = v ∨ ∃ c ∈ dn, c ≠ geti p v ∧ Dsc r o p c x)
  fr : ∀ x : Int, 0 ≤ x → (¬ ∃ c ∈ dn, c ≠ geti p v ∧ Dsc r o p c x) → geti t.f x = geti s.f x ∧ geti t.g x = geti s.g x
  vl : ∀ x : Int, (∃ c ∈ dn, c ≠ geti p v ∧ Dsc r o p c x) → ∀ a b, FG n near W p x = some (a, b) → geti t.f x = b ∧ geti t.g x = a
  lg : t.l = true ↔ s.l = true ∨ (∃ x, (∃ c ∈ dn, c ≠ geti p v ∧ Dsc r o p c x) ∧ FG n near W p x = none) ∨ fO (FG n near W p) (dn.filter fun u => decide (u ≠ geti p v)) (1, -geti W v) = none
  pr : ∀ x y, fO (FG n near W p) (dn.filter fun u => decide (u ≠ geti p v)) (1, -geti W v) = some (x, y) → a = x ∧ b = y
  ok : WOk n t
  le : WLe (s.mark v) t
  ia : inM a
  ib : inM b

theorem lp_run (hF : Fst n near) (hW : ∀ v : Int, -1000 ≤ geti W v ∧ geti W v ≤ 1000) (h : Tr n near r o p) {v : Int} (hv : v ∈ o) {k : Nat} {s : WS} (hs : ∀ x, Dsc r o p v x → s.sn x = false) (hp : v ≠ r → s.sn (geti p v) = true) (hk : (s.mark v).cnt ≤ k)
    (hvis : ∀ c ∈ chl near p v, ∀ t : WS, WOk n t → t.cnt ≤ k → (∀ x, Dsc r o p c x → t.sn x = false) → t.sn v = true →
      Done n near W r o p (Dsc r o p c) t (visF W near k c t) ∧ ((visF W near k c t).l = true ↔ t.l = true ∨ ∃ x, Dsc r o p c x ∧ FG n near W p x = none)) :
    ∀ (rest dn : List Int) (t : WS) (a b : Int), near v = dn ++ rest → LpI n near W r o p v s dn t a b →
      LpI n near W r o p v s (near v) (lpF (visF W near k) rest t a b).1 (lpF (visF W near k) rest t a b).2.1 (lpF (visF W near k) rest t a b).2.2
  | [], dn, t, a, b, e, hI => by rw [List.append_nil] at e; rw [e]; exact hI
  | c :: rest, dn, t, a, b, e, hI => by
    have e' : near v = (dn ++ [c]) ++ rest := by rw [e]; simp
    have hcn : c ∈ near v := by rw [e]; simp
    obtain ⟨⟨c0, c1⟩, ⟨v0, v1⟩, hcv⟩ := hF.bnd v c hcn
    have hnd := hF.nd v
    rw [e] at hnd
    have hcd : c ∉ dn := fun hx => (List.nodup_append.1 hnd).2.2 c hx c (by simp) rfl
    have hdn : ∀ x ∈ dn, x ∈ near v := fun x hx => by rw [e]; simp [hx]
    rw [lpF]
    by_cases hup : c = geti p v
    · have hvr : v ≠ r := fun hh => by rw [hh, h.pr] at hup; omega
      have hseen : t.sn c = true := (hI.sn c c0).2 (.inl (by rw [hup]; exact hp hvr))
      rw [if_pos hseen]
      have hex : ∀ x, (∃ d ∈ dn ++ [c], d ≠ geti p v ∧ Dsc r o p d x) ↔ (∃ d ∈ dn, d ≠ geti p v ∧ Dsc r o p d x) := fun x => by
        constructor
        · rintro ⟨d, hd, h1, h2⟩
          rcases List.mem_append.1 hd with hd | hd
          · exact ⟨d, hd, h1, h2⟩
          · exact absurd ((List.mem_singleton.1 hd).trans hup) h1
        · rintro ⟨d, hd, h1, h2⟩; exact ⟨d, by simp [hd], h1, h2⟩
      have hfl : ((dn ++ [c]).filter fun u => decide (u ≠ geti p v)) = dn.filter fun u => decide (u ≠ geti p v) := by
        rw [List.filter_append, List.filter_cons_of_neg (by simpa using hup)]; simp
      refine lp_run hF hW h hv hs hp hk hvis rest _ t a b e' ⟨fun x hx => ?_, fun x hx hn => ?_, fun x hx => ?_, ?_, ?_, hI.ok, hI.le, hI.ia, hI.ib⟩
      · rw [hI.sn x hx, hex]
      · exact hI.fr x hx fun hh => hn ((hex x).2 hh)
      · exact hI.vl x ((hex x).1 hx)
      · rw [hI.lg, hfl]; simp only [hex]
      · rw [hfl]; exact hI.pr
    · have hc : c ∈ chl near p v := List.mem_filter.2 ⟨hcn, decide_eq_true hup⟩
      obtain ⟨_, _, c3, c4, c5⟩ := chl_mem h hv hc
      have hfree : ∀ x, Dsc r o p c x → t.sn x = false := by
        intro x hx
        have hx0 := h.rng x hx.mem
        cases hh : t.sn x with
        | false => rfl
        | true =>
          rcases (hI.sn x hx0.1).1 hh with h1 | h1 | ⟨d, hd, h1, h2⟩
          · rw [hs x (Dsc.child h hv hc hx)] at h1; cases h1
          · subst h1; exact absurd hx (Dsc.notup h hv hc)
          · have hd' : d ∈ chl near p v := List.mem_filter.2 ⟨hdn d hd, decide_eq_true h1⟩
            exact absurd (Dsc.disj h hv hd' hc h2 hx ▸ hd) hcd
      have hns : ¬ t.sn c = true := by rw [hfree c (.refl c3)]; simp
      rw [if_neg hns]
      have htk : t.cnt ≤ k := Nat.le_trans hI.le.cnt hk
      have htv : t.sn v = true := (hI.sn v v0).2 (.inr (.inl rfl))
      obtain ⟨D, hl⟩ := hvis c hc t hI.ok htk hfree htv
      obtain ⟨o1, o2⟩ := visF_ok hW hF k c t hI.ok htk ⟨c0, c1⟩ (hfree c (.refl c3))
      generalize visF W near k c t = u at *
      have hex : ∀ x, (∃ d ∈ dn ++ [c], d ≠ geti p v ∧ Dsc r o p d x) ↔ (∃ d ∈ dn, d ≠ geti p v ∧ Dsc r o p d x) ∨ Dsc r o p c x := fun x => by
        constructor
        · rintro ⟨d, hd, h1, h2⟩
          rcases List.mem_append.1 hd with hd | hd
          · exact .inl ⟨d, hd, h1, h2⟩
          · rw [List.mem_singleton.1 hd] at h2; exact .inr h2
        · rintro (⟨d, hd, h1, h2⟩ | h2)
          · exact ⟨d, by simp [hd], h1, h2⟩
          · exact ⟨c, by simp, hup, h2⟩
      have hfl : ((dn ++ [c]).filter fun u => decide (u ≠ geti p v)) = (dn.filter fun u => decide (u ≠ geti p v)) ++ [c] := by
        rw [List.filter_append, List.filter_cons_of_pos (by simpa using hup)]; simp
      have hdj : ∀ x, (∃ d ∈ dn, d ≠ geti p v ∧ Dsc r o p d x) → ¬ Dsc r o p c x := by
        rintro x ⟨d, hd, h1, h2⟩ hx
        exact hcd (Dsc.disj h hv (List.mem_filter.2 ⟨hdn d hd, decide_eq_true h1⟩) hc h2 hx ▸ hd)
      have snx : ∀ x : Int, 0 ≤ x → (u.sn x = true ↔ s.sn x = true ∨ x = v ∨ ∃ d ∈ dn ++ [c], d ≠ geti p v ∧ Dsc r o p d x) := fun x hx => by
        rw [D.sn x hx, hI.sn x hx, hex]
        constructor
        · rintro ((h1 | h1 | h1) | h1)
          · exact .inl h1
          · exact .inr (.inl h1)
          · exact .inr (.inr (.inl h1))
          · exact .inr (.inr (.inr h1))
        · rintro (h1 | h1 | h1 | h1)
          · exact .inl (.inl h1)
          · exact .inl (.inr (.inl h1))
          · exact .inl (.inr (.inr h1))
          · exact .inr h1
      have frx : ∀ x : Int, 0 ≤ x → (¬ ∃ d ∈ dn ++ [c], d ≠ geti p v ∧ Dsc r o p d x) → geti u.f x = geti s.f x ∧ geti u.g x = geti s.g x := fun x hx hn => by
        rw [hex] at hn
        have h1 := D.fr x hx fun hh => hn (.inr hh)
        have h2 := hI.fr x hx fun hh => hn (.inl hh)
        exact ⟨h1.1.trans h2.1, h1.2.trans h2.2⟩
      have vlx : ∀ x : Int, (∃ d ∈ dn ++ [c], d ≠ geti p v ∧ Dsc r o p d x) → ∀ a b, FG n near W p x = some (a, b) → geti u.f x = b ∧ geti u.g x = a := fun x hx a b hab => by
        rw [hex] at hx
        rcases hx with hx | hx
        · have h0 : 0 ≤ x := by obtain ⟨d, _, _, h2⟩ := hx; exact (h.rng x h2.mem).1
          have h1 := D.fr x h0 (hdj x hx)
          have h2 := hI.vl x hx a b hab
          exact ⟨h1.1.trans h2.1, h1.2.trans h2.2⟩
        · exact D.vl x hx a b hab
      have lgx : u.l = true ↔ s.l = true ∨ (∃ x, (∃ d ∈ dn ++ [c], d ≠ geti p v ∧ Dsc r o p d x) ∧ FG n near W p x = none) ∨ fO (FG n near W p) (dn.filter fun u => decide (u ≠ geti p v)) (1, -geti W v) = none := by
        rw [hl, hI.lg]
        simp only [hex]
        constructor
        · rintro ((h1 | ⟨x, h1, h2⟩ | h1) | ⟨x, h1, h2⟩)
          · exact .inl h1
          · exact .inr (.inl ⟨x, .inl h1, h2⟩)
          · exact .inr (.inr h1)
          · exact .inr (.inl ⟨x, .inr h1, h2⟩)
        · rintro (h1 | ⟨x, h1 | h1, h2⟩ | h1)
          · exact .inl (.inl h1)
          · exact .inl (.inr (.inl ⟨x, h1, h2⟩))
          · exact .inr ⟨x, h1, h2⟩
          · exact .inl (.inr (.inr h1))
      have fox := fO_app (FG n near W p) (dn.filter fun u => decide (u ≠ geti p v)) [c] (1, -geti W v)
      rw [← hfl] at fox
      by_cases hok : okS a b (geti u.f c) (geti u.g c) = true
      · rw [if_pos hok]
        refine lp_run hF hW h hv hs hp hk hvis rest _ u _ _ e' ⟨snx, frx, vlx, ?_, ?_, o1, hI.le.trans o2, (okS_in hok).1, (okS_in hok).2⟩
        · rw [lgx, fox]
          constructor
          · rintro (h1 | h1 | h1)
            · exact .inl h1
            · exact .inr (.inl h1)
            · exact .inr (.inr (by rw [h1]; rfl))
          · rintro (h1 | h1 | h1)
            · exact .inl h1
            · exact .inr (.inl h1)
            · cases hd : fO (FG n near W p) (dn.filter fun u => decide (u ≠ geti p v)) (1, -geti W v) with
              | none => exact .inr (.inr rfl)
              | some xy =>
                obtain ⟨x, y⟩ := xy
                rw [hd] at h1
                cases hfc : FG n near W p c with
                | none => exact .inr (.inl ⟨c, (hex c).2 (.inr (.refl c3)), hfc⟩)
                | some gf =>
                  obtain ⟨g, f⟩ := gf
                  obtain ⟨q1, q2⟩ := D.vl c (.refl c3) g f hfc
                  obtain ⟨q3, q4⟩ := hI.pr x y hd
                  subst q1 q2 q3 q4
                  simp only [Option.bind_some, fO, hfc, if_pos hok] at h1
                  cases h1
        · intro x y hxy
          rw [fox] at hxy
          cases hd : fO (FG n near W p) (dn.filter fun u => decide (u ≠ geti p v)) (1, -geti W v) with
          | none => rw [hd] at hxy; cases hxy
          | some xy =>
            obtain ⟨x', y'⟩ := xy
            rw [hd] at hxy
            obtain ⟨q3, q4⟩ := hI.pr x' y' hd
            cases hfc : FG n near W p c with
            | none => simp only [Option.bind_some, fO, hfc] at hxy; cases hxy
            | some gf =>
              obtain ⟨g, f⟩ := gf
              obtain ⟨q1, q2⟩ := D.vl c (.refl c3) g f hfc
              subst q1 q2 q3 q4
              simp only [Option.bind_some, fO, hfc, if_pos hok] at hxy
              simpa using hxy
      · rw [if_neg hok]
        have hnone : u.l = true ∨ fO (FG n near W p) ((dn ++ [c]).filter fun u => decide (u ≠ geti p v)) (1, -geti W v) = none := by
          rw [fox]
          cases hd : fO (FG n near W p) (dn.filter fun u => decide (u ≠ geti p v)) (1, -geti W v) with
          | none => exact .inr rfl
          | some xy =>
            obtain ⟨x', y'⟩ := xy
            obtain ⟨q3, q4⟩ := hI.pr x' y' hd
            cases hfc : FG n near W p c with
            | none => right; simp only [Option.bind_some, fO, hfc]
            | some gf =>
              obtain ⟨g, f⟩ := gf
              obtain ⟨q1, q2⟩ := D.vl c (.refl c3) g f hfc
              subst q1 q2 q3 q4
              right
              simp only [Option.bind_some, fO, hfc, if_neg hok]
        have hbn : ∀ x y, fO (FG n near W p) ((dn ++ [c]).filter fun u => decide (u ≠ geti p v)) (1, -geti W v) = some (x, y) → (0 : Int) = x ∧ (0 : Int) = y := by
          intro x y hxy
          exfalso
          rw [fox] at hxy
          cases hd : fO (FG n near W p) (dn.filter fun u => decide (u ≠ geti p v)) (1, -geti W v) with
          | none => rw [hd] at hxy; cases hxy
          | some xy =>
            obtain ⟨x', y'⟩ := xy
            rw [hd] at hxy
            obtain ⟨q3, q4⟩ := hI.pr x' y' hd
            cases hfc : FG n near W p c with
            | none => simp only [Option.bind_some, fO, hfc] at hxy; cases hxy
            | some gf =>
              obtain ⟨g, f⟩ := gf
              obtain ⟨q1, q2⟩ := D.vl c (.refl c3) g f hfc
              subst q1 q2 q3 q4
              simp only [Option.bind_some, fO, hfc, if_neg hok] at hxy
              cases hxy
        refine lp_run hF hW h hv hs hp hk hvis rest _ u.big 0 0 e' ⟨snx, frx, vlx, ?_, hbn, ⟨o1.lf, o1.lg, o1.ls, o1.bf, o1.bg⟩, hI.le.trans (o2.trans ⟨fun _ h => h, Nat.le_refl _, fun _ => rfl⟩), inM0, inM0⟩
        refine ⟨fun _ => ?_, fun _ => rfl⟩
        rcases hnone with h1 | h1
        · rcases lgx.1 h1 with h2 | h2 | h2
          · exact .inl h2
          · exact .inr (.inl h2)
          · exact .inr (.inr (by rw [fox, h2]; rfl))
        · exact .inr (.inr h1)
end
end Go.Proofs.Ytbalbiliejjnoaa
/-
  All trees of a forest, one after the other. No condition.
-/
namespace Go.Proofs.Ytbalbiliejjnoaa
open Go Go.RowKit

theorem geti_st' {p : List Int} {u v x : Int} {n : Nat} (hu : 0 ≤ u ∧ u < n) (hx : 0 ≤ x) (hl : p.length = n) : geti (p.set u.toNat v) x = if x = u then v else geti p x :=
  geti_st hu.1 hx (by rw [hl]; exact hu.2)
section
variable {n : Nat} {near : Int → List Int} {r : Int} {o p W : List Int}
theorem vis_run (hF : Fst n near) (hW : ∀ v : Int, -1000 ≤ geti W v ∧ geti W v ≤ 1000) (h : Tr n near r o p) {rk : Int → Nat} (k1 : ∀ x ∈ o, rk x < n) (k2 : ∀ x ∈ o, x ≠ r → geti p x ∈ o ∧ rk (geti p x) < rk x ∧ x ∈ near (geti p x)) :
    ∀ (m : Nat) (v : Int) (s : WS) (k : Nat), v ∈ o → n ≤ m + rk v → WOk n s → s.cnt ≤ k → (∀ x, Dsc r o p v x → s.sn x = false) → (v ≠ r → s.sn (geti p v) = true) →
      Done n near W r o p (Dsc r o p v) s (visF W near k v s) ∧ ((visF W near k v s).l = true ↔ s.l = true ∨ ∃ x, Dsc r o p v x ∧ FG n near W p x = none)
  | 0, v, s, k, hv, hm, _, _, _, _ => by have := k1 v hv; omega
  | m + 1, v, s, 0, hv, hm, hok, hk, hs, _ => by
    have := cnt_pos hok.ls (h.rng v hv) (hs v (.refl hv)); omega
  | m + 1, v, s, k + 1, hv, hm, hok, hk, hs, hp => by
    have hvr := h.rng v hv
    have hvn := hs v (.refl hv)
    have hcm := cnt_mark hok.ls hvr hvn
    have hw := hW v
    have hvis : ∀ c ∈ chl near p v, ∀ t : WS, WOk n t → t.cnt ≤ k → (∀ x, Dsc r o p c x → t.sn x = false) → t.sn v = true →
        Done n near W r o p (Dsc r o p c) t (visF W near k c t) ∧ ((visF W near k c t).l = true ↔ t.l = true ∨ ∃ x, Dsc r o p c x ∧ FG n near W p x = none) := by
      intro c hc t ht htk hfr htv
      obtain ⟨_, _, c3, c4, c5⟩ := chl_mem h hv hc
      have hr := (k2 c c3 c4).2.1
      rw [c5] at hr
      exact vis_run hF hW h k1 k2 m c t k c3 (by omega) ht htk hfr fun _ => by rw [c5]; exact htv
    have hsn0 : ∀ x : Int, 0 ≤ x → ((s.mark v).sn x = true ↔ s.sn x = true ∨ x = v ∨ ∃ c ∈ ([] : List Int), c ≠ geti p v ∧ Dsc r o p c x) := fun x hx => by
      rw [sn_mark hok.ls hvr hx]
      by_cases e : x = v
      · simp [e]
      · simp [e]
    have hI := lp_run hF hW h hv hs hp (k := k) (by omega) hvis (near v) [] (s.mark v) 1 (-geti W v) rfl
      ⟨hsn0, fun x _ _ => ⟨rfl, rfl⟩, fun x hx => (by obtain ⟨c, hc, _⟩ := hx; cases hc), (by simp [fO, WS.mark]), fun x y hxy => (by simp [fO] at hxy; exact ⟨hxy.1, hxy.2⟩), ok_mark hok v, WLe.refl _, (by unfold inM; omega), (by unfold inM; omega)⟩
    have ech : ((near v).filter fun u => decide (u ≠ geti p v)) = chl near p v := rfl
    have hfg := FG_eq (W := W) h hv
    show Done n near W r o p (Dsc r o p v) s ((lpF (visF W near k) (near v) (s.mark v) 1 (-geti W v)).1.put v (lpF (visF W near k) (near v) (s.mark v) 1 (-geti W v)).2.1 (lpF (visF W near k) (near v) (s.mark v) 1 (-geti W v)).2.2) ∧ ((lpF (visF W near k) (near v) (s.mark v) 1 (-geti W v)).1.l = true ↔ _)
    generalize lpF (visF W near k) (near v) (s.mark v) 1 (-geti W v) = T at *
    obtain ⟨t, a, b⟩ := T
    dsimp only at hI ⊢
    have hex : ∀ x, (∃ c ∈ near v, c ≠ geti p v ∧ Dsc r o p c x) ↔ ∃ c ∈ chl near p v, Dsc r o p c x := fun x => by
      constructor
      · rintro ⟨c, hc, h1, h2⟩; exact ⟨c, List.mem_filter.2 ⟨hc, decide_eq_true h1⟩, h2⟩
      · rintro ⟨c, hc, h2⟩
        obtain ⟨h3, h4⟩ := List.mem_filter.1 hc
        exact ⟨c, h3, of_decide_eq_true h4, h2⟩
    have hd : ∀ x, Dsc r o p v x ↔ x = v ∨ ∃ c ∈ near v, c ≠ geti p v ∧ Dsc r o p c x := fun x => by
      rw [hex]
      constructor
      · exact Dsc.cases h
      · rintro (rfl | ⟨c, hc, h2⟩)
        · exact .refl hv
        · exact Dsc.child h hv hc h2
    have hne : ∀ x, (∃ c ∈ near v, c ≠ geti p v ∧ Dsc r o p c x) → x ≠ v := fun x hx e => by
      subst e
      obtain ⟨c, hc, h2⟩ := (hex x).1 hx
      exact Dsc.notup h hv hc h2
    have pf : ∀ x : Int, 0 ≤ x → geti (t.put v a b).f x = (if x = v then b else geti t.f x) ∧ geti (t.put v a b).g x = (if x = v then a else geti t.g x) := fun x hx =>
      ⟨geti_st' hvr hx hI.ok.lf, geti_st' hvr hx hI.ok.lg⟩
    refine ⟨⟨fun x hx => ?_, fun x hx hn => ?_, fun x hx a' b' hab => ?_⟩, ?_⟩
    · show t.sn x = true ↔ _
      rw [hI.sn x hx, hd]
    · rw [hd] at hn
      obtain ⟨q1, q2⟩ := pf x hx
      rw [q1, q2, if_neg fun e => hn (.inl e), if_neg fun e => hn (.inl e)]
      exact hI.fr x hx fun hh => hn (.inr hh)
    · have hx0 := (h.rng x hx.mem).1
      obtain ⟨q1, q2⟩ := pf x hx0
      rcases (hd x).1 hx with e | hx
      · subst e
        rw [q1, q2, if_pos rfl, if_pos rfl]
        rw [hfg] at hab
        obtain ⟨q3, q4⟩ := hI.pr a' b' hab
        exact ⟨q4, q3⟩
      · rw [q1, q2, if_neg (hne x hx), if_neg (hne x hx)]
        exact hI.vl x hx a' b' hab
    · rw [hI.lg, ech, ← hfg]
      constructor
      · rintro (h1 | ⟨x, h1, h2⟩ | h1)
        · exact .inl h1
        · exact .inr ⟨x, (hd x).2 (.inr h1), h2⟩
        · exact .inr ⟨v, .refl hv, h1⟩
      · rintro (h1 | ⟨x, h1, h2⟩)
        · exact .inl h1
        · rcases (hd x).1 h1 with e | h1
          · subst e; exact .inr (.inr h2)
          · exact .inr (.inl ⟨x, h1, h2⟩)
end

/-! ### All roots -/
noncomputable def trC (n : Nat) (near : Int → List Int) (r : Int) : List Int × List Int :=
  open Classical in if h : ∃ q : List Int × List Int, Tr n near r q.1 q.2 then h.choose else ([], [])
theorem trC_ok {n : Nat} {near : Int → List Int} {r : Int} (hF : Fst n near) (hr : 0 ≤ r ∧ r < n) : Tr n near r (trC n near r).1 (trC n near r).2 := by
  obtain ⟨o, p, h⟩ := tree_ex hF hr
  have he : ∃ q : List Int × List Int, Tr n near r q.1 q.2 := ⟨(o, p), h⟩
  unfold trC
  rw [dif_pos he]
  exact he.choose_spec
/-- The roots among the first i vertices. -/
noncomputable def rts (n : Nat) (near : Int → List Int) : Nat → List Int
  | 0 => []
  | i + 1 => open Classical in if ∃ r ∈ rts n near i, (i : Int) ∈ (trC n near r).1 then rts n near i else rts n near i ++ [(i : Int)]
theorem rts_rng (n : Nat) (near : Int → List Int) : ∀ i, ∀ r ∈ rts n near i, 0 ≤ r ∧ r < i
  | 0, r, h => by cases h
  | i + 1, r, h => by
    rw [rts] at h
    split at h
    · have := rts_rng n near i r h; omega
    · rcases List.mem_append.1 h with h | h
      · have := rts_rng n near i r h; omega
      · rw [List.mem_singleton.1 h]; omega
theorem rts_len (n : Nat) (near : Int → List Int) : ∀ i, (rts n near i).length ≤ i
  | 0 => Nat.le_refl _
  | i + 1 => by
    have := rts_len n near i
    rw [rts]; split
    · omega
    · simp; omega
theorem rts_cov {n : Nat} {near : Int → List Int} (hF : Fst n near) : ∀ i, i ≤ n → ∀ x : Int, 0 ≤ x → x < i → ∃ r ∈ rts n near i, x ∈ (trC n near r).1
  | 0, _, x, h0, h1 => by omega
  | i + 1, hi, x, h0, h1 => by
    rw [rts]
    by_cases hx : x < i
    · obtain ⟨r, hr, hm⟩ := rts_cov hF i (by omega) x h0 hx
      split
      · exact ⟨r, hr, hm⟩
      · exact ⟨r, by simp [hr], hm⟩
    · have e : x = i := by omega
      subst e
      split
      · assumption
      · exact ⟨(i : Int), by simp, (trC_ok hF (r := (i : Int)) ⟨by omega, by omega⟩).rt⟩
theorem rts_dis {n : Nat} {near : Int → List Int} (hF : Fst n near) : ∀ i, i ≤ n → (rts n near i).Pairwise fun r r' => ∀ x, x ∈ (trC n near r).1 → x ∉ (trC n near r').1
  | 0, _ => List.Pairwise.nil
  | i + 1, hi => by
    have ih := rts_dis hF i (by omega)
    rw [rts]; split
    · exact ih
    · rename_i hn
      rw [List.pairwise_append]
      refine ⟨ih, by simp, fun r hr r' hr' x hx hx' => ?_⟩
      rw [List.mem_singleton.1 hr'] at hx'
      have h1 := rts_rng n near i r hr
      exact Tr.disj (trC_ok hF ⟨h1.1, by omega⟩) (trC_ok hF (r := (i : Int)) ⟨by omega, by omega⟩) hF (fun hh => hn ⟨r, hr, hh⟩) x hx' hx
theorem rts_uniq {n : Nat} {near : Int → List Int} (hF : Fst n near) {r r' : Int} (hr : r ∈ rts n near n) (hr' : r' ∈ rts n near n) {x : Int} (hx : x ∈ (trC n near r).1) (hx' : x ∈ (trC n near r').1) : r = r' := by
  have hd := rts_dis hF n (Nat.le_refl _)
  apply Classical.byContradiction
  intro hne
  have key : ∀ l : List Int, (l.Pairwise fun r r' => ∀ x, x ∈ (trC n near r).1 → x ∉ (trC n near r').1) → r ∈ l → r' ∈ l → False := by
    intro l
    induction l with
    | nil => intro _ h _; cases h
    | cons a l ih =>
      intro hp h1 h2
      obtain ⟨p1, p2⟩ := List.pairwise_cons.1 hp
      rcases List.mem_cons.1 h1 with e1 | g1
      · rcases List.mem_cons.1 h2 with e2 | g2
        · exact hne (e1.trans e2.symm)
        · exact p1 r' g2 x (e1 ▸ hx) hx'
      · rcases List.mem_cons.1 h2 with e2 | g2
        · exact p1 r g1 x (e2 ▸ hx') hx
        · exact ih p2 g1 g2
  exact key _ hd hr hr'

/-! ### What all branches have -/
/-- No number is too large. -/
def bdOk (n : Nat) (near : Int → List Int) (W : List Int) : Prop := ∀ r ∈ rts n near n, ∀ x ∈ (trC n near r).1, FG n near W (trC n near r).2 x ≠ none
noncomputable def rootOf (n : Nat) (near : Int → List Int) (x : Int) : Int := open Classical in if h : ∃ r, r ∈ rts n near n ∧ x ∈ (trC n near r).1 then h.choose else 0
theorem rootOf_ok {n : Nat} {near : Int → List Int} (hF : Fst n near) {x : Int} (hx : 0 ≤ x ∧ x < n) : rootOf n near x ∈ rts n near n ∧ x ∈ (trC n near (rootOf n near x)).1 := by
  obtain ⟨r, h1, h2⟩ := rts_cov hF n (Nat.le_refl _) x hx.1 hx.2
  have he : ∃ r, r ∈ rts n near n ∧ x ∈ (trC n near r).1 := ⟨r, h1, h2⟩
  unfold rootOf
  rw [dif_pos he]
  exact he.choose_spec
noncomputable def bdV (n : Nat) (near : Int → List Int) (W : List Int) (x : Int) : Option (Int × Int) := FG n near W (trC n near (rootOf n near x)).2 x
theorem bdV_eq {n : Nat} {near : Int → List Int} {W : List Int} (hF : Fst n near) {r x : Int} (hr : r ∈ rts n near n) (hx : x ∈ (trC n near r).1) : bdV n near W x = FG n near W (trC n near r).2 x := by
  have h1 := rts_rng n near n r hr
  have h2 := (trC_ok hF h1).rng x hx
  obtain ⟨h3, h4⟩ := rootOf_ok hF h2
  have := rts_uniq hF h3 hr h4 hx
  unfold bdV
  rw [this]
noncomputable def bdF (n : Nat) (near : Int → List Int) (W : List Int) : List Int := (List.range n).map fun (x : Nat) => ((bdV n near W (x : Nat)).getD (0, 0)).2
noncomputable def bdG (n : Nat) (near : Int → List Int) (W : List Int) : List Int := (List.range n).map fun (x : Nat) => ((bdV n near W (x : Nat)).getD (0, 0)).1
theorem list_eq {n : Nat} {l : List Int} {F : Int → Int} (hl : l.length = n) (h : ∀ x : Int, 0 ≤ x → x < n → geti l x = F x) : l = (List.range n).map fun (x : Nat) => F (x : Nat) := by
  apply List.ext_getElem (by simp [hl])
  intro i h1 h2
  have := h (i : Nat) (by omega) (by omega)
  simp [geti, List.getD_eq_getElem?_getD, List.getElem?_eq_getElem h1] at this
  simp [this]

/-! ### The program's run -/
def WS.init (n : Nat) : WS := ⟨List.replicate n 0, List.replicate n 0, List.replicate n false, false⟩
def brF (n : Nat) (near : Int → List Int) (W : List Int) : Nat → WS × List Int
  | 0 => (WS.init n, [])
  | i + 1 => if (brF n near W i).1.sn (i : Nat) = true then brF n near W i else (visF W near n (i : Nat) (brF n near W i).1, (brF n near W i).2 ++ [(i : Int)])
structure BrI (n : Nat) (near : Int → List Int) (W : List Int) (i : Nat) (s : WS) (rs : List Int) : Prop where
  rs : rs = rts n near i
  sn : ∀ x : Int, 0 ≤ x → (s.sn x = true ↔ ∃ r ∈ rts n near i, x ∈ (trC n near r).1)
  vl : ∀ r ∈ rts n near i, ∀ x ∈ (trC n near r).1, ∀ a b, FG n near W (trC n near r).2 x = some (a, b) → geti s.f x = b ∧ geti s.g x = a
  lg : s.l = true ↔ ∃ r ∈ rts n near i, ∃ x ∈ (trC n near r).1, FG n near W (trC n near r).2 x = none
  ok : WOk n s
  cnt : s.cnt ≤ n
theorem br_init (n : Nat) (near : Int → List Int) (W : List Int) : BrI n near W 0 (WS.init n) [] := by
  refine ⟨rfl, fun x hx => ?_, fun r hr => (by cases hr), ?_, ⟨(by simp [WS.init]), (by simp [WS.init]), (by simp [WS.init]), fun x hx => ?_, fun x hx => ?_⟩, ?_⟩
  · simp only [WS.sn, WS.init, rts, List.getD_eq_getElem?_getD, List.getElem?_replicate]
    split <;> simp
  · simp [WS.init, rts]
  · simp [WS.init] at hx; rw [hx.2]; exact inM0
  · simp [WS.init] at hx; rw [hx.2]; exact inM0
  · simp [WS.cnt, WS.init]
theorem br_run {n : Nat} {near : Int → List Int} {W : List Int} (hF : Fst n near) (hW : ∀ v : Int, -1000 ≤ geti W v ∧ geti W v ≤ 1000) : ∀ i, i ≤ n → BrI n near W i (brF n near W i).1 (brF n near W i).2
  | 0, _ => br_init n near W
  | i + 1, hi => by
    have ih := br_run hF hW i (by omega)
    have hsi := ih.sn (i : Nat) (by omega)
    rw [brF]
    by_cases hs : (brF n near W i).1.sn (i : Nat) = true
    · rw [if_pos hs]
      have er : rts n near (i + 1) = rts n near i := by rw [rts, if_pos (hsi.1 hs)]
      exact ⟨by rw [er]; exact ih.rs, by rw [er]; exact ih.sn, by rw [er]; exact ih.vl, by rw [er]; exact ih.lg, ih.ok, ih.cnt⟩
    · rw [if_neg hs]
      have hno : ¬ ∃ r ∈ rts n near i, (i : Int) ∈ (trC n near r).1 := fun hh => hs (hsi.2 hh)
      have er : rts n near (i + 1) = rts n near i ++ [(i : Int)] := by rw [rts, if_neg hno]
      have hT := trC_ok hF (r := (i : Int)) ⟨by omega, by omega⟩
      have hfree : ∀ x, Dsc (i : Int) (trC n near (i : Nat)).1 (trC n near (i : Nat)).2 (i : Nat) x → (brF n near W i).1.sn x = false := by
        intro x hx
        have hx0 := (hT.rng x hx.mem).1
        cases hh : (brF n near W i).1.sn x with
        | false => rfl
        | true =>
          obtain ⟨r, hr, hxr⟩ := (ih.sn x hx0).1 hh
          have h1 := rts_rng n near i r hr
          exact absurd hxr (Tr.disj (trC_ok hF ⟨h1.1, by omega⟩) hT hF (fun h2 => hno ⟨r, hr, h2⟩) x hx.mem)
      obtain ⟨k, k1, k2⟩ := hT.rank
      obtain ⟨D, hl⟩ := vis_run hF hW hT k1 k2 n (i : Nat) (brF n near W i).1 n hT.rt (by omega) ih.ok ih.cnt hfree (fun h => absurd rfl h)
      obtain ⟨o1, o2⟩ := visF_ok hW hF n (i : Nat) (brF n near W i).1 ih.ok ih.cnt ⟨by omega, by omega⟩ (by simpa using hs)
      have hall : ∀ x, Dsc (i : Int) (trC n near (i : Nat)).1 (trC n near (i : Nat)).2 (i : Nat) x ↔ x ∈ (trC n near (i : Nat)).1 := fun x => ⟨Dsc.mem, Dsc.all hT⟩
      refine ⟨by rw [er, ih.rs], fun x hx => ?_, fun r hr x hx a b hab => ?_, ?_, o1, Nat.le_trans o2.cnt ih.cnt⟩
      · rw [D.sn x hx, ih.sn x hx, hall, er]
        simp only [List.mem_append, List.mem_singleton]
        constructor
        · rintro (⟨r, h1, h2⟩ | h1)
          · exact ⟨r, .inl h1, h2⟩
          · exact ⟨_, .inr rfl, h1⟩
        · rintro ⟨r, h1 | h1, h2⟩
          · exact .inl ⟨r, h1, h2⟩
          · rw [h1] at h2; exact .inr h2
      · rw [er] at hr
        rcases List.mem_append.1 hr with hr | hr
        · have h1 := rts_rng n near i r hr
          have hxT := trC_ok hF (r := r) ⟨h1.1, by omega⟩
          have hnd : ¬ Dsc (i : Int) (trC n near (i : Nat)).1 (trC n near (i : Nat)).2 (i : Nat) x := fun hh =>
            Tr.disj hxT hT hF (fun h2 => hno ⟨r, hr, h2⟩) x hh.mem hx
          obtain ⟨q1, q2⟩ := D.fr x (hxT.rng x hx).1 hnd
          obtain ⟨q3, q4⟩ := ih.vl r hr x hx a b hab
          exact ⟨q1.trans q3, q2.trans q4⟩
        · rw [List.mem_singleton.1 hr] at hx hab
          exact D.vl x ((hall x).2 hx) a b hab
      · rw [hl, ih.lg, er]
        simp only [List.mem_append, List.mem_singleton, hall]
        constructor
        · rintro (⟨r, h1, h2⟩ | h1)
          · exact ⟨r, .inl h1, h2⟩
          · exact ⟨_, .inr rfl, h1⟩
        · rintro ⟨r, h1 | h1, h2⟩
          · exact .inl ⟨r, h1, h2⟩
          · rw [h1] at h2; exact .inr h2
/-- What the program's run leaves. -/
theorem br_end {n : Nat} {near : Int → List Int} {W : List Int} (hF : Fst n near) (hW : ∀ v : Int, -1000 ≤ geti W v ∧ geti W v ≤ 1000) :
    (brF n near W n).2 = rts n near n ∧ ((brF n near W n).1.l = true ↔ ¬ bdOk n near W) ∧ (bdOk n near W → (brF n near W n).1.f = bdF n near W ∧ (brF n near W n).1.g = bdG n near W) := by
  have h := br_run hF hW n (Nat.le_refl _)
  refine ⟨h.rs, ?_, fun hok => ⟨?_, ?_⟩⟩
  · rw [h.lg]
    unfold bdOk
    constructor
    · rintro ⟨r, hr, x, hx, hn⟩ hh
      exact hh r hr x hx hn
    · intro hn
      apply Classical.byContradiction
      intro h2
      exact hn fun r hr x hx h3 => h2 ⟨r, hr, x, hx, h3⟩
  · refine list_eq (F := fun x => ((bdV n near W x).getD (0, 0)).2) h.ok.lf fun x h0 h1 => ?_
    obtain ⟨h3, h4⟩ := rootOf_ok hF ⟨h0, h1⟩
    rw [bdV_eq hF h3 h4]
    cases hc : FG n near W (trC n near (rootOf n near x)).2 x with
    | none => exact absurd hc (hok _ h3 x h4)
    | some ab => exact (h.vl _ h3 x h4 ab.1 ab.2 hc).1
  · refine list_eq (F := fun x => ((bdV n near W x).getD (0, 0)).1) h.ok.lg fun x h0 h1 => ?_
    obtain ⟨h3, h4⟩ := rootOf_ok hF ⟨h0, h1⟩
    rw [bdV_eq hF h3 h4]
    cases hc : FG n near W (trC n near (rootOf n near x)).2 x with
    | none => exact absurd hc (hok _ h3 x h4)
    | some ab => exact (h.vl _ h3 x h4 ab.1 ab.2 hc).2
end Go.Proofs.Ytbalbiliejjnoaa
/-
  Numbers of components: the first vertex of a number is a root. No condition.
-/
namespace Go.Proofs.Ytbalbiliejjnoaa
open Go Go.RowKit
section
variable {n : Nat} {near : Int → List Int}

def setT (L o : List Int) (m : Int) : List Int := o.foldl (fun L x => L.set x.toNat m) L
theorem setT_snoc (L o : List Int) (x m : Int) : setT L (o ++ [x]) m = (setT L o m).set x.toNat m := by simp [setT]
theorem setT_len (m : Int) : ∀ (o L : List Int), (setT L o m).length = L.length
  | [], _ => rfl
  | x :: o, L => by
    show (setT (L.set x.toNat m) o m).length = _
    rw [setT_len m o, List.length_set]
theorem setT_get (m : Int) : ∀ (o L : List Int), (∀ x ∈ o, 0 ≤ x ∧ x < L.length) → ∀ y : Int, 0 ≤ y → geti (setT L o m) y = if y ∈ o then m else geti L y
  | [], L, _, y, _ => by simp [setT]
  | x :: o, L, h, y, hy => by
    show geti (setT (L.set x.toNat m) o m) y = _
    rw [setT_get m o _ (fun z hz => by rw [List.length_set]; exact h z (by simp [hz])) y hy]
    have hx := h x (by simp)
    by_cases h1 : y ∈ o
    · rw [if_pos h1, if_pos (by simp [h1])]
    · rw [if_neg h1, geti_st hx.1 hy hx.2]
      by_cases e : y = x
      · rw [if_pos e, if_pos (by simp [e])]
      · rw [if_neg e, if_neg (by simp [e, h1])]
/-- What the numbers of the vertices say after i vertices. -/
structure LbI (n : Nat) (near : Int → List Int) (i : Nat) (L : List Int) (m : Int) : Prop where
  len : L.length = n
  num : m = (rts n near i).length
  cov : ∀ x : Int, 0 ≤ x → x < n → (0 ≤ geti L x ↔ ∃ r ∈ rts n near i, x ∈ (trC n near r).1)
  lt : ∀ x : Int, 0 ≤ x → x < n → geti L x < m ∨ m = 0
  lo : ∀ x : Int, 0 ≤ x → x < n → -1 ≤ geti L x ∧ geti L x < n
  same : ∀ x y : Int, 0 ≤ x → x < n → 0 ≤ y → y < n → 0 ≤ geti L x → 0 ≤ geti L y → (geti L x = geti L y ↔ ∃ r ∈ rts n near i, x ∈ (trC n near r).1 ∧ y ∈ (trC n near r).1)
theorem rep_get {x : Int} (h0 : 0 ≤ x) (h1 : x < n) : geti (List.replicate n (-1)) x = -1 := by
  have : x.toNat < n := by omega
  simp [geti, List.getD_eq_getElem?_getD, this]
theorem LbI.start (hn : 0 < n) : LbI n near 0 (List.replicate n (-1)) 0 := by
  refine ⟨by simp, by simp [rts], fun x h0 h1 => ?_, fun x h0 h1 => .inr rfl, fun x h0 h1 => ?_, fun x y h0 h1 h2 h3 h4 => ?_⟩
  · rw [rep_get h0 h1]; simp [rts]
  · rw [rep_get h0 h1]; omega
  · rw [rep_get h0 h1] at h4; omega
theorem LbI.skip {i : Nat} {L : List Int} {m : Int} (h : LbI n near i L m) (hi : i < n) (hc : 0 ≤ geti L (i : Nat)) : LbI n near (i + 1) L m := by
  have hr := (h.cov (i : Nat) (by omega) (by omega)).1 hc
  have er : rts n near (i + 1) = rts n near i := by rw [rts, if_pos hr]
  exact ⟨h.len, by rw [er]; exact h.num, by rw [er]; exact h.cov, h.lt, h.lo, by rw [er]; exact h.same⟩
theorem LbI.new (hF : Fst n near) {i : Nat} {L o p : List Int} {m : Int} (h : LbI n near i L m) (hi : i < n) (hc : ¬ 0 ≤ geti L (i : Nat)) (ht : Tr n near (i : Nat) o p) : LbI n near (i + 1) (setT L o m) (m + 1) ∧ m < n := by
  have hno : ¬ ∃ r ∈ rts n near i, (i : Int) ∈ (trC n near r).1 := fun hh => hc ((h.cov (i : Nat) (by omega) (by omega)).2 hh)
  have er : rts n near (i + 1) = rts n near i ++ [(i : Int)] := by rw [rts, if_neg hno]
  have hT := trC_ok hF (r := (i : Nat)) ⟨by omega, by omega⟩
  have hio := ht.iff hT
  have hg := fun y hy => setT_get m o L (fun x hx => by have := ht.rng x hx; have := h.len; omega) y hy
  have hl := h.len
  have hm := h.num
  have hrl := rts_len n near i
  have hdis : ∀ r ∈ rts n near i, ∀ x, x ∈ o → x ∉ (trC n near r).1 := fun r hr x hx hx' => by
    have h1 := rts_rng n near i r hr
    exact Tr.disj (trC_ok hF ⟨h1.1, by omega⟩) hT hF (fun hh => hno ⟨r, hr, hh⟩) x ((hio x).1 hx) hx'
  refine ⟨⟨by rw [setT_len]; exact hl, by rw [er, List.length_append, List.length_singleton]; omega, fun x h0 h1 => ?_, fun x h0 h1 => ?_, fun x h0 h1 => ?_, fun x y h0 h1 h2 h3 h4 h5 => ?_⟩, by omega⟩
  · rw [hg x h0, er]
    by_cases hx : x ∈ o
    · rw [if_pos hx]
      exact ⟨fun _ => ⟨(i : Nat), by simp, (hio x).1 hx⟩, fun _ => by omega⟩
    · rw [if_neg hx, h.cov x h0 h1]
      constructor
      · rintro ⟨r, hr, hm⟩; exact ⟨r, by simp [hr], hm⟩
      · rintro ⟨r, hr, hm⟩
        rcases List.mem_append.1 hr with hr | hr
        · exact ⟨r, hr, hm⟩
        · rw [List.mem_singleton.1 hr] at hm
          exact absurd ((hio x).2 hm) hx
  · rw [hg x h0]
    left
    by_cases hx : x ∈ o
    · rw [if_pos hx]; omega
    · rw [if_neg hx]
      rcases h.lt x h0 h1 with h6 | h6
      · omega
      · have h7 := h.cov x h0 h1
        have : rts n near i = [] := List.eq_nil_of_length_eq_zero (by omega)
        rw [this] at h7
        have : ¬ 0 ≤ geti L x := fun hh => by obtain ⟨r, hr, _⟩ := h7.1 hh; cases hr
        omega
  · rw [hg x h0]
    by_cases hx : x ∈ o
    · rw [if_pos hx]; omega
    · rw [if_neg hx]; exact h.lo x h0 h1
  · rw [hg x h0] at h4 ⊢
    rw [hg y h2] at h5 ⊢
    rw [er]
    have hlt : ∀ z : Int, 0 ≤ z → z < n → 0 ≤ geti L z → geti L z < m := fun z z0 z1 z2 => by
      rcases h.lt z z0 z1 with h6 | h6
      · exact h6
      · have h7 := (h.cov z z0 z1).1 z2
        have : rts n near i = [] := List.eq_nil_of_length_eq_zero (by omega)
        rw [this] at h7
        obtain ⟨r, hr, _⟩ := h7; cases hr
    by_cases hx : x ∈ o <;> by_cases hy : y ∈ o
    · rw [if_pos hx, if_pos hy]
      exact ⟨fun _ => ⟨(i : Nat), by simp, (hio x).1 hx, (hio y).1 hy⟩, fun _ => rfl⟩
    · rw [if_pos hx, if_neg hy] at *
      have := hlt y h2 h3 h5
      constructor
      · intro h8; omega
      · rintro ⟨r, hr, q1, q2⟩
        rcases List.mem_append.1 hr with hr | hr
        · exact absurd q1 (hdis r hr x hx)
        · rw [List.mem_singleton.1 hr] at q2
          exact absurd ((hio y).2 q2) hy
    · rw [if_neg hx, if_pos hy] at *
      have := hlt x h0 h1 h4
      constructor
      · intro h8; omega
      · rintro ⟨r, hr, q1, q2⟩
        rcases List.mem_append.1 hr with hr | hr
        · exact absurd q2 (hdis r hr y hy)
        · rw [List.mem_singleton.1 hr] at q1
          exact absurd ((hio x).2 q1) hx
    · rw [if_neg hx, if_neg hy] at *
      rw [h.same x y h0 h1 h2 h3 h4 h5]
      constructor
      · rintro ⟨r, hr, q1, q2⟩; exact ⟨r, by simp [hr], q1, q2⟩
      · rintro ⟨r, hr, q1, q2⟩
        rcases List.mem_append.1 hr with hr | hr
        · exact ⟨r, hr, q1, q2⟩
        · rw [List.mem_singleton.1 hr] at q1
          exact absurd ((hio x).2 q1) hx
theorem rts_mono (n : Nat) (near : Int → List Int) {i : Nat} {r : Int} (h : r ∈ rts n near i) : ∀ j, i ≤ j → r ∈ rts n near j := by
  intro j hj
  induction hj with
  | refl => exact h
  | step _ ih =>
    rw [rts]; split
    · exact ih
    · exact List.mem_append.2 (.inl ih)
theorem rts_iff (hF : Fst n near) {v : Nat} (hv : v < n) : ((v : Int) ∈ rts n near n ↔ ¬ ∃ r ∈ rts n near v, (v : Int) ∈ (trC n near r).1) := by
  have hT := trC_ok hF (r := (v : Nat)) ⟨by omega, by omega⟩
  constructor
  · rintro h ⟨r, hr, hm⟩
    have h1 := rts_rng n near v r hr
    have := rts_uniq hF (rts_mono n near hr n (by omega)) h hm hT.rt
    omega
  · intro h
    refine rts_mono n near (i := v + 1) ?_ n (by omega)
    rw [rts, if_neg h]; simp
theorem rts_step (hF : Fst n near) {v : Nat} (hv : v < n) : rts n near (v + 1) = if (v : Int) ∈ rts n near n then rts n near v ++ [(v : Int)] else rts n near v := by
  by_cases h : (v : Int) ∈ rts n near n
  · rw [if_pos h, rts, if_neg ((rts_iff hF hv).1 h)]
  · rw [if_neg h, rts, if_pos]
    exact Classical.byContradiction fun hh => h ((rts_iff hF hv).2 hh)
/-- The first vertex with its number: a root. -/
theorem LbI.first (hF : Fst n near) {L : List Int} {m : Int} (h : LbI n near n L m) {v : Nat} (hv : v < n) : (∀ j : Nat, j < v → geti L (j : Nat) ≠ geti L (v : Nat)) ↔ (v : Int) ∈ rts n near n := by
  have hpos : ∀ x : Nat, x < n → 0 ≤ geti L (x : Nat) := fun x hx => (h.cov (x : Nat) (by omega) (by omega)).2 (rts_cov hF n (Nat.le_refl _) (x : Nat) (by omega) (by omega))
  have hcv : ∀ x : Nat, x < n → ∃ r ∈ rts n near n, (x : Int) ∈ (trC n near r).1 ∧ 0 ≤ r ∧ r ≤ x := fun x hx => by
    obtain ⟨r, hr, hm⟩ := rts_cov hF (x + 1) (by omega) (x : Nat) (by omega) (by omega)
    have := rts_rng n near (x + 1) r hr
    exact ⟨r, rts_mono n near hr n (by omega), hm, this.1, by omega⟩
  constructor
  · intro hj
    obtain ⟨r, hr, hm, r0, r1⟩ := hcv v hv
    by_cases e : r = (v : Int)
    · rw [← e]; exact hr
    · obtain ⟨q, rfl⟩ := Int.eq_ofNat_of_zero_le r0
      exfalso
      refine hj q (by omega) ?_
      refine (h.same (q : Nat) (v : Nat) (by omega) (by omega) (by omega) (by omega) (hpos q (by omega)) (hpos v hv)).2 ⟨(q : Nat), hr, ?_, hm⟩
      exact (trC_ok hF (r := (q : Nat)) ⟨by omega, by omega⟩).rt
  · intro hv' j hj he
    obtain ⟨r, hr, q1, q2⟩ := (h.same (j : Nat) (v : Nat) (by omega) (by omega) (by omega) (by omega) (hpos j (by omega)) (hpos v hv)).1 he
    have e := rts_uniq hF hr hv' q2 (trC_ok hF (r := (v : Nat)) ⟨by omega, by omega⟩).rt
    subst e
    obtain ⟨r', hr', q3, q4, q5⟩ := hcv j (by omega)
    have := rts_uniq hF hr' hv' q3 q1
    omega
/-- The numbers of the components. -/
noncomputable def labS (n : Nat) (near : Int → List Int) : Nat → List Int
  | 0 => List.replicate n (-1)
  | i + 1 => open Classical in if ∃ r ∈ rts n near i, (i : Int) ∈ (trC n near r).1 then labS n near i else setT (labS n near i) (trC n near (i : Nat)).1 (rts n near i).length
theorem setT_same {L o o' : List Int} {m : Int} (h : ∀ x ∈ o, 0 ≤ x ∧ x < L.length) (h' : ∀ x ∈ o', 0 ≤ x ∧ x < L.length) (e : ∀ x, x ∈ o ↔ x ∈ o') : setT L o m = setT L o' m := by
  apply List.ext_getElem (by rw [setT_len, setT_len])
  intro k h1 h2
  have g1 := setT_get m o L h (k : Nat) (by omega)
  have g2 := setT_get m o' L h' (k : Nat) (by omega)
  have e1 : geti (setT L o m) (k : Nat) = (setT L o m)[k] := by simp [geti, List.getD_eq_getElem?_getD, List.getElem?_eq_getElem h1]
  have e2 : geti (setT L o' m) (k : Nat) = (setT L o' m)[k] := by simp [geti, List.getD_eq_getElem?_getD, List.getElem?_eq_getElem h2]
  rw [← e1, ← e2, g1, g2]
  simp only [e]
theorem labS_skip {i : Nat} {L : List Int} {m : Int} (h : LbI n near i L m) (hi : i < n) (hc : 0 ≤ geti L (i : Nat)) (e : L = labS n near i) : L = labS n near (i + 1) := by
  have hr := (h.cov (i : Nat) (by omega) (by omega)).1 hc
  rw [labS, if_pos hr]; exact e
theorem labS_new (hF : Fst n near) {i : Nat} {L o p : List Int} {m : Int} (h : LbI n near i L m) (hi : i < n) (hc : ¬ 0 ≤ geti L (i : Nat)) (ht : Tr n near (i : Nat) o p) (e : L = labS n near i) : setT L o m = labS n near (i + 1) := by
  have hno : ¬ ∃ r ∈ rts n near i, (i : Int) ∈ (trC n near r).1 := fun hh => hc ((h.cov (i : Nat) (by omega) (by omega)).2 hh)
  have hT := trC_ok hF (r := (i : Nat)) ⟨by omega, by omega⟩
  rw [labS, if_neg hno, ← e, h.num]
  exact setT_same (fun x hx => by have := ht.rng x hx; have := h.len; omega) (fun x hx => by have := hT.rng x hx; have := h.len; omega) (ht.iff hT)
end
end Go.Proofs.Ytbalbiliejjnoaa
/-
  Branch determinants by orders that are run backwards. No condition.
-/
namespace Go.Proofs.Ytbalbiliejjnoaa
open Go Go.RowKit
section
variable {n : Nat} {near : Int → List Int} {W : List Int}

def VlAt (n : Nat) (near : Int → List Int) (W p f h : List Int) (x : Int) : Prop := ∃ a b, FG n near W p x = some (a, b) ∧ geti f x = b ∧ geti h x = a
structure OutI (n : Nat) (near : Int → List Int) (W : List Int) (i : Nat) (f h : List Int) : Prop where
  lf : f.length = n
  lh : h.length = n
  bf : ∀ x ∈ f, inM x
  bh : ∀ x ∈ h, inM x
  vl : ∀ r ∈ rts n near i, ∀ x ∈ (trC n near r).1, VlAt n near W (trC n near r).2 f h x
theorem OutI.start : OutI n near W 0 (List.replicate n 0) (List.replicate n 0) :=
  ⟨by simp, by simp, fun x hx => by rw [List.eq_of_mem_replicate hx]; exact inM0, fun x hx => by rw [List.eq_of_mem_replicate hx]; exact inM0, fun r hr => by simp [rts] at hr⟩
structure MidI (n : Nat) (near : Int → List Int) (W o p f0 h0 : List Int) (t : Nat) (f h : List Int) : Prop where
  le : t ≤ o.length
  lf : f.length = n
  lh : h.length = n
  bf : ∀ x ∈ f, inM x
  bh : ∀ x ∈ h, inM x
  vl : ∀ (q : Nat) (x : Int), t ≤ q → o[q]? = some x → VlAt n near W p f h x
  fr : ∀ x : Int, 0 ≤ x → x ∉ o → geti f x = geti f0 x ∧ geti h x = geti h0 x
theorem MidI.start {i : Nat} {o p f h : List Int} (hO : OutI n near W i f h) : MidI n near W o p f h o.length f h :=
  ⟨Nat.le_refl _, hO.lf, hO.lh, hO.bf, hO.bh, fun q x hq hx => (by rw [List.getElem?_eq_none hq] at hx; cases hx), fun _ _ _ => ⟨rfl, rfl⟩⟩
theorem MidI.child {r v c : Int} {o p f0 h0 f h : List Int} {t : Nat} (hT : Tr n near r o p) (hM : MidI n near W o p f0 h0 (t + 1) f h) (hv : o[t]? = some v) (hc : c ∈ near v) (hp : c ≠ geti p v) : VlAt n near W p f h c := by
  obtain ⟨c1, c2, c3⟩ := hT.ch (List.mem_of_getElem? hv) hc hp
  obtain ⟨j, hj⟩ := List.getElem?_of_mem c1
  obtain ⟨m, y, m1, m2, m3, _⟩ := hT.par hj c2
  rw [c3] at m3
  subst m3
  have := nd_get hT.nd m2 hv
  exact hM.vl j c (by omega) hj
theorem mem_set' {l : List Int} {k : Nat} {v : Int} {P : Int → Prop} (h : ∀ x ∈ l, P x) (hv : P v) : ∀ x ∈ l.set k v, P x := fun x hx => by
  rcases List.mem_or_eq_of_mem_set hx with hx | hx
  · exact h x hx
  · rw [hx]; exact hv
theorem MidI.put {r v P R : Int} {o p f0 h0 f h : List Int} {t : Nat} (hT : Tr n near r o p) (hM : MidI n near W o p f0 h0 (t + 1) f h) (hv : o[t]? = some v) (hF : FG n near W p v = some (P, R)) (hP : inM P) (hR : inM R) :
    MidI n near W o p f0 h0 t (f.set v.toNat R) (h.set v.toNat P) := by
  have hvm := List.mem_of_getElem? hv
  have hvr := hT.rng v hvm
  have lf := hM.lf
  have lh := hM.lh
  refine ⟨by have := hM.le; omega, by rw [List.length_set]; exact lf, by rw [List.length_set]; exact lh, mem_set' hM.bf hR, mem_set' hM.bh hP, fun q x hq hx => ?_, fun x hx hno => ?_⟩
  · have hxr := hT.rng x (List.mem_of_getElem? hx)
    by_cases e : x = v
    · subst e
      exact ⟨P, R, hF, by rw [geti_st hvr.1 hxr.1 (by omega), if_pos rfl], by rw [geti_st hvr.1 hxr.1 (by omega), if_pos rfl]⟩
    · have hqt : t + 1 ≤ q := by
        have : q ≠ t := fun hh => by subst hh; rw [hv] at hx; exact e (Option.some.inj hx).symm
        omega
      obtain ⟨a, b, q1, q2, q3⟩ := hM.vl q x hqt hx
      exact ⟨a, b, q1, by rw [geti_st hvr.1 hxr.1 (by omega), if_neg e]; exact q2, by rw [geti_st hvr.1 hxr.1 (by omega), if_neg e]; exact q3⟩
  · have e : x ≠ v := fun hh => hno (hh ▸ hvm)
    obtain ⟨q1, q2⟩ := hM.fr x hx hno
    exact ⟨by rw [geti_st hvr.1 hx (by omega), if_neg e]; exact q1, by rw [geti_st hvr.1 hx (by omega), if_neg e]; exact q2⟩
theorem MidI.done (hF : Fst n near) {i : Nat} {o p f0 h0 f h : List Int} (hi : i < n) (hT : Tr n near (i : Nat) o p) (hO : OutI n near W i f0 h0) (hM : MidI n near W o p f0 h0 0 f h) (hr : (i : Int) ∈ rts n near n) : OutI n near W (i + 1) f h := by
  have hno := (rts_iff hF hi).1 hr
  have hC := trC_ok hF (r := (i : Nat)) ⟨by omega, by omega⟩
  have hio := hT.iff hC
  refine ⟨hM.lf, hM.lh, hM.bf, hM.bh, fun r hr' x hx => ?_⟩
  rw [rts_step hF hi, if_pos hr] at hr'
  rcases List.mem_append.1 hr' with hr' | hr'
  · have h1 := rts_rng n near i r hr'
    have hxo : x ∉ o := fun hh => Tr.disj (trC_ok hF (r := r) ⟨h1.1, by omega⟩) hC hF (fun hh => hno ⟨r, hr', hh⟩) x ((hio x).1 hh) hx
    have hx0 := ((trC_ok hF (r := r) ⟨h1.1, by omega⟩).rng x hx).1
    obtain ⟨a, b, q1, q2, q3⟩ := hO.vl r hr' x hx
    obtain ⟨q4, q5⟩ := hM.fr x hx0 hxo
    exact ⟨a, b, q1, by rw [q4]; exact q2, by rw [q5]; exact q3⟩
  · rw [List.mem_singleton.1 hr'] at hx ⊢
    have hxo := (hio x).2 hx
    obtain ⟨j, hj⟩ := List.getElem?_of_mem hxo
    obtain ⟨a, b, q1, q2, q3⟩ := hM.vl j x (Nat.zero_le _) hj
    exact ⟨a, b, by rw [← FG_uniq hT hC x hxo]; exact q1, q2, q3⟩
theorem OutI.skip (hF : Fst n near) {i : Nat} {f h : List Int} (hi : i < n) (hO : OutI n near W i f h) (hr : ¬ (i : Int) ∈ rts n near n) : OutI n near W (i + 1) f h :=
  ⟨hO.lf, hO.lh, hO.bf, hO.bh, by rw [rts_step hF hi, if_neg hr]; exact hO.vl⟩
theorem OutI.fin (hF : Fst n near) {f h : List Int} (hO : OutI n near W n f h) : bdOk n near W ∧ f = bdF n near W ∧ h = bdG n near W := by
  have hx : ∀ x : Int, 0 ≤ x → x < n → VlAt n near W (trC n near (rootOf n near x)).2 f h x := fun x h0 h1 => by
    obtain ⟨h3, h4⟩ := rootOf_ok hF ⟨h0, h1⟩
    exact hO.vl _ h3 x h4
  refine ⟨fun r hr x hx => ?_, list_eq (F := fun x => ((bdV n near W x).getD (0, 0)).2) hO.lf fun x h0 h1 => ?_, list_eq (F := fun x => ((bdV n near W x).getD (0, 0)).1) hO.lh fun x h0 h1 => ?_⟩
  · obtain ⟨a, b, q1, _⟩ := hO.vl r hr x hx
    rw [q1]; simp
  · obtain ⟨a, b, q1, q2, q3⟩ := hx x h0 h1
    show geti f x = ((bdV n near W x).getD (0, 0)).2
    unfold bdV; rw [q1]; exact q2
  · obtain ⟨a, b, q1, q2, q3⟩ := hx x h0 h1
    show geti h x = ((bdV n near W x).getD (0, 0)).1
    unfold bdV; rw [q1]; exact q3
/-- The children seen so far. -/
def InV (n : Nat) (near : Int → List Int) (W p : List Int) (v : Int) (k : Nat) (P R : Int) : Prop := fO (FG n near W p) (((near v).take k).filter fun u => decide (u ≠ geti p v)) (1, -geti W v) = some (P, R)
theorem InV.start {p : List Int} {v : Int} : InV n near W p v 0 1 (-geti W v) := by simp [InV, fO]
theorem take_in {l : List Int} {k : Nat} {u : Int} (hu : l[k]? = some u) : l.take (k + 1) = l.take k ++ [u] := by rw [List.take_add_one, hu]; rfl
theorem InV.skip {p : List Int} {v u P R : Int} {k : Nat} (h : InV n near W p v k P R) (hu : (near v)[k]? = some u) (he : u = geti p v) : InV n near W p v (k + 1) P R := by
  unfold InV at *
  rw [take_in hu, List.filter_append, List.filter_cons_of_neg (by simp [he])]
  simpa using h
theorem InV.one {p : List Int} {v u P R : Int} {k : Nat} (h : InV n near W p v k P R) (hu : (near v)[k]? = some u) (he : u ≠ geti p v) :
    fO (FG n near W p) (((near v).take (k + 1)).filter fun u => decide (u ≠ geti p v)) (1, -geti W v) = fO (FG n near W p) [u] (P, R) := by
  unfold InV at h
  rw [take_in hu, List.filter_append, List.filter_cons_of_pos (by simpa using he), fO_app, h]
  rfl
theorem InV.step {p f h : List Int} {v u P R : Int} {k : Nat} (hI : InV n near W p v k P R) (hu : (near v)[k]? = some u) (he : u ≠ geti p v) (hV : VlAt n near W p f h u) (hk : okS P R (geti f u) (geti h u) = true) :
    InV n near W p v (k + 1) (P * geti f u) (R * geti f u - P * geti h u) := by
  obtain ⟨a, b, q1, rfl, rfl⟩ := hV
  unfold InV
  rw [hI.one hu he, fO, q1]
  simp only
  rw [if_pos hk]; rfl
theorem InV.bad {r : Int} {o p f h : List Int} {v u P R : Int} {k : Nat} (hT : Tr n near r o p) (hv : v ∈ o) (hI : InV n near W p v k P R) (hu : (near v)[k]? = some u) (he : u ≠ geti p v) (hV : VlAt n near W p f h u) (hk : ¬ okS P R (geti f u) (geti h u) = true) : FG n near W p v = none := by
  obtain ⟨a, b, q1, rfl, rfl⟩ := hV
  rw [FG_eq hT hv]
  unfold chl
  rw [show (near v) = (near v).take (k + 1) ++ (near v).drop (k + 1) from (List.take_append_drop _ _).symm, List.filter_append, fO_app, hI.one hu he, fO, q1]
  simp only
  rw [if_neg hk]; rfl
theorem InV.fin {r : Int} {o p : List Int} {v P R : Int} (hT : Tr n near r o p) (hv : v ∈ o) (hI : InV n near W p v (near v).length P R) : FG n near W p v = some (P, R) := by
  unfold InV at hI
  rw [List.take_length] at hI
  rw [FG_eq hT hv]; exact hI
theorem bd_bad (hF : Fst n near) {i : Nat} {o p : List Int} {v : Int} (hi : i < n) (hr : (i : Int) ∈ rts n near n) (hT : Tr n near (i : Nat) o p) (hv : v ∈ o) (hn : FG n near W p v = none) : ¬ bdOk n near W := by
  have hC := trC_ok hF (r := (i : Nat)) ⟨by omega, by omega⟩
  intro hb
  refine hb _ hr v ((hT.iff hC v).1 hv) ?_
  rw [← FG_uniq hT hC v hv]; exact hn
end
end Go.Proofs.Ytbalbiliejjnoaa
