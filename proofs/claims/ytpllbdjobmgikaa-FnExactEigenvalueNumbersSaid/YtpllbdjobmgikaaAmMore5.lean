/-
  Functions without results that write to what they are handed. No condition.
-/
import Derived.Test.YtpllbdjobmgikaaAmMore
namespace Go.Proofs.Ytpllbdjobmgikaa
open Go Go.RowKit
theorem AFnUN.of {P : Program} {f : FuncId} {fn : Func} {c : Code} {args : List AV} {os : List AO} {Q : Value → List AO → Prop} {n : Nat} (hf : P.funcs[f]? = some fn) (hb : fn.body = some c) (hnm : (fn.name == "runtime.NumGoroutine") = false) (hn : fn.ntmps - args.length = n)
    (h : ∀ K, AWp P c (fun env os1 => ∃ v os', ResIs P fn env os1 (.val v) ∧ Q v os' ∧ os1.take os.length = os' ∧ os1[os.length]? = some (.keep (os.length + 1) K) ∧ ∀ o ∈ os', o.plain) (fun _ _ _ => False) (fun env os1 => ∃ v os', ResIs P fn env os1 (.val v) ∧ Q v os' ∧ os1.take os.length = os' ∧ os1[os.length]? = some (.keep (os.length + 1) K) ∧ ∀ o ∈ os', o.plain) (Env.start args n) (os ++ [.keep (os.length + 1) K])) :
    AFnU P f args os Q := by
  refine ⟨⟨fn, c, hf, hnm, hb⟩, fun base w gs vs hbase hO hsz hvs => calls_of_wp hf hb ?_⟩
  rw [show fn.ntmps - vs.size = n by rw [hsz]; exact hn]
  let bl : List Nat := (List.range w.heap.size).filter fun b => decide (base ≤ b) && gs.all fun g => !g.bl.contains b
  let gk : Gh := ⟨undef, 0, bl, []⟩
  let K : Kp := ⟨fun b => w.heap[b]?, gs ++ [gk]⟩
  have hbl : ∀ b, b ∈ bl ↔ b < w.heap.size ∧ base ≤ b ∧ ∀ (h : Nat) g, gs[h]? = some g → b ∉ g.bl := by
    intro b
    simp only [bl, List.mem_filter, List.mem_range, Bool.and_eq_true, decide_eq_true_eq, List.all_eq_true, Bool.not_eq_true', List.contains_eq_mem, decide_eq_false_iff_not]
    constructor
    · rintro ⟨h1, h2, h3⟩
      exact ⟨h1, h2, fun h g hg => h3 g (List.mem_of_getElem? hg)⟩
    · rintro ⟨h1, h2, h3⟩
      exact ⟨h1, h2, fun g hg => by obtain ⟨i, hi⟩ := List.getElem?_of_mem hg; exact h3 i g hi⟩
  have hl := hO.hl
  have part : ∀ {i : Nat} {x : Gh} {y : AO}, (gs ++ [gk])[i]? = some x → (os ++ [.keep (os.length + 1) K])[i]? = some y → (gs[i]? = some x ∧ os[i]? = some y) ∨ (i = os.length ∧ x = gk ∧ y = .keep (os.length + 1) K) := by
    intro i x y hx hy
    rcases append_one hx with ⟨h1, h2⟩ | ⟨h1, rfl⟩
    · rcases append_one hy with ⟨h3, h4⟩ | ⟨h3, rfl⟩
      · exact .inl ⟨h2, h4⟩
      · omega
    · rcases append_one hy with ⟨h3, h4⟩ | ⟨h3, rfl⟩
      · omega
      · exact .inr ⟨h3, rfl, rfl⟩
  have gl : ∀ (i : Nat) x, gs[i]? = some x → (gs ++ [gk])[i]? = some x := fun i x e => by
    rw [List.getElem?_append_left (List.getElem?_eq_some_iff.1 e).1]; exact e
  have kp : Keeps (okOf gs os) (okOf (gs ++ [gk]) (os ++ [.keep (os.length + 1) K])) w w := by
    intro b hbk _
    refine ⟨fun i x y hx hy hny hm => ?_, rfl⟩
    rcases part hx hy with ⟨h1, h2⟩ | ⟨_, _, rfl⟩
    · exact hbk i x y h1 h2 hny hm
    · exact hny.elim
  have hrel : Rel base w (gs ++ [gk]) (Env.start args n) (os ++ [.keep (os.length + 1) K]) (vs ++ Array.replicate n undef) := by
    refine ⟨hbase, by simp [hl], by simp [Env.start, hsz], fun i => ?_, ?_, ?_, ?_⟩
    · exact start_rv args n vs (fun i => (hvs i).mono kp gl) i
    · intro i x y hx hy
      rcases part hx hy with ⟨h1, h2⟩ | ⟨_, rfl, rfl⟩
      · exact (hO.hp y (List.mem_of_getElem? h2)).ro (hO.ho i x y h1 h2)
      · exact ⟨fun b _ => rfl, by simp [K, hl], fun i x h => h⟩
    · intro i j g1 g2 o1 o2 hij hg1 hg2 ho1 ho2 _ _ b hb1 hb2
      rcases part hg1 ho1 with ⟨a1, a2⟩ | ⟨a1, rfl, _⟩
      · rcases part hg2 ho2 with ⟨b1, b2⟩ | ⟨_, rfl, _⟩
        · exact hO.hd i j g1 g2 hij a1 b1 b hb1 hb2
        · exact ((hbl b).1 hb2).2.2 i g1 a1 hb1
      · rcases part hg2 ho2 with ⟨b1, b2⟩ | ⟨b1, _, _⟩
        · exact ((hbl b).1 hb1).2.2 j g2 b1 hb2
        · omega
    · intro i x y hx hy _ b hb
      rcases part hx hy with ⟨h1, h2⟩ | ⟨_, rfl, _⟩
      · exact hO.hn i x h1 b hb
      · exact ⟨((hbl b).1 hb).2.1, ((hbl b).1 hb).1⟩
  refine wp_mono (h K base w w _ _ hrel (Below.refl _ _)) ?_
  intro e a w' hq
  cases e with
  | normal =>
    obtain ⟨env, os1, gs1, hr, hd, hbel, v, os', h1, h2, h3, h4, h5⟩ := hq
    obtain ⟨u, hu, hv⟩ := h1 _ _ _ _ hr
    cases hv
    have hlt : os.length < os1.length := (List.getElem?_eq_some_iff.1 h4).1
    have hltg : os.length < gs1.length := by have := hr.hl; omega
    obtain ⟨g1, hg1⟩ : ∃ g1, gs1[os.length]? = some g1 := ⟨_, List.getElem?_eq_getElem hltg⟩
    obtain ⟨r1, r2, r3⟩ := hr.ho _ _ _ hg1 h4
    have pin : ∀ (i : Nat) x, gs[i]? = some x → gs1[i]? = some x := fun i x e => r3 i x (gl i x e)
    have egk : g1 = gk := by
      have := r3 os.length gk (by show (gs ++ [gk])[os.length]? = some gk; rw [← hl]; simp)
      rw [hg1] at this
      exact Option.some.inj this
    rw [egk] at r1
    have get' : ∀ {i : Nat} {y : AO}, os'[i]? = some y → os1[i]? = some y ∧ i < os.length := by
      intro i y hy
      rw [← h3, List.getElem?_take] at hy
      split at hy
      · exact ⟨hy, ‹_›⟩
      · cases hy
    refine ⟨hd, v, hu, v, os', rfl, h2, ⟨?_, h5, ?_, hO.hd, ?_⟩, hbel, ?_⟩
    · rw [← h3, List.length_take]; omega
    · intro i x y hx hy
      obtain ⟨h6, h7⟩ := get' hy
      exact (h5 y (List.mem_of_getElem? hy)).ro (hr.ho i x y (pin i x hx) h6)
    · intro i x hx b hb
      have := hO.hn i x hx b hb
      exact ⟨this.1, Nat.lt_of_lt_of_le this.2 hbel.size⟩
    · intro b hb hnot
      rcases Nat.lt_or_ge b base with h6 | h6
      · exact hbel.block b h6
      · exact r1 b ((hbl b).2 ⟨hb, h6, hnot⟩)
  | exit j => obtain ⟨_, _, _, _, _, _, hx⟩ := hq; exact hx.elim
  | ret =>
    obtain ⟨env, os1, gs1, hr, hd, hbel, v, os', h1, h2, h3, h4, h5⟩ := hq
    obtain ⟨u, hu, hv⟩ := h1 _ _ _ _ hr
    cases hv
    have hlt : os.length < os1.length := (List.getElem?_eq_some_iff.1 h4).1
    have hltg : os.length < gs1.length := by have := hr.hl; omega
    obtain ⟨g1, hg1⟩ : ∃ g1, gs1[os.length]? = some g1 := ⟨_, List.getElem?_eq_getElem hltg⟩
    obtain ⟨r1, r2, r3⟩ := hr.ho _ _ _ hg1 h4
    have pin : ∀ (i : Nat) x, gs[i]? = some x → gs1[i]? = some x := fun i x e => r3 i x (gl i x e)
    have egk : g1 = gk := by
      have := r3 os.length gk (by show (gs ++ [gk])[os.length]? = some gk; rw [← hl]; simp)
      rw [hg1] at this
      exact Option.some.inj this
    rw [egk] at r1
    have get' : ∀ {i : Nat} {y : AO}, os'[i]? = some y → os1[i]? = some y ∧ i < os.length := by
      intro i y hy
      rw [← h3, List.getElem?_take] at hy
      split at hy
      · exact ⟨hy, ‹_›⟩
      · cases hy
    refine ⟨hd, v, hu, v, os', rfl, h2, ⟨?_, h5, ?_, hO.hd, ?_⟩, hbel, ?_⟩
    · rw [← h3, List.length_take]; omega
    · intro i x y hx hy
      obtain ⟨h6, h7⟩ := get' hy
      exact (h5 y (List.mem_of_getElem? hy)).ro (hr.ho i x y (pin i x hx) h6)
    · intro i x hx b hb
      have := hO.hn i x hx b hb
      exact ⟨this.1, Nat.lt_of_lt_of_le this.2 hbel.size⟩
    · intro b hb hnot
      rcases Nat.lt_or_ge b base with h6 | h6
      · exact hbel.block b h6
      · exact r1 b ((hbl b).2 ⟨hb, h6, hnot⟩)
  | goto l => exact (hq : False).elim
  | panic ch => exact (hq : False).elim
  | outgrown => exact (hq : False).elim


theorem AFnUN.start {P : Program} {f : FuncId} {fn : Func} {c : Code} {args : List AV} {objs : List AO} {Q : Value → List AO → Prop} {m : Nat} (hf : P.funcs[f]? = some fn) (hn : fn.ntmps = m) (hb : fn.body = some c) (hnm : (fn.name == "runtime.NumGoroutine") = false)
    (h : ∀ K, AWp P c (fun env os1 => ∃ v os', ResIs P fn env os1 (.val v) ∧ Q v os' ∧ os1.take objs.length = os' ∧ os1[objs.length]? = some (.keep (objs.length + 1) K) ∧ ∀ o ∈ os', o.plain) (fun _ _ _ => False) (fun env os1 => ∃ v os', ResIs P fn env os1 (.val v) ∧ Q v os' ∧ os1.take objs.length = os' ∧ os1[objs.length]? = some (.keep (objs.length + 1) K) ∧ ∀ o ∈ os', o.plain) (Env.start args (m - args.length)) (objs ++ [.keep (objs.length + 1) K])) :
    AFnU P f args objs Q := AFnUN.of hf hb hnm (by rw [hn]) h
theorem ResIs.unit {P : Program} {fn : Func} {env : Env} {os : List AO} (h : fn.results = #[]) : ResIs P fn env os (.val (.tuple #[])) :=
  fun _ _ _ tm hr => ⟨.tuple #[], by unfold results; rw [h]; simp, .val _⟩
end Go.Proofs.Ytpllbdjobmgikaa
