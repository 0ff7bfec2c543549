/-
  A row of an own slice of rows is handed to a function that writes to it. No condition.
-/
import Derived.Test.YtfgnccoaebkckaaDoorAmMore2
namespace Go.Proofs.YtfgnccoaebkckaaDoor
open Go Go.RowKit

theorem flatten_disj {bs : List (List Nat)} (h : bs.flatten.Nodup) {i j : Nat} (hij : i ≠ j) {c : Nat} (hi : c ∈ bs.getD i []) (hj : c ∈ bs.getD j []) : False := by
  have lt : ∀ {k : Nat}, c ∈ bs.getD k [] → k < bs.length := fun {k} hk => by
    rcases Nat.lt_or_ge k bs.length with h1 | h1
    · exact h1
    · rw [List.getD_eq_getElem?_getD, List.getElem?_eq_none h1] at hk; simp at hk
  have hil := lt hi
  have hjl := lt hj
  have ej : bs.getD j [] = bs[j] := by simp [List.getD_eq_getElem?_getD, hjl]
  rw [flatten_at hil] at h
  simp only [List.nodup_append, List.mem_append] at h
  obtain ⟨_, ⟨_, _, h2⟩, h3⟩ := h
  rcases Nat.lt_or_ge j i with h1 | h1
  · have : c ∈ (bs.take i).flatten := List.mem_flatten.2 ⟨bs[j], by rw [List.mem_take_iff_getElem]; exact ⟨j, by omega, rfl⟩, by rw [← ej]; exact hj⟩
    exact h3 c this c (.inl hi) rfl
  · have : c ∈ (bs.drop (i + 1)).flatten := List.mem_flatten.2 ⟨bs[j], by rw [List.mem_drop_iff_getElem]; exact ⟨j - (i + 1), by omega, by congr 1; omega⟩, by rw [← ej]; exact hj⟩
    exact h2 c hi c this rfl

section
variable {P : Program} {env : Env} {os : List AO} {d : Tmp} {ty : TypeId} {pos : String} {af : Array Edge} {l rest : List Oper} {K : APost}
theorem w_callrow {f : FuncId} {ats : Array TypeId} {v0 : Value} {h i : Nat} {e e2 : TypeId} {xss : List (List Int)} {Q : Value → List AO → Prop} {x y : Operand} (hx : evo env x = some (.orow h i)) (hs : os[h]? = some (.sls e e2 xss)) (hy : evo env y = some (.val v0))
    (hc : AFnU P f [.own 0, .val v0] [.sli e2 (xss.getD i [])] Q)
    (hQ : ∀ v os', Q v os' → ∃ row', os' = [.sli e2 row'])
    (h' : ∀ v row', Q v [.sli e2 row'] → AOps P .seq l rest K (env.up d (.val v)) (os.set h (.sls e e2 (xss.set i row')))) :
    AOps P .seq l (⟨some d, .call { callee := .value (.func f), args := #[x, y], argTypes := ats }, ty, pos, af, none⟩ :: rest) K env os := by
  refine AOps.ca (Q := fun r en o => ∃ v row', Q v [.sli e2 row'] ∧ r = .val v ∧ en = env ∧ o = os.set h (.sls e e2 (xss.set i row'))) ?_ fun r en o ⟨v, row', h0, h1, h2, h3⟩ => by subst h1; subst h2; subst h3; exact h' v row' h0
  intro base w gs tm hr
  have hev := hr.ev x
  rw [ev_of hx] at hev
  generalize hv : Act.eval ⟨tm, []⟩ x = u at hev
  cases hev with
  | @orow _ _ gh _ hg hrow =>
    obtain ⟨vs, bs, mb, a1, a2, a3, a4, a5, a6, a7, a8⟩ := hr.ho _ _ _ hg hs
    rw [a4] at hrow
    obtain ⟨r1, r2, r3⟩ := a5 _ _ hrow
    have hiv : i < vs.length := (List.getElem?_eq_some_iff.1 hrow).1
    let gr : Gh := ⟨u, u.ownBlock.getD 0, u.ownBlock.toList, []⟩
    have hgr : GB gr := by
      show (u.ownBlock = none ∧ u.ownBlock.toList = []) ∨ (u.ownBlock = some (u.ownBlock.getD 0) ∧ u.ownBlock.toList = [u.ownBlock.getD 0])
      cases u.ownBlock with
      | none => exact .inl ⟨rfl, rfl⟩
      | some b => exact .inr ⟨rfl, rfl⟩
    have sub : ∀ b, b ∈ gr.bl → b ∈ gh.bl := by
      intro b hb
      have hb' : b ∈ bs.getD i [] := by rw [← r3]; exact hb
      rw [a7]
      refine List.mem_append.2 (.inr (List.mem_flatten.2 ⟨bs.getD i [], ?_, hb'⟩))
      have hib : i < bs.length := by omega
      rw [List.getD_eq_getElem?_getD, List.getElem?_eq_getElem hib]; simp
    have one : ∀ {k : Nat} {g : Gh}, [gr][k]? = some g → k = 0 ∧ g = gr := by
      intro k g hk
      have := (List.getElem?_eq_some_iff.1 hk).1
      simp at this
      subst this
      simp at hk
      exact ⟨rfl, hk.symm⟩
    have hO : Objs base w [gr] [.sli e2 (xss.getD i [])] := by
      refine ⟨rfl, fun o ho => by simp at ho; subst ho; trivial, ?_, ?_, ?_⟩
      · intro k g o hk ho
        obtain ⟨rfl, rfl⟩ := one hk
        simp at ho
        subst ho
        exact ⟨r1, r2, hgr⟩
      · intro k m g g' hkm hk hm
        obtain ⟨rfl, _⟩ := one hk
        obtain ⟨rfl, _⟩ := one hm
        exact absurd rfl hkm
      · intro k g hk b hb
        obtain ⟨_, rfl⟩ := one hk
        exact hr.hn _ _ _ hg hs (by simp) b (sub b hb)
    refine ⟨f, _, run_call hc.1 [x, y] ats _ rfl w, (hc.2 base w [gr] _ hr.hb hO (by simp) fun k => ?_).mono ?_⟩
    · match k with
      | 0 =>
        have : RV w (okOf [gr] [.sli e2 (xss.getD i [])]) [gr] u (.own 0) := RV.own (g := gr) (by simp)
        simpa [hv] using this
      | 1 =>
        have hyv := hr.evv (ev_of hy)
        have : RV w (okOf [gr] [.sli e2 (xss.getD i [])]) [gr] (Act.eval ⟨tm, []⟩ y) (.val v0) := by rw [hyv]; exact .val _
        simpa using this
      | k + 2 => exact .any _
    · rintro en w' ⟨v, os', rfl, hq, hO', hbel, hw⟩
      obtain ⟨row', rfl⟩ := hQ v os' hq
      have hunch : ∀ c, c < w.heap.size → c ∉ gr.bl → w'.heap[c]? = w.heap[c]? := fun c hc hn => hw c hc fun k g hk => by
        obtain ⟨_, rfl⟩ := one hk
        exact hn
      have hother : ∀ c, c < w.heap.size → c ∉ gh.bl → w'.heap[c]? = w.heap[c]? := fun c hc hn => hunch c hc fun h1 => hn (sub c h1)
      have a8' : (mb ++ bs.flatten).Nodup := by rw [← a7]; exact a8
      have grb : ∀ c, c ∈ gr.bl → c ∈ bs.getD i [] := fun c hc => by rw [← r3]; exact hc
      have inbl : ∀ c, c ∈ gh.bl → c < w.heap.size := fun c hc => (hr.hn _ _ _ hg hs (by simp) c hc).2
      have memfl : ∀ {k : Nat} {c : Nat}, c ∈ bs.getD k [] → c ∈ bs.flatten := by
        intro k c hc
        have hkb : k < bs.length := by
          rcases Nat.lt_or_ge k bs.length with h1 | h1
          · exact h1
          · rw [List.getD_eq_getElem?_getD, List.getElem?_eq_none h1] at hc; simp at hc
        exact List.mem_flatten.2 ⟨bs.getD k [], by rw [List.getD_eq_getElem?_getD, List.getElem?_eq_getElem hkb]; simp, hc⟩
      refine ⟨v, .val v, env, os.set h (.sls e e2 (xss.set i row')), gs, rfl, ⟨v, row', hq, rfl, rfl, rfl⟩, hr.upd hg hs trivial _ trivial hother hbel.size (fun _ => ?_), .val v, hbel⟩
      refine ⟨vs, bs, mb, ?_, by simp [a2], by simp [a3], a4, fun j z hj => ?_, a6, a7, a8⟩
      · refine ownsRow_of_block a1 fun c hc => ?_
        have hcm : c ∈ mb := by
          rcases a6 with ⟨c1, _⟩ | ⟨c1, c2⟩
          · rw [c1] at hc; cases hc
          · rw [c1] at hc; cases hc; rw [c2]; simp
        have hcg : c ∈ gh.bl := by rw [a7]; exact List.mem_append.2 (.inl hcm)
        exact hunch c (inbl c hcg) fun h1 => (List.nodup_append.1 a8').2.2 c hcm c (memfl (grb c h1)) rfl
      · have egd : (xss.set i row').getD j [] = if i = j then row' else xss.getD j [] := by
          simp only [List.getD_eq_getElem?_getD, List.getElem?_set]
          by_cases e1 : i = j
          · subst e1
            have : i < xss.length := by omega
            simp [this]
          · simp [e1]
        rw [egd]
        by_cases e1 : i = j
        · subst e1
          rw [if_pos rfl]
          have h0 := hO'.ho 0 gr (.sli e2 row') (by simp) (by simp)
          obtain ⟨q1, q2, q3⟩ := h0
          have ez : z = u := by rw [hrow] at hj; exact (Option.some.inj hj).symm
          rw [ez]
          exact ⟨q1, q2, r3⟩
        · rw [if_neg e1]
          obtain ⟨q1, q2, q3⟩ := a5 j z hj
          refine ⟨ownsRow_of_block q1 fun c hc => ?_, q2, q3⟩
          have hcj : c ∈ bs.getD j [] := by rw [← q3, hc]; simp
          have hcg : c ∈ gh.bl := by rw [a7]; exact List.mem_append.2 (.inr (memfl hcj))
          exact hunch c (inbl c hcg) fun h1 => flatten_disj (List.nodup_append.1 a8').2.1 e1 (grb c h1) hcj
end

end Go.Proofs.YtfgnccoaebkckaaDoor
