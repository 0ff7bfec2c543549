/-
  slices.Insert as an operation of the engine: one row more. No condition but a bound on the size.
-/
import Derived.Test.YtpllbdjobmgikaaIns5
import Derived.Test.YtpllbdjobmgikaaAmMore11
import Derived.Test.YtpllbdjobmgikaaAmMore20
namespace Go.Proofs.Ytpllbdjobmgikaa
open Go Go.RowKit
set_option linter.unusedVariables false
set_option linter.unusedSimpArgs false

theorem ins_get {α : Type} (l : List α) (x : α) {i : Nat} (hi : i ≤ l.length) (j : Nat) : (l.take i ++ x :: l.drop i)[j]? = if j < i then l[j]? else if j = i then some x else l[j - 1]? := by
  have hl : (l.take i).length = i := by simp; omega
  by_cases h1 : j < i
  · rw [if_pos h1, List.getElem?_append_left (by omega), List.getElem?_take_of_lt h1]
  · rw [if_neg h1, List.getElem?_append_right (by omega), hl]
    by_cases h2 : j = i
    · rw [if_pos h2, h2, Nat.sub_self]; rfl
    · rw [if_neg h2]
      obtain ⟨k, hk⟩ : ∃ k, j - i = k + 1 := ⟨j - i - 1, by omega⟩
      rw [hk, List.getElem?_cons_succ, List.getElem?_drop]
      congr 1
      omega
theorem ins_getD {α : Type} (l : List α) (x d : α) {i : Nat} (hi : i ≤ l.length) (j : Nat) : (l.take i ++ x :: l.drop i).getD j d = if j < i then l.getD j d else if j = i then x else l.getD (j - 1) d := by
  simp only [List.getD_eq_getElem?_getD, ins_get l x hi]
  by_cases h1 : j < i
  · rw [if_pos h1, if_pos h1]
  · rw [if_neg h1, if_neg h1]
    by_cases h2 : j = i
    · rw [if_pos h2, if_pos h2]; rfl
    · rw [if_neg h2, if_neg h2]
theorem ins_flat (bs : List (List Nat)) (c : List Nat) (i : Nat) : (bs.take i ++ c :: bs.drop i).flatten.Perm (c ++ bs.flatten) := by
  have e : bs.flatten = (bs.take i).flatten ++ (bs.drop i).flatten := by rw [← List.flatten_append, List.take_append_drop]
  rw [List.flatten_append, List.flatten_cons, e, ← List.append_assoc, ← List.append_assoc]
  exact List.Perm.append_right _ List.perm_append_comm

section
variable {env : Env} {os : List AO} {d : Option Tmp} {ty : TypeId} {pos : String} {af : Array Edge} {g : Option (Nat × Bool)}
set_option maxHeartbeats 2000000 in
theorem c_insert {x y z : Operand} {ats : Array TypeId} {h m i : Nat} {e2 : TypeId} {L : List (List Int)} {row : List Int} (hx : AV.ev env x = .own h) (hs : os[h]? = some (.sls 31 e2 L)) (hy : AV.ev env y = .i i) (hi : i ≤ L.length) (hz : AV.ev env z = .own m) (hm : os[m]? = some (.sls 31 e2 [row])) (hhm : (h == m) = false) (hn : L.length ≤ 1000000) :
    COp Try.prog ⟨d, .call { callee := .value (.func 59), args := #[x, y, z], argTypes := ats }, ty, pos, af, g⟩ env os
      (fun r en o => r = .own h ∧ en = env.mp (AV.lose h) ∧ o = ((os.map (AO.via (AV.lose h) h)).set h (.sls 31 e2 (L.take i ++ row :: L.drop i))).set m .dead) := by
  have hne : h ≠ m := by simpa using hhm
  have hbd : HasBody Try.prog 59 := ⟨_, _, Try.func59, by kernel_rfl, rfl⟩
  intro base w gs tm hr
  have hxv := hr.ev x
  have hzv := hr.ev z
  have hyv := hr.evv hy
  rw [hx] at hxv
  rw [hz] at hzv
  generalize hv : Act.eval ⟨tm, []⟩ x = v at hxv
  generalize hu : Act.eval ⟨tm, []⟩ z = u at hzv
  cases hxv with
  | @own _ gh hg =>
  cases hzv with
  | @own _ gm hgm =>
    obtain ⟨vs, bs, mb, a1, a2, a3, a4, a5, a6, a7, a8⟩ := hr.ho _ _ _ hg hs
    obtain ⟨vs1, bs1, mb1, b1, b2, b3, b4, b5, b6, b7, b8⟩ := hr.ho _ _ _ hgm hm
    match vs1, b2 with
    | [rv], _ =>
    match bs1, b3 with
    | [bm], _ =>
    obtain ⟨q1, q2, q3⟩ := b5 0 rv rfl
    simp only [List.getD_cons_zero] at q1 q2 q3
    obtain ⟨vb, vc, ev, eo, _, _⟩ := own_slice b1 (i := 0) (by simp)
    have b1' := b1
    rw [ev] at b1'
    have hgh : ∀ b, gh.v.ownBlock = some b → b ∈ gh.bl := fun b hb => main_sub a7 a6 hb
    have hgv : vb ∈ gm.bl := main_sub b7 b6 eo
    have hdis : ∀ c, c ∈ gm.bl → c ∉ gh.bl := hr.hd m h gm gh _ _ (fun e => hne e.symm) hgm hg hm hs (by simp) (by simp)
    have hbl0 : ∀ b, b ∈ gh.bl → b < w.heap.size := fun b hb => (hr.hn _ _ _ hg hs (by simp) b hb).2
    have hblm : ∀ b, b ∈ gm.bl → b < w.heap.size := fun b hb => (hr.hn _ _ _ hgm hm (by simp) b hb).2
    have one1 : rv.oneCell' = true := by obtain ⟨a, c, e⟩ := ownsRow_slice q1; rw [e]; rfl
    have oneC : ∀ v ∈ vs, v.oneCell' = true := fun v hvm => by
      obtain ⟨j, hj⟩ := List.getElem?_of_mem hvm
      obtain ⟨a, c, e⟩ := ownsRow_slice (a5 j v hj).1
      rw [e]; rfl
    have hk := ins_k base vb vc i gh.v vs rv w a1 b1' one1 oneC (by omega) (fun e => hdis vb hgv (hgh vb e)) (by omega) hr.hb
    refine ⟨_, _, run_call hbd [x, y, z] ats _ rfl w, ?_⟩
    have eargs : ([x, y, z].map (Act.eval ⟨tm, []⟩)).toArray = #[gh.v, .int .i64 i, .slice (some ⟨vb, 0, none⟩) 1 vc] := by
      simp [hv, hu, hyv, ev]
    rw [eargs]
    refine hk.mono ?_
    rintro en w' ⟨s', rfl, r2, rb, rf, r5⟩
    have hhg : h < gs.length := (List.getElem?_eq_some_iff.1 hg).1
    let g' : Gh := ⟨s', s'.ownBlock.getD 0, s'.ownBlock.toList ++ (bs.take i ++ bm :: bs.drop i).flatten, vs.take i ++ rv :: vs.drop i⟩
    have hpm := ins_flat bs bm i
    have hmemf : ∀ b, b ∈ (bs.take i ++ bm :: bs.drop i).flatten → b ∈ bm ∨ b ∈ bs.flatten := fun b hb => List.mem_append.1 (hpm.mem_iff.1 hb)
    have subr : ∀ b, b ∈ bs.flatten → b ∈ gh.bl := fun b hb => by rw [a7]; exact List.mem_append.2 (.inr hb)
    have subm : ∀ b, b ∈ bm → b ∈ gm.bl := fun b hb => by rw [b7]; exact List.mem_append.2 (.inr (by simpa using hb))
    have a8' : (mb ++ bs.flatten).Nodup := by rw [← a7]; exact a8
    have b8' : (mb1 ++ bm).Nodup := by have := b8; rw [b7] at this; simpa using this
    have emb : ∀ b, gh.v.ownBlock = some b → b ∈ mb := fun b hb => by
      rcases a6 with ⟨c1, _⟩ | ⟨c1, c2⟩
      · rw [c1] at hb; cases hb
      · rw [c1] at hb; cases hb; rw [c2]; simp
    have mbfl : ∀ b, b ∈ mb → b ∉ bs.flatten := fun b hb hb2 => (List.nodup_append.1 a8').2.2 b hb b hb2 rfl
    have keepR : ∀ c, c ∈ bs.flatten → w'.heap[c]? = w.heap[c]? := fun c hc => rf c (hbl0 c (subr c hc)) fun e => mbfl c (emb c e.symm) hc
    have keepM : ∀ c, c ∈ gm.bl → w'.heap[c]? = w.heap[c]? := fun c hc => rf c (hblm c hc) fun e => hdis c hc (hgh c e.symm)
    have hlt : ∀ b, s'.ownBlock = some b → b < w'.heap.size := by
      intro b hb
      rcases r2.2 with ⟨e1, _⟩ | ⟨gg, cc, cur, e1, _, hgg, _⟩
      · rw [e1] at hb; cases hb
      · rw [e1] at hb; cases hb; exact (Array.getElem?_eq_some_iff.1 hgg).1
    have hs'b : ∀ b, b ∈ s'.ownBlock.toList → s'.ownBlock = some b := fun b hb => by
      cases hvb : s'.ownBlock with
      | none => rw [hvb] at hb; simp at hb
      | some c => rw [hvb] at hb; simp at hb; rw [hb]
    have hmain : ∀ b, s'.ownBlock = some b → b ∈ gh.bl ∨ w.heap.size ≤ b := fun b hb => by
      rcases r5 with r5 | r5
      · left; rw [hb] at r5; exact hgh b r5.symm
      · right; rw [hb] at r5; cases r5; exact Nat.le_refl _
    have rowblk : ∀ (j : Nat) u, vs[j]? = some u → ∀ c, u.ownBlock = some c → c ∈ bs.flatten := by
      intro j u hj c hc
      have hjb : j < bs.length := by
        have := (List.getElem?_eq_some_iff.1 hj).1
        omega
      exact List.mem_flatten.2 ⟨bs.getD j [], by rw [List.getD_eq_getElem?_getD, List.getElem?_eq_getElem hjb]; simp, by rw [← (a5 j u hj).2.2, hc]; simp⟩
    refine ⟨s', .own h, _, _, gs.set h g', rfl, ⟨rfl, rfl, rfl⟩, hr.absorb hg hs trivial hgm hm trivial hne g' _ (AV.lose h) rfl (fun b hb hnb => rf b hb fun e => hnb (hgh b e.symm)) rb.size ?_ (fun kp hv => hv.lose kp) ?_, .own (by rw [List.getElem?_set_self hhg]), rb⟩
    · intro b hb
      rcases List.mem_append.1 hb with hb | hb
      · have hb' := hs'b b hb
        refine ⟨?_, hlt b hb'⟩
        rcases hmain b hb' with h1 | h1
        · exact .inl h1
        · exact .inr (.inr h1)
      · rcases hmemf b hb with hb | hb
        · exact ⟨.inr (.inl (subm b hb)), Nat.lt_of_lt_of_le (hblm b (subm b hb)) rb.size⟩
        · exact ⟨.inl (subr b hb), Nat.lt_of_lt_of_le (hbl0 b (subr b hb)) rb.size⟩
    · intro kp
      have hlen : (vs.take i ++ rv :: vs.drop i).length = vs.length + 1 := by simp; omega
      refine ⟨vs.take i ++ rv :: vs.drop i, bs.take i ++ bm :: bs.drop i, s'.ownBlock.toList, by rw [hlen]; exact r2, by rw [hlen]; simp; omega, by simp; omega, rfl, fun j u hj => ?_, ?_, rfl, ?_⟩
      · rw [ins_get vs rv (by omega)] at hj
        rw [ins_getD L row [] hi, ins_getD bs bm [] (by omega)]
        split at hj
        · rename_i h1
          obtain ⟨p1, p2, p3⟩ := a5 j u hj
          rw [if_pos h1, if_pos h1]
          exact ⟨ownsRow_of_block p1 fun c hc => keepR c (rowblk j u hj c hc), p2, p3⟩
        · rename_i h1
          rw [if_neg h1, if_neg h1]
          split at hj
          · rename_i h2
            cases hj
            rw [if_pos h2, if_pos h2]
            exact ⟨ownsRow_of_block q1 fun c hc => keepM c (subm c (by rw [← q3, hc]; simp)), q2, q3⟩
          · rename_i h2
            rw [if_neg h2, if_neg h2]
            obtain ⟨p1, p2, p3⟩ := a5 (j - 1) u hj
            exact ⟨ownsRow_of_block p1 fun c hc => keepR c (rowblk (j - 1) u hj c hc), p2, p3⟩
      · show (s'.ownBlock = none ∧ s'.ownBlock.toList = []) ∨ (s'.ownBlock = some (s'.ownBlock.getD 0) ∧ s'.ownBlock.toList = [s'.ownBlock.getD 0])
        cases s'.ownBlock with
        | none => exact .inl ⟨rfl, rfl⟩
        | some b => exact .inr ⟨rfl, rfl⟩
      · show (s'.ownBlock.toList ++ (bs.take i ++ bm :: bs.drop i).flatten).Nodup
        have nd : (bm ++ bs.flatten).Nodup := by
          rw [List.nodup_append]
          exact ⟨(List.nodup_append.1 b8').2.1, (List.nodup_append.1 a8').2.1, fun x hx y hy e => hdis x (subm x hx) (subr x (by rw [e]; exact hy))⟩
        rw [List.nodup_append]
        refine ⟨by cases s'.ownBlock <;> simp, hpm.nodup_iff.2 nd, fun x hx y hy e => ?_⟩
        subst e
        have hx' := hs'b x hx
        rcases hmemf x hy with h1 | h1
        · rcases r5 with r5 | r5
          · rw [hx'] at r5; exact hdis x (subm x h1) (hgh x r5.symm)
          · rw [hx'] at r5; cases r5; exact absurd (hblm _ (subm _ h1)) (Nat.lt_irrefl _)
        · rcases r5 with r5 | r5
          · rw [hx'] at r5; exact mbfl x (emb x r5.symm) h1
          · rw [hx'] at r5; cases r5; exact absurd (hbl0 _ (subr _ h1)) (Nat.lt_irrefl _)
end
section
variable {env : Env} {os : List AO} {d : Tmp} {ty : TypeId} {pos : String} {af : Array Edge} {l rest : List Oper} {K : APost}
theorem w_insrow {x y z : Operand} {ats : Array TypeId} {h m i : Nat} {e2 : TypeId} {L : List (List Int)} {row : List Int} (hx : evo env x = some (.own h)) (hs : os[h]? = some (.sls 31 e2 L)) (hy : evo env y = some (.i i)) (hz : evo env z = some (.own m)) (hm : os[m]? = some (.sls 31 e2 [row])) (hhm : (h == m) = false) (hi : i ≤ L.length) (hn : L.length ≤ 1000000)
    (h' : AOps Try.prog .seq l rest K (Env.up (env.mp (AV.lose h)) d (.own h)) (((os.map (AO.via (AV.lose h) h)).set h (.sls 31 e2 (L.take i ++ row :: L.drop i))).set m .dead)) :
    AOps Try.prog .seq l (⟨some d, .call { callee := .value (.func 59), args := #[x, y, z], argTypes := ats }, ty, pos, af, none⟩ :: rest) K env os :=
  AOps.ca (c_insert (ev_of hx) hs (ev_of hy) hi (ev_of hz) hm hhm hn) fun r en o ⟨h1, h2, h3⟩ => by subst h1; subst h2; subst h3; exact h'
end
end Go.Proofs.Ytpllbdjobmgikaa
