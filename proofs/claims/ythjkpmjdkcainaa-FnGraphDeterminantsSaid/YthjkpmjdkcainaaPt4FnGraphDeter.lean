/-
  Parts of the proof, one behind the other: contracts of functions and plain laws. No condition.
-/
import Derived.Test.YthjkpmjdkcainaaPt3FnGraphDeter
/-
  All rows of one own slice of rows are appended to another one, which takes them over. No condition.
-/
namespace Go.Proofs.Ythjkpmjdkcainaa
open Go Go.RowKit

section
variable {P : Program} {env : Env} {os : List AO} {d : Option Tmp} {ty : TypeId} {pos : String} {af : Array Edge} {g : Option (Nat × Bool)}
set_option maxHeartbeats 1000000 in
theorem l_append_rows {t e : TypeId} {bytes : Nat} [ht : TSlice P t e] [he : TElem P e (.slice none 0 0) bytes] {x y : Operand} {h k : Nat} {e' e2 e4 : TypeId} {xss yss : List (List Int)}
    (hx : AV.ev env x = .own h) (hs : os[h]? = some (.sls e' e2 xss)) (hee : e' = e) (hy : AV.ev env y = .own k) (hk : os[k]? = some (.sls e4 e2 yss)) (hne : (h == k) = false)
    (hb : (xss.length + yss.length) * bytes ≤ 140737488355328) :
    LOp P ⟨d, .call { callee := .builtin .append, args := #[x, y], argTypes := #[t, t] }, ty, pos, af, g⟩ env os (.own h) (env.mp (AV.lose h)) (((os.map (AO.via (AV.lose h) h)).set h (.sls e e2 (xss ++ yss))).set k .dead) := by
  subst hee
  have hne : h ≠ k := fun e => by subst e; simp at hne
  intro base w gs tm hr
  have hxv := hr.ev x
  rw [hx] at hxv
  have hyv := hr.ev y
  rw [hy] at hyv
  generalize hv : Act.eval ⟨tm, []⟩ x = v at hxv
  generalize hu : Act.eval ⟨tm, []⟩ y = u at hyv
  cases hxv with
  | @own _ gh hg =>
  cases hyv with
  | @own _ gk hgk =>
    have hro2 := hr.ho _ _ _ hgk hk
    obtain ⟨pa, cap, eu, _, _, hpa, hkl, hcells⟩ := sls_slice hro2
    obtain ⟨vs, bs, mb, a1, a2, a3, a4, a5, a6, a7, a8⟩ := hr.ho _ _ _ hg hs
    obtain ⟨us, cs, mk, b1, b2, b3, b4, b5, b6, b7, b8⟩ := hro2
    obtain ⟨ii, hi, hsz, hz, hby⟩ := he.info
    have hul : us.length = yss.length := b2
    have key : ∃ v' w', (Builtin.append_ #[t, t] ty #[gh.v, .slice pa yss.length cap]).run P w = .ok v' w' ∧ w'.ownsRow base e' 1 v' (vs.length + us.length) (vs ++ us) ∧ w.grownBy w' gh.v.ownBlock ∧
        (v'.ownBlock = gh.v.ownBlock ∨ v'.ownBlock = some w.heap.size) := by
      by_cases h0 : yss.length = 0
      · have e0 : us = [] := List.length_eq_zero_iff.1 (by omega)
        rw [h0, e0]
        exact ⟨gh.v, w, run_append_none ht.und hi a1 pa cap, by simpa using a1, ⟨rfl, rfl, rfl, Nat.le_refl _, fun _ _ _ => rfl⟩, .inl rfl⟩
      · have epa := hpa (by omega)
        subst epa
        have h64 : vs.length + yss.length ≤ maxLen := by
          have hb0 := he.pos
          have : xss.length + yss.length ≤ (xss.length + yss.length) * bytes := Nat.le_mul_of_pos_right _ hb0
          simp only [maxLen]; omega
        obtain ⟨v', w', r1, r2, r3, _, r5⟩ := run_append_own_at (P := P) w base t ty e' ii _ 1 bytes ht.und hi hz hsz hby rfl (by omega) gh.v vs.length vs a1 ⟨gk.b, 0, none⟩ yss.length cap us (by omega)
          (fun j u hj => by rw [add_none]; rw [Nat.zero_add]; exact (hcells j u (by rw [b4]; exact hj)).1)
          (fun u hu => by obtain ⟨j, hj⟩ := List.getElem?_of_mem hu; obtain ⟨_, ua, n, c, rfl⟩ := hcells j u (by rw [b4]; exact hj); rfl) h64 (by rw [a2]; exact hb) hr.hb
        exact ⟨v', w', r1, by rw [hul]; exact r2, r3, r5⟩
    obtain ⟨v', w', r1, r2, r3, r5⟩ := key
    have emb : gh.v.ownBlock.toList = mb := by
      rcases a6 with ⟨c1, c2⟩ | ⟨c1, c2⟩
      · rw [c1, c2]; rfl
      · rw [c1, c2]; rfl
    have hgb : ∀ b, b ∉ gh.bl → some b ≠ gh.v.ownBlock := fun b hb e => hb (by rw [a7, ← emb, ← e]; simp)
    have hnotmb : ∀ b, b ∉ mb → some b ≠ gh.v.ownBlock := fun b hb e => hb (by rw [← emb, ← e]; simp)
    have hdis : ∀ c, c ∈ gk.bl → c ∉ gh.bl := hr.hd k h gk gh _ _ (fun e => hne e.symm) hgk hg hk hs (by simp) (by simp)
    have hcsk : ∀ c, c ∈ cs.flatten → c ∈ gk.bl := fun c hc => by rw [b7]; exact List.mem_append.2 (.inr hc)
    have hlt : ∀ b, v'.ownBlock = some b → b < w'.heap.size := by
      intro b hb
      rcases r2.2 with ⟨e1, _⟩ | ⟨gg, cc, cur, e1, _, hgg, _⟩
      · rw [e1] at hb; cases hb
      · rw [e1] at hb; cases hb; exact (Array.getElem?_eq_some_iff.1 hgg).1
    have hhg : h < gs.length := (List.getElem?_eq_some_iff.1 hg).1
    have hbl0 : ∀ b, b ∈ gh.bl → b < w.heap.size := fun b hb => (hr.hn _ _ _ hg hs (by simp) b hb).2
    have hblk : ∀ b, b ∈ gk.bl → b < w.heap.size := fun b hb => (hr.hn _ _ _ hgk hk (by simp) b hb).2
    let g' : Gh := ⟨v', v'.ownBlock.getD 0, v'.ownBlock.toList ++ (bs ++ cs).flatten, vs ++ us⟩
    have efl : (bs ++ cs).flatten = bs.flatten ++ cs.flatten := by simp
    have hv'b : ∀ b, b ∈ v'.ownBlock.toList → v'.ownBlock = some b := fun b hb => by
      cases hvb : v'.ownBlock with
      | none => rw [hvb] at hb; simp at hb
      | some c => rw [hvb] at hb; simp at hb; rw [hb]
    have rowblk : ∀ (j : Nat) u, vs[j]? = some u → ∀ c, u.ownBlock = some c → c ∈ bs.flatten := by
      intro j u hj c hc
      have hjb : j < bs.length := by
        have := (List.getElem?_eq_some_iff.1 hj).1
        omega
      exact List.mem_flatten.2 ⟨bs.getD j [], by rw [List.getD_eq_getElem?_getD, List.getElem?_eq_getElem hjb]; simp, by rw [← (a5 j u hj).2.2, hc]; simp⟩
    have rowblk2 : ∀ (j : Nat) u, us[j]? = some u → ∀ c, u.ownBlock = some c → c ∈ cs.flatten := by
      intro j u hj c hc
      have hjb : j < cs.length := by
        have := (List.getElem?_eq_some_iff.1 hj).1
        omega
      exact List.mem_flatten.2 ⟨cs.getD j [], by rw [List.getD_eq_getElem?_getD, List.getElem?_eq_getElem hjb]; simp, by rw [← (b5 j u hj).2.2, hc]; simp⟩
    have a8' : (mb ++ bs.flatten).Nodup := by rw [← a7]; exact a8
    have b8' : (mk ++ cs.flatten).Nodup := by rw [← b7]; exact b8
    have mbfl : ∀ b, b ∈ mb → b ∉ bs.flatten := fun b hb hb2 => (List.nodup_append.1 a8').2.2 b hb b hb2 rfl
    have keep : ∀ c, c < w.heap.size → c ∉ mb → w'.heap[c]? = w.heap[c]? := fun c hc hcm => r3.block c hc (hnotmb c hcm)
    refine ⟨v', w', gs.set h g', .inl ?_, hr.absorb hg hs trivial hgk hk trivial hne g' _ (AV.lose h) rfl (fun b hb hn => r3.block b hb (hgb b hn)) r3.size ?_ (fun kp hv => hv.lose kp) ?_, ?_, ?_⟩
    · have eu' : gk.v = .slice pa yss.length cap := eu
      simp only [execOp, resolve, invoke, builtin, Sem.run_bind, Sem.run_pure, Result.andThen_ok, List.map_toArray, List.map_cons, List.map_nil, hv, hu, eu', r1]
    · intro b hb
      rcases List.mem_append.1 hb with hb | hb
      · have hb' := hv'b b hb
        refine ⟨?_, hlt b hb'⟩
        rcases r5 with r5 | r5
        · left
          rw [hb'] at r5
          exact Classical.byContradiction fun hn => hgb b hn r5
        · right; right
          rw [hb'] at r5; cases r5; exact Nat.le_refl _
      · rw [efl] at hb
        rcases List.mem_append.1 hb with hb | hb
        · have : b ∈ gh.bl := by rw [a7]; exact List.mem_append.2 (.inr hb)
          exact ⟨.inl this, Nat.lt_of_lt_of_le (hbl0 b this) r3.size⟩
        · exact ⟨.inr (.inl (hcsk b hb)), Nat.lt_of_lt_of_le (hblk b (hcsk b hb)) r3.size⟩
    · intro kp
      refine ⟨vs ++ us, bs ++ cs, v'.ownBlock.toList, by rw [List.length_append]; exact r2, by simp [a2, b2], by simp [a3, b3], rfl, fun j u hj => ?_, ?_, rfl, ?_⟩
      · rw [List.getElem?_append] at hj
        split at hj
        · rename_i hjl
          obtain ⟨q1, q2, q3⟩ := a5 j u hj
          have g1 : (xss ++ yss).getD j [] = xss.getD j [] := by
            simp only [List.getD_eq_getElem?_getD]; rw [List.getElem?_append_left (by omega)]
          have g2 : (bs ++ cs).getD j [] = bs.getD j [] := by
            simp only [List.getD_eq_getElem?_getD]; rw [List.getElem?_append_left (by omega)]
          rw [g1, g2]
          refine ⟨ownsRow_of_block q1 fun c hc => ?_, q2, q3⟩
          have hcf := rowblk j u hj c hc
          exact keep c (hbl0 c (by rw [a7]; exact List.mem_append.2 (.inr hcf))) fun hm => mbfl c hm hcf
        · rename_i hjl
          obtain ⟨q1, q2, q3⟩ := b5 _ u hj
          have g1 : (xss ++ yss).getD j [] = yss.getD (j - vs.length) [] := by
            simp only [List.getD_eq_getElem?_getD]; rw [List.getElem?_append_right (by omega), a2]
          have g2 : (bs ++ cs).getD j [] = cs.getD (j - vs.length) [] := by
            simp only [List.getD_eq_getElem?_getD]; rw [List.getElem?_append_right (by omega), a2, ← a3]
          rw [g1, g2]
          refine ⟨ownsRow_of_block q1 fun c hc => ?_, q2, q3⟩
          have hcm := hcsk c (rowblk2 _ u hj c hc)
          exact keep c (hblk c hcm) fun hm => hdis c hcm (by rw [a7]; exact List.mem_append.2 (.inl hm))
      · show (v'.ownBlock = none ∧ v'.ownBlock.toList = []) ∨ (v'.ownBlock = some (v'.ownBlock.getD 0) ∧ v'.ownBlock.toList = [v'.ownBlock.getD 0])
        cases v'.ownBlock with
        | none => exact .inl ⟨rfl, rfl⟩
        | some b => exact .inr ⟨rfl, rfl⟩
      · show (v'.ownBlock.toList ++ (bs ++ cs).flatten).Nodup
        rw [efl]
        refine nodup_rows a8' ?_ ?_ (List.nodup_append.1 b8').2.1 (fun b hb => by rw [← a7]; exact hdis b (hcsk b hb))
        · cases v'.ownBlock <;> simp
        · intro b hb
          have hb' := hv'b b hb
          rcases r5 with r5 | r5
          · rw [hb'] at r5
            have hm : b ∈ mb := by rw [← emb, ← r5]; simp
            exact ⟨mbfl b hm, fun hc => hdis b (hcsk b hc) (by rw [a7]; exact List.mem_append.2 (.inl hm))⟩
          · rw [hb'] at r5
            cases r5
            refine ⟨fun hc => ?_, fun hc => ?_⟩
            · have := hbl0 w.heap.size (by rw [a7]; exact List.mem_append.2 (.inr hc)); omega
            · have := hblk w.heap.size (hcsk _ hc); omega
    · exact RV.own (g := g') (by simp [hhg])
    · refine ⟨r3.os, r3.tape, r3.output, r3.size, fun b hb => r3.block b (by have := hr.hb; omega) (hgb b fun hm => ?_)⟩
      have := (hr.hn _ _ _ hg hs (by simp) b hm).1
      omega
end

section
variable {P : Program} {env : Env} {os : List AO} {d : Tmp} {ty : TypeId} {pos : String} {af : Array Edge} {l rest : List Oper} {K : APost}
theorem w_apprs {t e : TypeId} {bytes : Nat} [TSlice P t e] [TElem P e (.slice none 0 0) bytes] {x y : Operand} {h k : Nat} {e' e2 e4 : TypeId} {xss yss : List (List Int)}
    (hx : evo env x = some (.own h)) (hs : os[h]? = some (.sls e' e2 xss)) (hee : e' = e) (hy : evo env y = some (.own k)) (hk : os[k]? = some (.sls e4 e2 yss)) (hne : (h == k) = false)
    (hb : (xss.length + yss.length) * bytes ≤ 140737488355328) (h' : AOps P .seq l rest K (Env.up (env.mp (AV.lose h)) d (.own h)) (((os.map (AO.via (AV.lose h) h)).set h (.sls e e2 (xss ++ yss))).set k .dead)) :
    AOps P .seq l (⟨some d, .call { callee := .builtin .append, args := #[x, y], argTypes := #[t, t] }, ty, pos, af, none⟩ :: rest) K env os :=
  AOps.lo (l_append_rows (ev_of hx) hs hee (ev_of hy) hk hne hb) h'
end
end Go.Proofs.Ythjkpmjdkcainaa
/-
  A literal slice of two own rows, as an own slice of rows. No condition.
-/
namespace Go.Proofs.Ythjkpmjdkcainaa
open Go Go.RowKit
theorem ar2r : Array.range 2 = #[0, 1] := by apply Array.ext'; simp [List.range_succ]
section
variable {P : Program} {env : Env} {os : List AO} {d : Option Tmp} {ty : TypeId} {pos : String} {af : Array Edge} {g : Option (Nat × Bool)}
set_option maxHeartbeats 1000000 in
theorem l_bsr2s {t e e2 : TypeId} {bytes : Nat} [ht : TSlice P t e] [he : TElem P e (.slice none 0 0) bytes] [ht2 : TSlice P e e2] {x y : Operand} {k j : Nat} {e3 e4 : TypeId} {ys zs : List Int}
    (hx : AV.ev env x = .own k) (hk : os[k]? = some (.sli e3 ys)) (he3 : e3 = e2) (hy : AV.ev env y = .own j) (hj : os[j]? = some (.sli e4 zs)) (he4 : e4 = e2) (hkj : (k == j) = false) :
    LOp P ⟨d, .buildSlice t 2 #[(0, x), (1, y)], ty, pos, af, g⟩ env os (.own os.length) (env.mp (AV.lose os.length))
      ((((((os ++ [AO.sls e e2 []]).map (AO.via (AV.lose os.length) os.length)).set os.length (.sls e e2 [ys, zs])).set k .dead)).set j .dead) := by
  subst he3 he4
  have hkj : k ≠ j := fun e => by subst e; simp at hkj
  intro base w gs tm hr
  have hxv := hr.ev x
  rw [hx] at hxv
  have hyv := hr.ev y
  rw [hy] at hyv
  generalize hv : Act.eval ⟨tm, []⟩ x = v at hxv
  generalize hu : Act.eval ⟨tm, []⟩ y = u at hyv
  cases hxv with
  | @own _ gk hgk =>
  cases hyv with
  | @own _ gj hgj =>
    obtain ⟨b1, b2, b3⟩ := hr.ho _ _ _ hgk hk
    obtain ⟨c1, c2, c3⟩ := hr.ho _ _ _ hgj hj
    obtain ⟨ua, uc, eu⟩ := ownsRow_slice b1
    obtain ⟨va, vc, ev⟩ := ownsRow_slice c1
    obtain ⟨ii, hi, hs, hz, hby⟩ := he.info
    have hkl : k < os.length := (List.getElem?_eq_some_iff.1 hk).1
    have hjl : j < os.length := (List.getElem?_eq_some_iff.1 hj).1
    let g0 : Gh := ⟨.slice none 0 0, 0, [], []⟩
    have hr1 : Rel base w (gs ++ [g0]) env (os ++ [.sls e e4 []]) tm := hr.new (Below.refl _ _) _ g0 (fun _ b hb => by simp [g0] at hb) ⟨[], [], [], World.ownsRow_nil w base e 1, rfl, rfl, rfl, fun i u h => (by simp at h), .inl ⟨rfl, rfl⟩, rfl, by simp [g0]⟩
    have hl := hr.hl
    have hgp : (gs ++ [g0])[os.length]? = some g0 := by rw [← hl]; simp
    have hop : (os ++ [AO.sls e e4 []])[os.length]? = some (.sls e e4 []) := by simp
    have hgk' : (gs ++ [g0])[k]? = some gk := by rw [List.getElem?_append_left (by omega)]; exact hgk
    have hok' : (os ++ [AO.sls e e4 []])[k]? = some (.sli e4 ys) := by rw [List.getElem?_append_left hkl]; exact hk
    have hgj' : (gs ++ [g0])[j]? = some gj := by rw [List.getElem?_append_left (by omega)]; exact hgj
    have hoj' : (os ++ [AO.sls e e4 []])[j]? = some (.sli e4 zs) := by rw [List.getElem?_append_left hjl]; exact hj
    have hpl : os.length < (gs ++ [g0]).length := by simp; omega
    let w' := w.alloc (.cells [gk.v, gj.v].toArray e)
    let g' : Gh := ⟨.slice (some ⟨w.heap.size, 0, none⟩) 2 2, w.heap.size, [w.heap.size] ++ (gk.bl ++ gj.bl), [gk.v, gj.v]⟩
    have hbel : Below w.heap.size w w' := below_alloc w _
    have hblk : ∀ b, b ∈ gk.bl → b < w.heap.size := fun b hb => (hr.hn _ _ _ hgk hk (by simp) b hb).2
    have hblj : ∀ b, b ∈ gj.bl → b < w.heap.size := fun b hb => (hr.hn _ _ _ hgj hj (by simp) b hb).2
    have hdis : ∀ b, b ∈ gk.bl → b ∉ gj.bl := hr.hd k j gk gj _ _ hkj hgk hgj hk hj (by simp) (by simp)
    refine ⟨.slice (some ⟨w.heap.size, 0, none⟩) 2 2, w', (gs ++ [g0]).set os.length g', .inl ?_,
      hr1.absorb2 hgp hop trivial hgk' hok' trivial (by omega) hgj' hoj' trivial (by omega) g' (.sls e e4 [ys, zs]) (AV.lose os.length) rfl (fun b hb _ => hbel.block b hb) hbel.size ?_ (fun kp hv => hv.lose kp) ?_, ?_, hbel.mono hr.hb⟩
    · simp [execOp, Instr.buildSlice, run_underlying ht.und, sizeOf, typeInfo, zeroValue, hi, hs, hz, Instr.fill, newRow, hv, hu, eu, ev, Value.cells, ar2r, w']
    · intro b hb
      have hsz : w'.heap.size = w.heap.size + 1 := by simp [w']
      rcases List.mem_append.1 hb with hb | hb
      · simp at hb
        exact ⟨.inr (.inr (.inr (by omega))), by omega⟩
      · rcases List.mem_append.1 hb with hb | hb
        · have := hblk b hb
          exact ⟨.inr (.inl hb), by omega⟩
        · have := hblj b hb
          exact ⟨.inr (.inr (.inl hb)), by omega⟩
    · intro kp
      refine ⟨[gk.v, gj.v], [gk.bl, gj.bl], [w.heap.size], ⟨rfl, .inr ⟨w.heap.size, 2, _, rfl, hr.hb, heap_alloc_new w _, Nat.le_refl _, by simp [maxLen], by simp, by simp⟩⟩, rfl, rfl, rfl, fun i u hi => ?_, .inr ⟨rfl, rfl⟩, by simp [g'], ?_⟩
      · match i with
        | 0 =>
          simp at hi
          subst hi
          exact ⟨ownsRow_of_block b1 fun c hc => hbel.block c (hblk c (b3.mem hc)), b2, b3.list⟩
        | 1 =>
          simp at hi
          subst hi
          exact ⟨ownsRow_of_block c1 fun c hc => hbel.block c (hblj c (c3.mem hc)), c2, c3.list⟩
        | i + 2 => simp at hi
      · exact nodup_append3 (by simp) b3.nodup c3.nodup (fun b hb hb2 => by simp at hb; have := hblk b hb2; omega) (fun b hb hb2 => by simp at hb; have := hblj b hb2; omega) hdis
    · exact RV.own (g := g') (by rw [List.getElem?_set_self hpl])
end
section
variable {P : Program} {env : Env} {os : List AO} {d : Tmp} {ty : TypeId} {pos : String} {af : Array Edge} {l rest : List Oper} {K : APost}
theorem w_bsr2s {t e e2 e3 e4 : TypeId} {bytes : Nat} [TSlice P t e] [TElem P e (.slice none 0 0) bytes] [TSlice P e e2] {x y : Operand} {k j m : Nat} {ys zs : List Int} (hx : evo env x = some (.own k)) (hk : os[k]? = some (.sli e3 ys)) (he3 : e3 = e2)
    (hy : evo env y = some (.own j)) (hj : os[j]? = some (.sli e4 zs)) (he4 : e4 = e2) (hkj : (k == j) = false) (hm : os.length = m)
    (h' : AOps P .seq l rest K (Env.up (env.mp (AV.lose m)) d (.own m)) ((((((os ++ [AO.sls e e2 []]).map (AO.via (AV.lose m) m)).set m (.sls e e2 [ys, zs])).set k .dead)).set j .dead)) :
    AOps P .seq l (⟨some d, .buildSlice t 2 #[(0, x), (1, y)], ty, pos, af, none⟩ :: rest) K env os := by
  subst hm
  exact AOps.lo (l_bsr2s (ev_of hx) hk he3 (ev_of hy) hj he4 hkj) h'
end
section
variable {P : Program} {env : Env} {os : List AO} {d : Tmp} {ty : TypeId} {pos : String} {af : Array Edge} {l rest : List Oper} {K : APost}
end
end Go.Proofs.Ythjkpmjdkcainaa
/-
  Own numbers that are only read from here on; nil as own rows. No condition.
-/
namespace Go.Proofs.Ythjkpmjdkcainaa
open Go Go.RowKit

def AV.frzI1 (k : Nat) (xs : List Int) : AV → AV
  | .own h => if h = k then .ints xs else .own h
  | .optr h i => if h = k then .any else .optr h i
  | .osub h a b => if h = k then (if a + b ≤ xs.length then .ints ((xs.drop a).take b) else .any) else .osub h a b
  | .orow h i => if h = k then .any else .orow h i
  | .orptr h i j => if h = k then .any else .orptr h i j
  | .agg _ => .any
  | .tup _ => .any
  | a => a
def AV.frzI (k : Nat) (xs : List Int) : AV → AV
  | .own h => if h = k then .ints xs else .own h
  | .optr h i => if h = k then .any else .optr h i
  | .osub h a b => if h = k then (if a + b ≤ xs.length then .ints ((xs.drop a).take b) else .any) else .osub h a b
  | .orow h i => if h = k then .any else .orow h i
  | .orptr h i j => if h = k then .any else .orptr h i j
  | .agg l => .agg (l.map (AV.frzI1 k xs))
  | .tup l => .tup (l.map (AV.frzI1 k xs))
  | a => a
def AO.frzI (k : Nat) (xs : List Int) : AO → AO
  | .bx T avs => .bx T (avs.map (AV.frzI k xs))
  | .slr e avs => .slr e (avs.map (AV.frzI k xs))
  | o => o
theorem AO.frzI_dead {k : Nat} {xs : List Int} {o : AO} : o.frzI k xs = .dead ↔ o = .dead := by cases o <;> simp [AO.frzI]
theorem AO.frzI_live {k : Nat} {xs : List Int} {o : AO} : (o.frzI k xs).live ↔ o.live := by cases o <;> exact Iff.rfl
/-- An own slice, or a part of it, reads as its numbers. -/
theorem sli_at {base : Nat} {w : World} {ok ok' : Nat → Prop} {gs : List Gh} {g : Gh} {e : TypeId} {xs : List Int} (h : RO base w ok gs g (.sli e xs)) (hb : ∀ b, b ∈ g.bl → ok' b) :
    IntsAt w ok' g.v xs ∧ ∀ (p : Option Addr) (off len cap : Nat), (0 < len → p = some ⟨g.b, off, none⟩) → len ≤ cap → cap ≤ maxLen → off + len ≤ xs.length → IntsAt w ok' (.slice p len cap) ((xs.drop off).take len) := by
  obtain ⟨a1, a2, a3⟩ := h
  refine ⟨⟨RowAt.of_owns' (by rw [← List.length_map (f := Value.int .i64)] at a1; exact a1) fun b hbk => hb b (a3.mem hbk), a2⟩, fun p off len cap hp hc hm hle => ?_⟩
  have hl : (((xs.drop off).take len).map (Value.int .i64)).length = len := by simp; omega
  refine ⟨⟨p, cap, by rw [hl], by omega, hm, fun h0 => ?_⟩, fun x hx => a2 x (List.mem_of_mem_drop (List.mem_of_mem_take hx))⟩
  rw [hl] at h0
  have hgb : g.b ∈ g.bl := by
    obtain ⟨b, cap', e1, e2, e3, _⟩ := own_slice a1 (i := 0) (by simp; omega)
    have := a3.mem e2
    rw [a3.eq e2]; exact this
  refine ⟨_, off, hp h0, hb _ hgb, fun i u hu => ?_⟩
  have hi := (List.getElem?_eq_some_iff.1 hu).1
  rw [hl] at hi
  obtain ⟨b, cap', e1, e2, e3, _⟩ := own_slice a1 (i := off + i) (by simp; omega)
  rw [a3.eq e2, e3, ← hu, List.map_take, List.map_drop, List.getElem?_take, if_pos hi, List.getElem?_drop]

section
variable {w : World} {ok ok' : Nat → Prop} {gs : List Gh} {k : Nat} {xs : List Int}
/-- What the frozen rows look like to their readers. -/
def FrzIAt (w : World) (ok' : Nat → Prop) (gs : List Gh) (k : Nat) (xs : List Int) : Prop := ∀ g, gs[k]? = some g → IntsAt w ok' g.v xs ∧ ∀ (p : Option Addr) (off len cap : Nat), (0 < len → p = some ⟨g.b, off, none⟩) → len ≤ cap → cap ≤ maxLen → off + len ≤ xs.length → IntsAt w ok' (.slice p len cap) ((xs.drop off).take len)
theorem RV.frzI1 (kp : Keeps ok ok' w w) (hf : FrzIAt w ok' gs k xs) {v : Value} {a : AV} (hv : RV w ok gs v a) : RV w ok' gs v (a.frzI1 k xs) := by
  cases hv with
  | any v => exact .any v
  | val v => exact .val v
  | ints h => exact .ints (h.mono kp)
  | intss h => exact .intss (h.mono kp)
  | @ro v r h => exact .ro (r.up kp h)
  | iptr h h1 h2 => exact .iptr (h.mono kp) h1 h2
  | iiptr h h1 h2 => exact .iiptr (h.mono kp) h1 h2
  | own h1 =>
    simp only [AV.frzI1]; split
    · subst_vars; exact .ints (hf _ h1).1
    · exact .own h1
  | optr h1 =>
    simp only [AV.frzI1]; split
    · exact .any _
    · exact .optr h1
  | osub h1 h2 h3 h4 =>
    simp only [AV.frzI1]; split
    · split
      · rename_i h5; subst_vars; exact .ints ((hf _ h1).2 _ _ _ _ h2 h3 h4 h5)
      · exact .any _
    · exact .osub h1 h2 h3 h4
  | orow h1 h2 =>
    simp only [AV.frzI1]; split
    · exact .any _
    · exact .orow h1 h2
  | orptr h1 h2 =>
    simp only [AV.frzI1]; split
    · exact .any _
    · exact .orptr h1 h2
  | agg _ _ _ => exact .any _
  | tup _ _ => exact .any _
theorem getD_map_frzI1 (l : List AV) (i : Nat) : (l.map (AV.frzI1 k xs)).getD i .any = (l.getD i .any).frzI1 k xs := getD_map_f _ rfl l i
theorem getD_map_frzI (l : List AV) (i : Nat) : (l.map (AV.frzI k xs)).getD i .any = (l.getD i .any).frzI k xs := getD_map_f _ rfl l i
theorem RV.frzI (kp : Keeps ok ok' w w) (hf : FrzIAt w ok' gs k xs) {v : Value} {a : AV} (hv : RV w ok gs v a) : RV w ok' gs v (a.frzI k xs) := by
  cases hv with
  | any v => exact .any v
  | val v => exact .val v
  | ints h => exact .ints (h.mono kp)
  | intss h => exact .intss (h.mono kp)
  | @ro v r h => exact .ro (r.up kp h)
  | iptr h h1 h2 => exact .iptr (h.mono kp) h1 h2
  | iiptr h h1 h2 => exact .iiptr (h.mono kp) h1 h2
  | own h1 =>
    simp only [AV.frzI]; split
    · subst_vars; exact .ints (hf _ h1).1
    · exact .own h1
  | optr h1 =>
    simp only [AV.frzI]; split
    · exact .any _
    · exact .optr h1
  | osub h1 h2 h3 h4 =>
    simp only [AV.frzI]; split
    · split
      · rename_i h5; subst_vars; exact .ints ((hf _ h1).2 _ _ _ _ h2 h3 h4 h5)
      · exact .any _
    · exact .osub h1 h2 h3 h4
  | orow h1 h2 =>
    simp only [AV.frzI]; split
    · exact .any _
    · exact .orow h1 h2
  | orptr h1 h2 =>
    simp only [AV.frzI]; split
    · exact .any _
    · exact .orptr h1 h2
  | agg h1 h3 h2 => exact .agg (by simpa using h1) h3 fun i => by rw [getD_map_frzI1]; exact (h2 i).frzI1 kp hf
  | tup h1 h2 => exact .tup (by simpa using h1) fun i => by rw [getD_map_frzI1]; exact (h2 i).frzI1 kp hf
end
theorem Rel.freezeI {base : Nat} {w : World} {gs : List Gh} {env : Env} {os : List AO} {tm : Array Value} (h : Rel base w gs env os tm) {k : Nat} {e : TypeId} {xs : List Int} (hs : os[k]? = some (.sli e xs)) :
    Rel base w gs (env.mp (AV.frzI k xs)) ((os.map (AO.frzI k xs)).set k .dead) tm := by
  have hk : k < os.length := (List.getElem?_eq_some_iff.1 hs).1
  have oset : ∀ {i : Nat} {x : AO}, ((os.map (AO.frzI k xs)).set k .dead)[i]? = some x → (i = k ∧ x = .dead) ∨ (i ≠ k ∧ ∃ y, os[i]? = some y ∧ x = y.frzI k xs) := by
    intro i x hx
    rw [List.getElem?_set] at hx
    by_cases e : k = i
    · subst e
      rw [if_pos rfl, if_pos (by simpa using hk)] at hx
      cases hx; exact .inl ⟨rfl, rfl⟩
    · rw [if_neg e, List.getElem?_map] at hx
      cases hy : os[i]? with
      | none => rw [hy] at hx; cases hx
      | some y => rw [hy] at hx; cases hx; exact .inr ⟨fun e' => e e'.symm, y, rfl, rfl⟩
  have kp : Keeps (okOf gs os) (okOf gs ((os.map (AO.frzI k xs)).set k .dead)) w w := by
    intro b hb _
    refine ⟨fun i x o' hx ho' hl => ?_, rfl⟩
    rcases oset ho' with ⟨_, rfl⟩ | ⟨_, y, hy, rfl⟩
    · exact hl.elim
    · exact hb i x y hx hy (AO.frzI_live.1 hl)
  have hf : FrzIAt w (okOf gs ((os.map (AO.frzI k xs)).set k .dead)) gs k xs := by
    intro g hg
    refine sli_at (h.ho k g _ hg hs) fun b hb i x o' hx ho' hl hm => ?_
    rcases oset ho' with ⟨_, rfl⟩ | ⟨hik, y, hy, rfl⟩
    · exact hl.elim
    · exact h.hd k i g x _ _ (fun e => hik e.symm) hg hx hs hy (by simp) (AO.frzI_live.1 hl).ne b hb hm
  refine ⟨h.hb, by simpa using h.hl, h.hs, fun i => ?_, ?_, ?_, ?_⟩
  · rw [Env.lk_mp _ rfl]
    exact (h.he i).frzI kp hf
  · intro i g o' hg ho'
    rcases oset ho' with ⟨_, rfl⟩ | ⟨_, y, hy, rfl⟩
    · trivial
    · have hro := h.ho i g y hg hy
      cases y with
      | dead => trivial
      | sli e xs => exact hro
      | sls e e2 xs => exact hro
      | ob q => exact hro
      | keep n K => exact hro
      | slr e avs =>
        obtain ⟨vs, a1, a2, a3, a4⟩ := hro
        exact ⟨vs, a1, by simpa using a2, fun j => by rw [getD_map_frzI]; exact (a3 j).frzI kp hf, a4⟩
      | bx T avs =>
        obtain ⟨cs, c1, c2, c3, c4, c5, c6, c7⟩ := hro
        exact ⟨cs, c1, c2, c3, c4, by simpa using c5, c6, fun j => by rw [getD_map_frzI]; exact (c7 j).frzI kp hf⟩
  · intro i j g1 g2 o1 o2 hij hg1 hg2 ho1 ho2 hn1 hn2
    rcases oset ho1 with ⟨_, rfl⟩ | ⟨_, y, hy, rfl⟩
    · exact absurd rfl hn1
    · rcases oset ho2 with ⟨_, rfl⟩ | ⟨_, z, hz, rfl⟩
      · exact absurd rfl hn2
      · exact h.hd i j g1 g2 y z hij hg1 hg2 hy hz (fun e => hn1 (AO.frzI_dead.2 e)) (fun e => hn2 (AO.frzI_dead.2 e))
  · intro i g o' hg ho' hn
    rcases oset ho' with ⟨_, rfl⟩ | ⟨_, y, hy, rfl⟩
    · exact absurd rfl hn
    · exact h.hn i g y hg hy fun e => hn (AO.frzI_dead.2 e)
theorem Turns.freezeI {env : Env} {os : List AO} {k : Nat} {e : TypeId} {xs : List Int} (hs : os[k]? = some (.sli e xs)) : Turns env os (env.mp (AV.frzI k xs)) ((os.map (AO.frzI k xs)).set k .dead) :=
  fun _ _ gs _ h => ⟨gs, h.freezeI hs⟩
/-- A field that is nil becomes own rows. -/
theorem Rel.nilF {base : Nat} {w : World} {gs : List Gh} {env : Env} {os : List AO} {tm : Array Value} (h : Rel base w gs env os tm) {k i : Nat} {T : TypeId} {avs : List AV} (e e2 : TypeId) (hs : os[k]? = some (.bx T avs)) (hi : avs[i]? = some (.val (.slice none 0 0))) :
    ∃ gs', Rel base w gs' env ((os ++ [AO.sls e e2 []]).set k (.bx T (avs.set i (.own os.length)))) tm := by
  let g0 : Gh := ⟨.slice none 0 0, 0, [], []⟩
  have hr : Rel base w (gs ++ [g0]) env (os ++ [.sls e e2 []]) tm := h.new (Below.refl _ _) _ g0 (fun _ b hb => by simp [g0] at hb) ⟨[], [], [], World.ownsRow_nil w base e 1, rfl, rfl, rfl, fun i u h => (by simp at h), .inl ⟨rfl, rfl⟩, rfl, by simp [g0]⟩
  have hk : k < os.length := (List.getElem?_eq_some_iff.1 hs).1
  have hs' : (os ++ [AO.sls e e2 []])[k]? = some (.bx T avs) := by rw [List.getElem?_append_left hk]; exact hs
  have oset : ∀ {j : Nat} {x : AO}, ((os ++ [AO.sls e e2 []]).set k (.bx T (avs.set i (.own os.length))))[j]? = some x → (j = k ∧ x = .bx T (avs.set i (.own os.length))) ∨ (j ≠ k ∧ (os ++ [AO.sls e e2 []])[j]? = some x) := by
    intro j x hx
    rw [List.getElem?_set] at hx
    by_cases c : k = j
    · subst c
      rw [if_pos rfl, if_pos (by simp; omega)] at hx
      cases hx; exact .inl ⟨rfl, rfl⟩
    · rw [if_neg c] at hx
      exact .inr ⟨fun e' => c e'.symm, hx⟩
  have okm : ∀ b, okOf (gs ++ [g0]) (os ++ [.sls e e2 []]) b → okOf (gs ++ [g0]) ((os ++ [AO.sls e e2 []]).set k (.bx T (avs.set i (.own os.length)))) b := by
    intro b hb j x o hx ho hl
    rcases oset ho with ⟨rfl, rfl⟩ | ⟨_, ho⟩
    · exact hb j x _ hx hs' trivial
    · exact hb j x o hx ho hl
  have kp : Keeps (okOf (gs ++ [g0]) (os ++ [.sls e e2 []])) (okOf (gs ++ [g0]) ((os ++ [AO.sls e e2 []]).set k (.bx T (avs.set i (.own os.length))))) w w := fun b hb _ => ⟨okm b hb, rfl⟩
  have hgm : (gs ++ [g0])[os.length]? = some g0 := by rw [← h.hl]; simp
  refine ⟨gs ++ [g0], hr.hb, by have := hr.hl; simpa using this, hr.hs, fun j => (hr.he j).mono kp fun _ _ h => h, ?_, ?_, ?_⟩
  · intro j g o hg ho
    rcases oset ho with ⟨rfl, rfl⟩ | ⟨_, ho⟩
    · obtain ⟨cs, c1, c2, c3, c4, c5, c6, c7⟩ := hr.ho _ _ _ hg hs'
      refine ⟨cs, c1, c2, c3, c4, by simpa using c5, c6, fun q => ?_⟩
      have c8 := (c7 q).mono kp fun _ _ h => h
      by_cases hq : i = q
      · subst hq
        have hil : i < avs.length := (List.getElem?_eq_some_iff.1 hi).1
        have e1 : (avs.set i (.own os.length)).getD i .any = .own os.length := by simp [List.getD_eq_getElem?_getD, hil]
        have e2 : avs.getD i .any = .val (.slice none 0 0) := by simp [List.getD_eq_getElem?_getD, hi]
        rw [e1]
        rw [e2] at c8
        generalize cs.getD i undef = u at c8 ⊢
        cases c8
        exact .own (g := g0) hgm
      · have e1 : (avs.set i (.own os.length)).getD q .any = avs.getD q .any := by simp [List.getD_eq_getElem?_getD, hq]
        rw [e1]; exact c8
    · have hro := hr.ho j g o hg ho
      cases o with
      | dead => trivial
      | sli e xs => exact hro
      | sls e e2 xs => exact hro
      | ob q => exact hro
      | keep n K => exact hro
      | slr e avs =>
        obtain ⟨vs, a1, a2, a3, a4⟩ := hro
        exact ⟨vs, a1, a2, fun j => (a3 j).mono kp fun _ _ h => h, a4⟩
      | bx T avs =>
        obtain ⟨cs, c1, c2, c3, c4, c5, c6, c7⟩ := hro
        exact ⟨cs, c1, c2, c3, c4, c5, c6, fun j => (c7 j).mono kp fun _ _ h => h⟩
  · intro a b g1 g2 o1 o2 hab hg1 hg2 ho1 ho2 hn1 hn2
    rcases oset ho1 with ⟨q1, q2⟩ | ⟨_, q1⟩
    · rcases oset ho2 with ⟨p1, p2⟩ | ⟨_, p1⟩
      · exact absurd (q1.trans p1.symm) hab
      · rw [q1] at hg1 hab
        exact hr.hd _ _ g1 g2 _ _ hab hg1 hg2 hs' p1 (by simp) hn2
    · rcases oset ho2 with ⟨p1, p2⟩ | ⟨_, p1⟩
      · rw [p1] at hg2 hab
        exact hr.hd _ _ g1 g2 _ _ hab hg1 hg2 q1 hs' hn1 (by simp)
      · exact hr.hd _ _ g1 g2 _ _ hab hg1 hg2 q1 p1 hn1 hn2
  · intro a g o hg ho hn
    rcases oset ho with ⟨q1, q2⟩ | ⟨_, q1⟩
    · rw [q1] at hg
      exact hr.hn _ g _ hg hs' (by simp)
    · exact hr.hn _ g _ hg q1 hn
theorem Turns.nilF {env : Env} {os : List AO} {k i : Nat} {T : TypeId} {avs : List AV} (e e2 : TypeId) (hs : os[k]? = some (.bx T avs)) (hi : avs[i]? = some (.val (.slice none 0 0))) :
    Turns env os env ((os ++ [AO.sls e e2 []]).set k (.bx T (avs.set i (.own os.length)))) := fun _ _ _ _ h => h.nilF e e2 hs hi
end Go.Proofs.Ythjkpmjdkcainaa
/-
  Own slices whose cells are rows that are only read. No condition.
-/
namespace Go.Proofs.Ythjkpmjdkcainaa
open Go Go.RowKit

section
variable {P : Program} {env : Env} {os : List AO} {d : Option Tmp} {ty : TypeId} {pos : String} {af : Array Edge} {g : Option (Nat × Bool)} {wl : Bool}

theorem slr_slice {base : Nat} {w : World} {ok : Nat → Prop} {gs : List Gh} {gh : Gh} {e : TypeId} {avs : List AV} (h : RO base w ok gs gh (.slr e avs)) : ∃ a cap, gh.v = .slice a avs.length cap ∧ avs.length ≤ cap ∧ cap ≤ maxLen ∧
    (0 < avs.length → a = some ⟨gh.b, 0, none⟩) ∧ ∃ vs : List Value, vs.length = avs.length ∧ (∀ (i : Nat) u, vs[i]? = some u → w.cell? ⟨gh.b, i, none⟩ = some u) ∧ ∀ i : Nat, RV w ok gs (vs.getD i undef) (avs.getD i .any) := by
  obtain ⟨vs, a1, a2, a3, a4⟩ := h
  obtain ⟨a, cap, q1, q2, q3, q4⟩ := RowAt.of_owns a1
  rw [a2] at q1 q2 q4
  have hblk : ∀ b off, a = some ⟨b, off, none⟩ → 0 < avs.length → b = gh.b ∧ off = 0 := by
    intro b off ha hp
    obtain ⟨b', cap', r1, r2, _, _⟩ := own_slice a1 (i := 0) (by omega)
    rw [q1, ha] at r1
    simp only [Value.slice.injEq, Option.some.injEq, Addr.mk.injEq, and_true] at r1
    obtain ⟨⟨rfl, rfl⟩, _⟩ := r1
    rcases a4 with ⟨s1, _⟩ | ⟨s1, _⟩
    · rw [s1] at r2; cases r2
    · rw [s1] at r2; cases r2; exact ⟨rfl, rfl⟩
  refine ⟨a, cap, q1, q2, q3, fun hp => ?_, vs, a2, fun i u hu => ?_, a3⟩
  · obtain ⟨b, off, r1, _, _⟩ := q4 hp
    obtain ⟨rfl, rfl⟩ := hblk b off r1 hp
    exact r1
  · have hi := (List.getElem?_eq_some_iff.1 hu).1
    obtain ⟨b, off, r1, _, r3⟩ := q4 (by omega)
    obtain ⟨rfl, rfl⟩ := hblk b off r1 (by omega)
    have := r3 i u hu
    rwa [Nat.zero_add] at this

theorem q_slr_hi {t e : TypeId} [ht : TSlice P t e] [he : TCell P e] {x y : Operand} {h : Nat} {e' : TypeId} {avs : List AV} {n : Int} (hx : AV.ev env x = .own h) (hs : os[h]? = some (.slr e' avs)) (hy : AV.ev env y = .i n) (h0 : 0 ≤ n) (h1 : n ≤ avs.length) :
    QOp P wl ⟨d, .slice t x none (some y) none, ty, pos, af, g⟩ env os (.osub h 0 n.toNat) :=
  .of_run fun _ w gs tm hr => by
    have hh := hr.ev x
    rw [hx] at hh
    generalize hv : Act.eval ⟨tm, []⟩ x = v at hh
    cases hh with
    | @own _ gh hg =>
      obtain ⟨a, cap, ev, hc, hm, ha, _⟩ := slr_slice (hr.ho _ _ _ hg hs)
      have e1 := elem_of (P := P) ht.und
      refine ⟨sliced a 0 n.toNat cap 1, ?_, fun w' _ => ?_⟩
      · refine RV.osub hg (fun hp => ?_) (by omega) (by omega)
        rw [if_neg (by omega), ha (by omega)]
        simp [add_none]
      · have hrun := run_slice_h (P := P) w' t a avs.length cap (by rw [e1]; exact ht.und) .i64 n h0 (by omega)
        rw [e1, run_size] at hrun
        have hat := run_sliceAt_slice (P := P) w' t (.slice a avs.length cap) none (some (.int .i64 n)) none (by rw [e1]; exact ht.und)
        simp only [execOp, hv, ev, hr.evv hy, Option.map_none, Option.map_some, Sem.run_bind, hat, hrun, Result.andThen_ok, Sem.run_pure]
theorem q_slr_lo {t e : TypeId} [ht : TSlice P t e] [he : TCell P e] {x y : Operand} {h : Nat} {e' : TypeId} {avs : List AV} {n : Int} (hx : AV.ev env x = .own h) (hs : os[h]? = some (.slr e' avs)) (hy : AV.ev env y = .i n) (h0 : 0 ≤ n) (h1 : n ≤ avs.length) :
    QOp P wl ⟨d, .slice t x (some y) none none, ty, pos, af, g⟩ env os (.osub h n.toNat (avs.length - n.toNat)) :=
  .of_run fun _ w gs tm hr => by
    have hh := hr.ev x
    rw [hx] at hh
    generalize hv : Act.eval ⟨tm, []⟩ x = v at hh
    cases hh with
    | @own _ gh hg =>
      obtain ⟨a, cap, ev, hc, hm, ha, _⟩ := slr_slice (hr.ho _ _ _ hg hs)
      have e1 := elem_of (P := P) ht.und
      refine ⟨sliced a n.toNat avs.length cap 1, ?_, fun w' _ => ?_⟩
      · refine RV.osub hg (fun hp => ?_) (by omega) (by omega)
        rw [if_neg (by omega), ha (by omega)]
        simp [add_none]
      · have hrun := run_slice_l (P := P) w' t a avs.length cap (by rw [e1]; exact ht.und) .i64 n h0 h1
        rw [e1, run_size] at hrun
        have hat := run_sliceAt_slice (P := P) w' t (.slice a avs.length cap) (some (.int .i64 n)) none none (by rw [e1]; exact ht.und)
        simp only [execOp, hv, ev, hr.evv hy, Option.map_none, Option.map_some, Sem.run_bind, hat, hrun, Result.andThen_ok, Sem.run_pure]

end

section
variable {P : Program} {env : Env} {os : List AO} {d : Tmp} {ty : TypeId} {pos : String} {af : Array Edge} {g : Option (Nat × Bool)} {l rest : List Oper} {K : APost} {q : Md}
end
end Go.Proofs.Ythjkpmjdkcainaa
/-
  Slices whose rows are rows of an own slice: literals of one row, parts, parts appended. No condition.
-/
namespace Go.Proofs.Ythjkpmjdkcainaa
open Go Go.RowKit
def orL (k : Nat) (idx : List Nat) : List AV := idx.map (AV.orow k)
theorem orL_len (k : Nat) (idx : List Nat) : (orL k idx).length = idx.length := List.length_map _
theorem orL_app (k : Nat) (a b : List Nat) : orL k (a ++ b) = orL k a ++ orL k b := List.map_append
theorem orL_kill (h k : Nat) (idx : List Nat) : (orL k idx).map (AV.kill h) = orL k idx := by
  unfold orL
  rw [List.map_map]
  exact List.map_congr_left fun i _ => rfl
theorem orL_lim {n k : Nat} (h : k < n) (idx : List Nat) : (orL k idx).map (AV.lim n) = orL k idx := by
  unfold orL
  rw [List.map_map]
  refine List.map_congr_left fun i _ => ?_
  simp [AV.lim, h]
theorem orL_ren (t : List Nat) (idx : List Nat) : (orL 1 idx).map (AV.ren (0 :: 1 :: t)) = orL 1 idx := by
  unfold orL
  rw [List.map_map]
  exact List.map_congr_left fun i _ => rfl
theorem orL_get {k : Nat} {idx : List Nat} {j : Nat} (h : j < idx.length) : (orL k idx)[j]? = some (.orow k (idx.getD j 0)) := by
  unfold orL; rw [List.getElem?_map, List.getD_eq_getElem?_getD, List.getElem?_eq_getElem h]; rfl
section
variable {P : Program} {env : Env} {os : List AO} {d : Option Tmp} {ty : TypeId} {pos : String} {af : Array Edge} {g : Option (Nat × Bool)} {wl : Bool}
/-- A row of own rows is a slice. -/
theorem orow_one {base : Nat} {w : World} {gs : List Gh} {tm : Array Value} (hr : Rel base w gs env os tm) {k i : Nat} {e e2 : TypeId} {xss : List (List Int)} (hs : os[k]? = some (.sls e e2 xss)) {v : Value} {ok : Nat → Prop} (hv : RV w ok gs v (.orow k i)) :
    v.oneCell' = true ∧ ∃ a n c, v = .slice a n c := by
  cases hv with
  | @orow _ _ gk _ hg hrow =>
    obtain ⟨vs, bs, mb, a1, a2, a3, a4, a5, _⟩ := hr.ho _ _ _ hg hs
    rw [a4] at hrow
    obtain ⟨u, c, e1⟩ := ownsRow_slice (a5 _ _ hrow).1
    rw [e1]
    exact ⟨rfl, _, _, _, rfl⟩
theorem l_bso1 {t e : TypeId} {bytes : Nat} [ht : TSlice P t e] [he : TElem P e (.slice none 0 0) bytes] {x : Operand} {k i : Nat} {e1 e2 : TypeId} {xss : List (List Int)} (hx : AV.ev env x = .orow k i) (hk : os[k]? = some (.sls e1 e2 xss)) :
    LOp P ⟨d, .buildSlice t 1 #[(0, x)], ty, pos, af, g⟩ env os (.own os.length) env (os ++ [.slr e (orL k [i])]) := by
  intro base w gs tm hr
  have hxv := hr.ev x
  rw [hx] at hxv
  generalize hv : Act.eval ⟨tm, []⟩ x = v at hxv
  obtain ⟨hone, ua, un, uc, eu⟩ := orow_one hr hk hxv
  obtain ⟨ii, hi, hs, hz, hby⟩ := he.info
  have hbel := below_alloc w (.cells [v].toArray e)
  have hno : AO.slr e (orL k [i]) ≠ .dead → ∀ b, b ∈ [w.heap.size] → w.heap.size ≤ b ∧ b < (w.alloc (.cells [v].toArray e)).heap.size := fun _ b hb => by simp at hb; simp; omega
  let gn : Gh := ⟨.slice (some ⟨w.heap.size, 0, none⟩) 1 1, w.heap.size, [w.heap.size], []⟩
  have hgs : ∀ (i : Nat) g', gs[i]? = some g' → (gs ++ [gn])[i]? = some g' := fun i g' e => by
    rw [List.getElem?_append_left (List.getElem?_eq_some_iff.1 e).1]; exact e
  have kp := keeps_new (g := gn) (o := AO.slr e (orL k [i])) hr.hl hbel hno
  refine ⟨.slice (some ⟨w.heap.size, 0, none⟩) 1 1, _, gs ++ [gn], .inl ?_, hr.new hbel _ _ hno ?_, ?_, hbel.mono hr.hb⟩
  · simp [execOp, Instr.buildSlice, run_underlying ht.und, sizeOf, typeInfo, zeroValue, hi, hs, hz, Instr.fill, newRow, hv, eu, Value.cells, ar1]
  · refine ⟨[v], ⟨rfl, .inr ⟨w.heap.size, 1, _, rfl, hr.hb, heap_alloc_new w _, Nat.le_refl _, by simp [maxLen], by simp, by simp⟩⟩, rfl, fun i => ?_, .inr ⟨rfl, rfl⟩⟩
    match i with
    | 0 => exact hxv.mono kp hgs
    | i + 1 => exact .any _
  · have := RV.own (w := w.alloc (.cells [v].toArray e)) (ok := okOf (gs ++ [gn]) (os ++ [.slr e (orL k [i])])) (len_new (gs := gs) (g := gn))
    rw [hr.hl] at this
    exact this
theorem src_osub {y : Operand} {h k off len : Nat} {e e1 e2 : TypeId} {idx : List Nat} {xss : List (List Int)} (hy : AV.ev env y = .osub h off len) (hs : os[h]? = some (.slr e (orL k idx))) (hk : os[k]? = some (.sls e1 e2 xss)) (hle : off + len ≤ idx.length) : Src env os y (orL k ((idx.drop off).take len)) := by
  intro base w gs tm hr
  have hyv := hr.ev y
  rw [hy] at hyv
  generalize hv : Act.eval ⟨tm, []⟩ y = v at hyv
  cases hyv with
  | @osub _ _ _ cap p gh hg hp hc hm =>
    obtain ⟨_, _, _, _, _, _, vs, q5, q6, q7⟩ := slr_slice (hr.ho _ _ _ hg hs)
    rw [orL_len] at q5
    have hl : (orL k ((idx.drop off).take len)).length = len := by rw [orL_len]; simp; omega
    have rvj : ∀ j, j < idx.length → RV w (okOf gs os) gs (vs.getD j undef) (.orow k (idx.getD j 0)) := fun j hj => by
      have := q7 j
      rwa [List.getD_eq_getElem?_getD (l := orL k idx), orL_get hj] at this
    refine ⟨p, cap, (vs.drop off).take len, by rw [hl], by rw [hl]; simp; omega, fun h0 => ?_, fun u hu => ?_, fun i => ?_⟩
    · rw [hl] at h0
      refine ⟨_, hp h0, fun j u hj => ?_⟩
      rw [List.getElem?_take] at hj
      split at hj
      · rw [List.getElem?_drop] at hj
        rw [add_none]
        exact q6 _ _ hj
      · cases hj
    · obtain ⟨j, hj⟩ := List.getElem?_of_mem (List.mem_of_mem_drop (List.mem_of_mem_take hu))
      have hjl := (List.getElem?_eq_some_iff.1 hj).1
      have := rvj j (by omega)
      rw [List.getD_eq_getElem?_getD (l := vs), hj] at this
      exact (orow_one hr hk this).1
    · by_cases hi : i < len
      · have e1 : ((vs.drop off).take len).getD i undef = vs.getD (off + i) undef := by
          rw [List.getD_eq_getElem?_getD, List.getElem?_take, if_pos hi, List.getElem?_drop, List.getD_eq_getElem?_getD]
        have e2 : (orL k ((idx.drop off).take len)).getD i .any = .orow k (idx.getD (off + i) 0) := by
          unfold orL; rw [List.getD_eq_getElem?_getD, List.getElem?_map, List.getElem?_take, if_pos hi, List.getElem?_drop, List.getD_eq_getElem?_getD, List.getElem?_eq_getElem (by omega)]; rfl
        rw [e1, e2]
        exact rvj _ (by omega)
      · have e2 : (orL k ((idx.drop off).take len)).getD i .any = .any := by
          rw [List.getD_eq_getElem?_getD, List.getElem?_eq_none (by omega)]; rfl
        rw [e2]; exact .any _
theorem src_oslr {y : Operand} {q k : Nat} {e e1 e2 : TypeId} {idx : List Nat} {xss : List (List Int)} (hy : AV.ev env y = .own q) (hs : os[q]? = some (.slr e (orL k idx))) (hk : os[k]? = some (.sls e1 e2 xss)) : Src env os y (orL k idx) := by
  intro base w gs tm hr
  have hyv := hr.ev y
  rw [hy] at hyv
  generalize hv : Act.eval ⟨tm, []⟩ y = v at hyv
  cases hyv with
  | @own _ gh hg =>
    obtain ⟨a, cap, q1, q2, q3, q4, vs, q5, q6, q7⟩ := slr_slice (hr.ho _ _ _ hg hs)
    refine ⟨a, cap, vs, q1, q5, fun h0 => ⟨_, q4 h0, fun j u hj => by rw [add_none, Nat.zero_add]; exact q6 j u hj⟩, fun u hu => ?_, q7⟩
    obtain ⟨j, hj⟩ := List.getElem?_of_mem hu
    have hjl := (List.getElem?_eq_some_iff.1 hj).1
    have := q7 j
    rw [orL_len] at q5
    rw [List.getD_eq_getElem?_getD (l := orL k idx), orL_get (by omega), List.getD_eq_getElem?_getD (l := vs), hj] at this
    exact (orow_one hr hk this).1
end
section
variable {P : Program} {env : Env} {os : List AO} {d : Tmp} {ty : TypeId} {pos : String} {af : Array Edge} {g : Option (Nat × Bool)} {l rest : List Oper} {K : APost} {q : Md}
theorem w_bso0 {t e : TypeId} {bytes : Nat} [TSlice P t e] [TElem P e (.slice none 0 0) bytes] (k : Nat) {m : Nat} (hm : os.length = m) (h' : AOps P .seq l rest K (env.up d (.own m)) (os ++ [.slr e (orL k [])])) :
    AOps P .seq l (⟨some d, .buildSlice t 0 #[], ty, pos, af, none⟩ :: rest) K env os := AOps.lo (hm ▸ l_bsx0 k) h'
theorem w_bso1 {t e : TypeId} {bytes : Nat} [TSlice P t e] [TElem P e (.slice none 0 0) bytes] {x : Operand} {k i m : Nat} {e1 e2 : TypeId} {xss : List (List Int)} (hx : evo env x = some (.orow k i)) (hk : os[k]? = some (.sls e1 e2 xss)) (hm : os.length = m)
    (h' : AOps P .seq l rest K (env.up d (.own m)) (os ++ [.slr e (orL k [i])])) : AOps P .seq l (⟨some d, .buildSlice t 1 #[(0, x)], ty, pos, af, none⟩ :: rest) K env os := AOps.lo (hm ▸ l_bso1 (ev_of hx) hk) h'
theorem w_ldro {t : TypeId} [TCell P t] {x : Operand} {h i k : Nat} {e : TypeId} {idx : List Nat} (hw : wantedA l env ⟨some d, .load t x, ty, pos, af, g⟩ = some true) (hq : q.wl = false) (hx : evo env x = some (.optr h i)) (hs : os[h]? = some (.slr e (orL k idx))) (hi : i < idx.length)
    (h' : AOps P q l rest K (env.up d (.orow k (idx.getD i 0))) os) : AOps P q l (⟨some d, .load t x, ty, pos, af, g⟩ :: rest) K env os := AOps.qo hw (by rw [hq]; exact q_load_slr (ev_of hx) hs (orL_get hi)) h'
theorem w_leno {t e0 : TypeId} [TSlice P t e0] {x : Operand} {h k : Nat} {e : TypeId} {idx : List Nat} (hw : wantedA l env ⟨some d, .call { callee := .builtin .len, args := #[x], argTypes := #[t] }, ty, pos, af, g⟩ = some true) (hx : evo env x = some (.own h)) (hs : os[h]? = some (.slr e (orL k idx)))
    (h' : AOps P q l rest K (env.up d (.i idx.length)) os) : AOps P q l (⟨some d, .call { callee := .builtin .len, args := #[x], argTypes := #[t] }, ty, pos, af, g⟩ :: rest) K env os :=
  w_len hw hx (.slr hs) (by rw [orL_len]; exact h')
theorem w_idxq {t e : TypeId} [TSlice P t e] [TCell P e] {x y : Operand} {h k : Nat} {e' : TypeId} {idx : List Nat} {i : Int} (hw : wantedA l env ⟨some d, .indexAddr t x y, ty, pos, af, g⟩ = some true) (hx : evo env x = some (.own h)) (hs : os[h]? = some (.slr e' (orL k idx))) (hy : evo env y = some (.i i)) (h0 : 0 ≤ i) (h1 : i < idx.length)
    (h' : AOps P q l rest K (env.up d (.optr h i.toNat)) os) : AOps P q l (⟨some d, .indexAddr t x y, ty, pos, af, g⟩ :: rest) K env os := w_idxo hw hx (.slr hs) hy h0 (by rw [orL_len]; exact h1) h'
theorem w_osrhi {t e : TypeId} [TSlice P t e] [TCell P e] {x y : Operand} {h k : Nat} {e' : TypeId} {idx : List Nat} {n : Int} (hw : wantedA l env ⟨some d, .slice t x none (some y) none, ty, pos, af, g⟩ = some true) (hx : evo env x = some (.own h)) (hs : os[h]? = some (.slr e' (orL k idx))) (hy : evo env y = some (.i n)) (h0 : 0 ≤ n) (h1 : n ≤ idx.length)
    (h' : AOps P q l rest K (env.up d (.osub h 0 n.toNat)) os) : AOps P q l (⟨some d, .slice t x none (some y) none, ty, pos, af, g⟩ :: rest) K env os := AOps.qo hw (q_slr_hi (ev_of hx) hs (ev_of hy) h0 (by rw [orL_len]; exact h1)) h'
theorem w_osrlo {t e : TypeId} [TSlice P t e] [TCell P e] {x y : Operand} {h k : Nat} {e' : TypeId} {idx : List Nat} {n : Int} (hw : wantedA l env ⟨some d, .slice t x (some y) none none, ty, pos, af, g⟩ = some true) (hx : evo env x = some (.own h)) (hs : os[h]? = some (.slr e' (orL k idx))) (hy : evo env y = some (.i n)) (h0 : 0 ≤ n) (h1 : n ≤ idx.length)
    (h' : AOps P q l rest K (env.up d (.osub h n.toNat (idx.length - n.toNat))) os) : AOps P q l (⟨some d, .slice t x (some y) none none, ty, pos, af, g⟩ :: rest) K env os :=
  AOps.qo hw (q_slr_lo (P := P) (t := t) (e := e) (ev_of hx) hs (ev_of hy) h0 (by rw [orL_len]; exact h1)) (by rw [orL_len]; exact h')
theorem w_appos {t e : TypeId} {bytes : Nat} [TSlice P t e] [TElem P e (.slice none 0 0) bytes] {x y : Operand} {p h k off len : Nat} {e' e1 e2 e3 : TypeId} {idx jdx : List Nat} {xss : List (List Int)}
    (hx : evo env x = some (.own p)) (hs : os[p]? = some (.slr e' (orL k jdx))) (hee : e' = e) (hy : evo env y = some (.osub h off len)) (hh : os[h]? = some (.slr e1 (orL k idx))) (hk : os[k]? = some (.sls e2 e3 xss)) (hle : off + len ≤ idx.length) (hb : (jdx.length + len) * bytes ≤ 140737488355328)
    (h' : AOps P .seq l rest K (Env.up (env.mp (AV.kill p)) d (.own p)) ((os.map (AO.kill p)).set p (.slr e (orL k (jdx ++ (idx.drop off).take len))))) :
    AOps P .seq l (⟨some d, .call { callee := .builtin .append, args := #[x, y], argTypes := #[t, t] }, ty, pos, af, none⟩ :: rest) K env os :=
  AOps.lo (l_append_src (ev_of hx) hs hee (src_osub (ev_of hy) hh hk hle) (by rw [orL_len, orL_len, List.length_take, List.length_drop, Nat.min_eq_left (by omega)]; exact hb) (orL_kill _ _ _) (orL_kill _ _ _)) (by rw [orL_app] at h'; exact h')
theorem w_appol {t e : TypeId} {bytes : Nat} [TSlice P t e] [TElem P e (.slice none 0 0) bytes] {x y : Operand} {p h k : Nat} {e' e1 e2 e3 : TypeId} {idx jdx : List Nat} {xss : List (List Int)}
    (hx : evo env x = some (.own p)) (hs : os[p]? = some (.slr e' (orL k jdx))) (hee : e' = e) (hy : evo env y = some (.own h)) (hh : os[h]? = some (.slr e1 (orL k idx))) (hk : os[k]? = some (.sls e2 e3 xss)) (hb : (jdx.length + idx.length) * bytes ≤ 140737488355328)
    (h' : AOps P .seq l rest K (Env.up (env.mp (AV.kill p)) d (.own p)) ((os.map (AO.kill p)).set p (.slr e (orL k (jdx ++ idx))))) :
    AOps P .seq l (⟨some d, .call { callee := .builtin .append, args := #[x, y], argTypes := #[t, t] }, ty, pos, af, none⟩ :: rest) K env os :=
  AOps.lo (l_append_src (ev_of hx) hs hee (src_oslr (ev_of hy) hh hk) (by rw [orL_len, orL_len]; exact hb) (orL_kill _ _ _) (orL_kill _ _ _)) (by rw [orL_app] at h'; exact h')
end
end Go.Proofs.Ythjkpmjdkcainaa
/-
  A literal slice of one row, as an own slice of rows. No condition.
-/
namespace Go.Proofs.Ythjkpmjdkcainaa
open Go Go.RowKit
section
variable {P : Program} {env : Env} {os : List AO} {d : Option Tmp} {ty : TypeId} {pos : String} {af : Array Edge} {g : Option (Nat × Bool)}

end
section
variable {P : Program} {env : Env} {os : List AO} {d : Tmp} {ty : TypeId} {pos : String} {af : Array Edge} {l rest : List Oper} {K : APost}
end
section
variable {P : Program} {N : APost} {X : Nat → APost} {Rt : APost} {env : Env} {os : List AO}
/-- A loop whose rounds may number the objects anew. -/
theorem AWp.loopS {c : Code} {ι : Type} (E : ι → Env) (O : ι → List AO) (φ : ι → Prop) (μ : ι → Nat) (x0 : ι) (h0 : φ x0) (f0 : Fit env os (E x0) (O x0))
    (round : ∀ x, φ x → AWp P c (fun env' os' => ∃ y, φ y ∧ μ y < μ x ∧ (Fit env' os' (E y) (O y) ∨ ∃ σ, FitS σ env' os' (E y) (O y))) X Rt (E x) (O x)) : AWp P (.loop c) N X Rt env os := by
  intro base w0 w gs tm hr hb
  obtain ⟨gs0, hr0⟩ := hr.fit f0
  refine wp_loop_ghost (fun n a w' => ∃ x gs', φ x ∧ μ x = n ∧ Rel base w' gs' (E x) (O x) a.tmps ∧ a.defers = [] ∧ Below base w0 w') (μ x0) ⟨x0, gs0, h0, rfl, hr0, rfl, hb⟩ ?_
  rintro n a w1 ⟨x, gs1, hφ, rfl, hr1, hd, hb1⟩
  have ea : a = ⟨a.tmps, []⟩ := by cases a; simp_all
  rw [ea]
  refine wp_mono (round x hφ base w0 w1 gs1 a.tmps hr1 hb1) ?_
  intro e a' w' hq
  cases e with
  | normal =>
    obtain ⟨env', os', gs', r1, r2, r3, y, hy, hlt, hf⟩ := hq
    rcases hf with hf | ⟨σ, hf⟩
    · obtain ⟨gs2, hr2⟩ := r1.fit hf
      exact ⟨μ y, hlt, y, gs2, hy, rfl, hr2, r2, r3⟩
    · obtain ⟨gs2, hr2⟩ := r1.fits hf
      exact ⟨μ y, hlt, y, gs2, hy, rfl, hr2, r2, r3⟩
  | exit j => exact hq
  | ret => exact hq
  | goto l => exact hq
  | panic ch => exact hq
  | outgrown => exact hq
end

end Go.Proofs.Ythjkpmjdkcainaa
/-
  Draws of graphs: edges in order. Condition: small graphs.
-/
namespace Go.Proofs.Ythjkpmjdkcainaa
open Go Go.RowKit
attribute [local irreducible] AWp AOps ResIs Ret1 QOp LOp COp AFnV AFn Imms LeE LeO
set_option maxHeartbeats 1000000
set_option linter.unusedSimpArgs false
set_option linter.unusedVariables false

theorem l01Same_c (xs ys : List Int) : AFnV Try.prog 54 [.ints xs, .ints ys] (.bool (decide (xs = ys))) := by
  (refine AFnV.start Try.func54 Try.ntmps54 rfl (by kernel_rfl) fun hk0 => ?_; simp only [Env.start, enumF, List.length_cons, List.length_nil, Nat.reduceAdd, Nat.reduceSub, List.cons_append, List.nil_append])
  obtain ⟨k1, k2⟩ : ArgOk (.ints xs) := hk0 _ (by simp)
  obtain ⟨k3, k4⟩ : ArgOk (.ints ys) := hk0 _ (by simp)
  by_cases hl : xs.length = ys.length
  · repeat' (first | (apply AOps.nil; try simp only [List.nil_append, List.cons_append, List.set_cons_zero, List.set_cons_succ, List.length_cons, List.length_nil, Nat.reduceAdd, AV.sh, AV.sh1, AV.sh0, AO.sh, List.map_cons, List.map_nil, Nat.zero_add, Nat.add_zero, setAll]) | (apply w_move; exact rfl; exact rfl) | (apply w_assign; exact rfl; exact rfl) | apply AWp.seq | apply AWp.region | ((apply AWp.condP; exact rfl) <;> intro h) | apply AWp.block | apply AWp.ret | apply AWp.skip | (apply w_len; exact rfl; exact rfl; first | exact .ints _ | exact .intss _ | exact .sli rfl | exact .sls rfl | exact .slr rfl | exact .orow rfl | exact .nil) | omega | ((apply w_neq); iterate 3 exact rfl))
    refine AWp.loop (ι := Nat) (fun i => ⟨26, [(0, .ints xs), (1, .ints ys), (5, .i i)]⟩) (fun _ => []) (fun i => i ≤ xs.length ∧ xs.take i = ys.take i) (fun i => xs.length - i) 0 ⟨by omega, rfl⟩ ⟨lee rfl (by (repeat (first | exact le_nil | refine le_eq rfl rfl ?_))), by (repeat (exact lo_nil)), rfl, rfl⟩ ?_
    rintro i ⟨i0, i1⟩
    by_cases hi : i < xs.length
    · by_cases he : geti xs i = geti ys i
      · repeat' (first | (apply AOps.nil; try simp only [List.nil_append, List.cons_append, List.set_cons_zero, List.set_cons_succ, List.length_cons, List.length_nil, Nat.reduceAdd, AV.sh, AV.sh1, AV.sh0, AO.sh, List.map_cons, List.map_nil, Nat.zero_add, Nat.add_zero, setAll]) | (apply w_move; exact rfl; exact rfl) | (apply w_assign; exact rfl; exact rfl) | apply AWp.seq | apply AWp.region | ((apply AWp.condP; exact rfl) <;> intro h) | apply AWp.block | apply AWp.ret | apply AWp.exit | apply AWp.skip | (apply AWp.regionQ; kernel_rfl; kernel_rfl) | (apply w_len; exact rfl; exact rfl; first | exact .ints _ | exact .intss _ | exact .sli rfl | exact .sls rfl | exact .slr rfl | exact .orow rfl | exact .nil) | omega | ((first | apply w_lss | apply w_neq | apply w_add | apply w_idx | apply w_ld); iterate 3 exact rfl) | (apply inI_of <;> omega))
        refine ⟨i + 1, ⟨by omega, ?_⟩, by omega, ⟨lee rfl (by (repeat (first | exact le_nil | refine le_eq rfl rfl ?_))), by (repeat (exact lo_nil)), rfl, rfl⟩⟩
        rw [List.take_succ_eq_append_getElem hi, List.take_succ_eq_append_getElem (by omega), i1]
        simp only [geti, Int.toNat_natCast] at he
        rw [List.getD_eq_getElem?_getD, List.getD_eq_getElem?_getD, List.getElem?_eq_getElem hi, List.getElem?_eq_getElem (by omega)] at he
        simp only [Option.getD_some] at he
        rw [he]
      · repeat' (first | (apply AOps.nil; try simp only [List.nil_append, List.cons_append, List.set_cons_zero, List.set_cons_succ, List.length_cons, List.length_nil, Nat.reduceAdd, AV.sh, AV.sh1, AV.sh0, AO.sh, List.map_cons, List.map_nil, Nat.zero_add, Nat.add_zero, setAll]) | (apply w_move; exact rfl; exact rfl) | (apply w_assign; exact rfl; exact rfl) | apply AWp.seq | apply AWp.region | ((apply AWp.condP; exact rfl) <;> intro h) | apply AWp.block | apply AWp.ret | apply AWp.exit | apply AWp.skip | (apply AWp.regionQ; kernel_rfl; kernel_rfl) | (apply w_len; exact rfl; exact rfl; first | exact .ints _ | exact .intss _ | exact .sli rfl | exact .sls rfl | exact .slr rfl | exact .orow rfl | exact .nil) | omega | ((first | apply w_lss | apply w_neq | apply w_idx | apply w_ld); iterate 3 exact rfl))
        exact .bool Try.results54 rfl (decide_eq_false fun e => he (by rw [e])).symm
    · repeat' (first | (apply AOps.nil; try simp only [List.nil_append, List.cons_append, List.set_cons_zero, List.set_cons_succ, List.length_cons, List.length_nil, Nat.reduceAdd, AV.sh, AV.sh1, AV.sh0, AO.sh, List.map_cons, List.map_nil, Nat.zero_add, Nat.add_zero, setAll]) | (apply w_move; exact rfl; exact rfl) | (apply w_assign; exact rfl; exact rfl) | apply AWp.seq | apply AWp.region | ((apply AWp.condP; exact rfl) <;> intro h) | apply AWp.block | apply AWp.ret | apply AWp.exit | apply AWp.skip | (apply AWp.regionQ; kernel_rfl; kernel_rfl) | (apply w_len; exact rfl; exact rfl; first | exact .ints _ | exact .intss _ | exact .sli rfl | exact .sls rfl | exact .slr rfl | exact .orow rfl | exact .nil) | omega | ((apply w_lss); iterate 3 exact rfl))
      refine .bool Try.results54 rfl (decide_eq_true ?_).symm
      rw [List.take_of_length_le (by omega), List.take_of_length_le (by omega)] at i1
      exact i1
  · repeat' (first | (apply AOps.nil; try simp only [List.nil_append, List.cons_append, List.set_cons_zero, List.set_cons_succ, List.length_cons, List.length_nil, Nat.reduceAdd, AV.sh, AV.sh1, AV.sh0, AO.sh, List.map_cons, List.map_nil, Nat.zero_add, Nat.add_zero, setAll]) | (apply w_move; exact rfl; exact rfl) | (apply w_assign; exact rfl; exact rfl) | apply AWp.seq | apply AWp.region | ((apply AWp.condP; exact rfl) <;> intro h) | apply AWp.block | apply AWp.ret | apply AWp.skip | (apply w_len; exact rfl; exact rfl; first | exact .ints _ | exact .intss _ | exact .sli rfl | exact .sls rfl | exact .slr rfl | exact .orow rfl | exact .nil) | omega | ((apply w_neq); iterate 3 exact rfl))
    exact .bool Try.results54 rfl (decide_eq_false fun e => hl (by rw [e])).symm

theorem lim_one {K : Kp} {e e2 e3 : TypeId} {ys : List (List Int)} (st : List Nat) : [AO.keep 1 K, .sls e e2 ys, .slr e3 (orL 1 st)].map (AO.lim 3) = [AO.keep 1 K, .sls e e2 ys, .slr e3 (orL 1 st)] := by
  simp only [List.map_cons, List.map_nil, AO.lim, orL_lim (show 1 < 3 by decide)]
  rfl
theorem lim_two {K : Kp} {e e2 e3 e4 : TypeId} {ys : List (List Int)} (st su : List Nat) : [AO.keep 1 K, .sls e e2 ys, .slr e3 (orL 1 st), .slr e4 (orL 1 su)].map (AO.lim 4) = [AO.keep 1 K, .sls e e2 ys, .slr e3 (orL 1 st), .slr e4 (orL 1 su)] := by
  simp only [List.map_cons, List.map_nil, AO.lim, orL_lim (show 1 < 4 by decide)]
  rfl
/-- One index more, in its place. -/
def insQ (idx : List Nat) (a i : Nat) : List Nat := (idx.drop 0).take a ++ i :: (idx.drop a).take (idx.length - a)
theorem insQ_ok {idx : List Nat} {a i : Nat} (ha : a ≤ idx.length) (hn : idx.Nodup) (hk : ∀ k ∈ idx, k < i) : (insQ idx a i).length = idx.length + 1 ∧ (insQ idx a i).Nodup ∧ ∀ k ∈ insQ idx a i, k < i + 1 := by
  have e : insQ idx a i = idx.take a ++ i :: idx.drop a := by
    unfold insQ
    rw [List.drop_zero, List.take_of_length_le (l := idx.drop a) (by rw [List.length_drop]; omega)]
  have hp : (insQ idx a i).Perm (i :: idx) := by
    rw [e]
    have := List.perm_middle (a := i) (l₁ := idx.take a) (l₂ := idx.drop a)
    rwa [List.take_append_drop] at this
  refine ⟨by rw [hp.length_eq]; rfl, hp.nodup_iff.2 (List.nodup_cons.2 ⟨fun h => by have := hk i h; omega, hn⟩), fun k h => ?_⟩
  rcases List.mem_cons.1 (hp.mem_iff.1 h) with rfl | h
  · omega
  · have := hk k h; omega
set_option maxHeartbeats 8000000 in
theorem l11Sorted_c (E : List (List Int)) (h1 : E.length ≤ 200) (h2 : ∀ e ∈ E, e.length = 2) : AFnT Try.prog 47 [.own 0] 24 2 E (fun r => r.length = E.length ∧ ∀ e ∈ r, e ∈ E) := by
  have hE2 : ∀ j : Nat, j < E.length → (E.getD j []).length = 2 := fun j hj => h2 _ (by rw [List.getD_eq_getElem?_getD, List.getElem?_eq_getElem hj]; exact List.getElem_mem _)
  (refine AFnT.start Try.func47 Try.ntmps47 rfl (by kernel_rfl) fun K => ?_; simp only [Env.start, enumF, List.map_cons, List.map_nil, AV.sh, List.length_cons, List.length_nil, Nat.reduceAdd, Nat.reduceSub, List.cons_append, List.nil_append])
  repeat' (first | (apply AOps.nil; try simp only [List.nil_append, List.cons_append, List.set_cons_zero, List.set_cons_succ, List.length_cons, List.length_nil, Nat.reduceAdd, AV.sh, AV.sh1, AV.sh0, AO.sh, List.map_cons, List.map_nil, Nat.zero_add, Nat.add_zero, setAll]) | (apply w_assign; exact rfl; exact rfl) | apply AWp.seq | apply AWp.region | apply AWp.block | (apply w_bso0 1; exact rfl; try simp only [List.nil_append, List.cons_append, List.set_cons_zero, List.set_cons_succ, List.length_cons, List.length_nil, Nat.reduceAdd, AV.sh, AV.sh1, AV.sh0, AO.sh, List.map_cons, List.map_nil, Nat.zero_add, Nat.add_zero, setAll]))
  refine AWp.loopS (ι := Nat × List Nat) (fun s => ⟨48, [(0, .own 1), (3, .own 2), (4, .i s.1)]⟩) (fun s => [.keep 1 K, .sls 24 2 E, .slr 24 (orL 1 s.2)]) (fun s => s.1 ≤ E.length ∧ s.2.length = s.1 ∧ s.2.Nodup ∧ ∀ k ∈ s.2, k < s.1) (fun s => E.length - s.1) (0, []) ⟨Nat.zero_le _, rfl, List.nodup_nil, fun k hk => by cases hk⟩ ⟨lee rfl (by (repeat (first | exact le_nil | refine le_eq rfl rfl ?_))), by (repeat (first | exact lo_nil | refine lo_eq rfl ?_)), rfl, (by first | exact rfl | exact lim_one _)⟩ ?_
  rintro ⟨i, idx⟩ ⟨i0, i1, i2, i3⟩
  simp only at i0 i1 i2 i3
  by_cases hi : i < E.length
  · repeat' (first | (apply AOps.nil; try simp only [List.nil_append, List.cons_append, List.set_cons_zero, List.set_cons_succ, List.length_cons, List.length_nil, Nat.reduceAdd, AV.sh, AV.sh1, AV.sh0, AO.sh, List.map_cons, List.map_nil, Nat.zero_add, Nat.add_zero, setAll]) | (apply w_move; exact rfl; exact rfl) | (apply w_assign; exact rfl; exact rfl) | apply AWp.seq | apply AWp.region | ((apply AWp.condP; exact rfl) <;> intro h) | apply AWp.block | apply AWp.ret | apply AWp.exit | apply AWp.skip | ((first | apply w_leno | apply w_lss); iterate 3 exact rfl) | (apply w_len; exact rfl; exact rfl; first | exact .ints _ | exact .intss _ | exact .sli rfl | exact .sls rfl | exact .slr rfl | exact .orow rfl | exact .nil) | omega)
    refine AWp.loop (ι := Nat) (fun a => ⟨48, [(0, .own 1), (3, .own 2), (4, .i i), (5, .i a)]⟩) (fun a => [.keep 1 K, .sls 24 2 E, .slr 24 (orL 1 idx)]) (fun a => a ≤ idx.length) (fun a => idx.length - a) 0 (Nat.zero_le _) ⟨lee rfl (by (repeat (first | exact le_nil | refine le_eq rfl rfl ?_))), by (repeat (first | exact lo_nil | refine lo_eq rfl ?_)), rfl, (by first | exact rfl | exact lim_one _)⟩ ?_
    intro a a0
    by_cases ha : a < idx.length
    · have hk : idx.getD a 0 < E.length := by
        have := i3 (idx.getD a 0) (by rw [List.getD_eq_getElem?_getD, List.getElem?_eq_getElem ha]; exact List.getElem_mem _)
        omega
      have hless := l01Less_c (E.getD (idx.getD a 0) []) (E.getD i []) (hE2 _ hk) (hE2 _ hi)
      repeat' (apply AWp.seq)
      by_cases hc : geti (E.getD (idx.getD a 0) []) 0 < geti (E.getD i []) 0 ∨ geti (E.getD (idx.getD a 0) []) 0 = geti (E.getD i []) 0 ∧ geti (E.getD (idx.getD a 0) []) 1 < geti (E.getD i []) 1
      · have hb : less2 (E.getD (idx.getD a 0) []) (E.getD i []) = true := decide_eq_true hc
        rw [hb] at hless
        repeat' (first | (apply AOps.nil; try simp only [List.nil_append, List.cons_append, List.set_cons_zero, List.set_cons_succ, List.length_cons, List.length_nil, Nat.reduceAdd, AV.sh, AV.sh1, AV.sh0, AO.sh, List.map_cons, List.map_nil, Nat.zero_add, Nat.add_zero, setAll]) | ((apply AOps.splitP; exact rfl; exact rfl) <;> intro h) | (apply w_move; exact rfl; exact rfl) | (apply w_assign; exact rfl; exact rfl) | apply AWp.seq | apply AWp.region | (apply AWp.condT; exact rfl) | (apply AWp.condF; exact rfl) | apply AWp.block | apply AWp.exit | apply AWp.skip | (apply AWp.regionQ; kernel_rfl; kernel_rfl) | (apply w_skip; exact rfl) | (apply w_pickT; exact rfl; exact rfl; exact rfl) | (apply w_pickF; exact rfl; exact rfl; exact rfl) | ((first | apply w_leno | apply w_lss | apply w_add | apply w_idx | apply w_ld); iterate 3 exact rfl) | ((first | apply w_idxq | apply w_ldro); iterate 4 exact rfl) | (apply w_call (hless); exact rfl; exact rfl; focus ((repeat (first | exact im_nil | refine im_cons rfl (.orow rfl) ?_)); done)) | omega | (apply w_idxo; exact rfl; exact rfl; (exact .sls rfl); exact rfl) | (apply w_ldls; iterate 4 exact rfl) | (apply inI_of <;> omega))
        exact ⟨a + 1, by omega, by omega, ⟨lee rfl (by (repeat (first | exact le_nil | refine le_eq rfl rfl ?_))), by (repeat (first | exact lo_nil | refine lo_eq rfl ?_)), rfl, (by first | exact rfl | exact lim_one _)⟩⟩
      · have hb : less2 (E.getD (idx.getD a 0) []) (E.getD i []) = false := decide_eq_false hc
        rw [hb] at hless
        refine AWp.regionQ (by kernel_rfl) (by kernel_rfl) ?_
        repeat' (first | (apply AOps.nil; try simp only [List.nil_append, List.cons_append, List.set_cons_zero, List.set_cons_succ, List.length_cons, List.length_nil, Nat.reduceAdd, AV.sh, AV.sh1, AV.sh0, AO.sh, List.map_cons, List.map_nil, Nat.zero_add, Nat.add_zero, setAll]) | ((apply AOps.splitP; exact rfl; exact rfl) <;> intro h) | (apply w_move; exact rfl; exact rfl) | apply AWp.seq | (apply AWp.condF; exact rfl) | apply AWp.exit | (apply w_skip; exact rfl) | (apply w_pickT; exact rfl; exact rfl; exact rfl) | (apply w_pickF; exact rfl; exact rfl; exact rfl) | ((first | apply w_leno | apply w_lss | apply w_idx | apply w_ld); iterate 3 exact rfl) | ((first | apply w_idxq | apply w_ldro); iterate 4 exact rfl) | (apply w_call (hless); exact rfl; exact rfl; focus ((repeat (first | exact im_nil | refine im_cons rfl (.orow rfl) ?_)); done)) | omega | (apply w_idxo; exact rfl; exact rfl; (exact .sls rfl); exact rfl) | (apply w_ldls; iterate 4 exact rfl))
        refine AWp.regionA (by kernel_rfl) (envC := ⟨48, [(0, .own 1), (3, .own 2), (4, .i i), (5, .i a), (6, .own 3)]⟩) (osC := [.keep 1 K, .sls 24 2 E, .slr 24 (orL 1 idx), .slr 24 (orL 1 ([i] ++ (idx.drop a).take (idx.length - a)))]) rfl rfl ?_ ?_
        · repeat' (first | (apply AOps.nil; try simp only [List.nil_append, List.cons_append, List.set_cons_zero, List.set_cons_succ, List.length_cons, List.length_nil, Nat.reduceAdd, AV.sh, AV.sh1, AV.sh0, AO.sh, List.map_cons, List.map_nil, Nat.zero_add, Nat.add_zero, setAll]) | (apply w_move; exact rfl; exact rfl) | (apply w_assign; exact rfl; exact rfl) | (apply w_bso1; exact rfl; exact rfl; exact rfl; try simp only [List.nil_append, List.cons_append, List.set_cons_zero, List.set_cons_succ, List.length_cons, List.length_nil, Nat.reduceAdd, AV.sh, AV.sh1, AV.sh0, AO.sh, List.map_cons, List.map_nil, Nat.zero_add, Nat.add_zero, setAll]) | ((first | apply w_idxq | apply w_ldro | apply w_osrlo); iterate 4 exact rfl) | (apply w_appos; exact rfl; exact rfl; exact rfl; exact rfl; exact rfl; exact rfl; rotate_left 2; simp only [Env.mp, List.map_cons, List.map_nil, List.set_cons_zero, List.set_cons_succ, AV.kill, AV.kill1, AO.kill, AV.lose, AV.lose1, orL_kill, AV.noRow, AV.noRow1, AO.via, reduceIte, Nat.reduceEqDiff, Nat.reduceLT, Env.up, Nat.zero_ne_one, Nat.one_ne_zero, Nat.reduceAdd, List.cons_append, List.nil_append]; rotate_left 1) | omega | (apply w_idxo; exact rfl; exact rfl; (exact .sls rfl); exact rfl) | (apply w_ldls; iterate 4 exact rfl) | apply AllOf.nil | (apply AllOf.cons; exact rfl) | (apply AAny.take; exact rfl; exact rfl; kernel_rfl; kernel_rfl) | (apply AAny.all; exact rfl) | (apply AAny.done; exact rfl) | (simp <;> omega))
          all_goals (apply Or.inl; refine ⟨lee rfl ?_, ?_, rfl, (lim_two _ _)⟩; (focus ((repeat (first | exact le_nil | refine le_eq rfl rfl ?_)); done)); (focus ((repeat (first | exact lo_nil | refine lo_eq rfl ?_)); done)))
        repeat' (first | (apply AOps.nil; try simp only [List.nil_append, List.cons_append, List.set_cons_zero, List.set_cons_succ, List.length_cons, List.length_nil, Nat.reduceAdd, AV.sh, AV.sh1, AV.sh0, AO.sh, List.map_cons, List.map_nil, Nat.zero_add, Nat.add_zero, setAll]) | (apply w_move; exact rfl; exact rfl) | (apply w_assign; exact rfl; exact rfl) | apply AWp.region | ((first | apply w_add | apply w_slhi); iterate 3 exact rfl) | (apply w_bso0 1; exact rfl; try simp only [List.nil_append, List.cons_append, List.set_cons_zero, List.set_cons_succ, List.length_cons, List.length_nil, Nat.reduceAdd, AV.sh, AV.sh1, AV.sh0, AO.sh, List.map_cons, List.map_nil, Nat.zero_add, Nat.add_zero, setAll]) | ((apply w_osrhi); iterate 4 exact rfl) | (apply w_appos; exact rfl; exact rfl; exact rfl; exact rfl; exact rfl; exact rfl; rotate_left 2; simp only [Env.mp, List.map_cons, List.map_nil, List.set_cons_zero, List.set_cons_succ, AV.kill, AV.kill1, AO.kill, AV.lose, AV.lose1, orL_kill, AV.noRow, AV.noRow1, AO.via, reduceIte, Nat.reduceEqDiff, Nat.reduceLT, Env.up, Nat.zero_ne_one, Nat.one_ne_zero, Nat.reduceAdd, List.cons_append, List.nil_append]; rotate_left 1) | (apply w_appol; exact rfl; exact rfl; exact rfl; exact rfl; exact rfl; exact rfl; rotate_left 1; simp only [Env.mp, List.map_cons, List.map_nil, List.set_cons_zero, List.set_cons_succ, AV.kill, AV.kill1, AO.kill, AV.lose, AV.lose1, orL_kill, AV.noRow, AV.noRow1, AO.via, reduceIte, Nat.reduceEqDiff, Nat.reduceLT, Env.up, Nat.zero_ne_one, Nat.one_ne_zero, Nat.reduceAdd, List.cons_append, List.nil_append]; rotate_left 1) | omega | (apply inI_of <;> omega) | (simp <;> omega))
        obtain ⟨n1, n2, n3⟩ := insQ_ok (i := i) a0 i2 i3
        refine ⟨(i + 1, insQ idx a i), ⟨by simp only; omega, by simp only; omega, n2, n3⟩, by simp only; omega, ?_⟩
        (apply Or.inr; refine ⟨[0, 1, 4], ⟨by decide, fun x hx => Nat.lt_of_lt_of_le ((by decide : ∀ x ∈ ([0, 1, 4] : List Nat), x < 5) x hx) (Nat.le_of_ble_eq_true rfl)⟩, lee rfl ?_, ?_, rfl, (lim_one _)⟩; (focus ((repeat (first | exact le_nil | refine le_eq rfl rfl ?_)); done)); (focus ((repeat (first | exact lo_nil | refine lo_eq rfl ?_ | refine lo_eq (congrArg (AO.slr _) (orL_ren _ _)) ?_)); done)))
    · repeat' (apply AWp.seq)
      refine AWp.regionQ (by kernel_rfl) (by kernel_rfl) ?_
      repeat' (first | (apply AOps.nil; try simp only [List.nil_append, List.cons_append, List.set_cons_zero, List.set_cons_succ, List.length_cons, List.length_nil, Nat.reduceAdd, AV.sh, AV.sh1, AV.sh0, AO.sh, List.map_cons, List.map_nil, Nat.zero_add, Nat.add_zero, setAll]) | ((apply AOps.splitP; exact rfl; exact rfl) <;> intro h) | (apply w_move; exact rfl; exact rfl) | apply AWp.seq | (apply AWp.condF; exact rfl) | apply AWp.exit | (apply w_skip; exact rfl) | (apply w_pickF; exact rfl; exact rfl; exact rfl) | ((first | apply w_leno | apply w_lss | apply w_idx | apply w_ld); iterate 3 exact rfl) | ((first | apply w_idxq | apply w_ldro); iterate 4 exact rfl) | omega)
      refine AWp.regionA (by kernel_rfl) (envC := ⟨48, [(0, .own 1), (3, .own 2), (4, .i i), (5, .i a), (6, .own 3)]⟩) (osC := [.keep 1 K, .sls 24 2 E, .slr 24 (orL 1 idx), .slr 24 (orL 1 ([i] ++ (idx.drop a).take (idx.length - a)))]) rfl rfl ?_ ?_
      · repeat' (first | (apply AOps.nil; try simp only [List.nil_append, List.cons_append, List.set_cons_zero, List.set_cons_succ, List.length_cons, List.length_nil, Nat.reduceAdd, AV.sh, AV.sh1, AV.sh0, AO.sh, List.map_cons, List.map_nil, Nat.zero_add, Nat.add_zero, setAll]) | (apply w_move; exact rfl; exact rfl) | (apply w_assign; exact rfl; exact rfl) | (apply w_bso1; exact rfl; exact rfl; exact rfl; try simp only [List.nil_append, List.cons_append, List.set_cons_zero, List.set_cons_succ, List.length_cons, List.length_nil, Nat.reduceAdd, AV.sh, AV.sh1, AV.sh0, AO.sh, List.map_cons, List.map_nil, Nat.zero_add, Nat.add_zero, setAll]) | ((first | apply w_idxq | apply w_ldro | apply w_osrlo); iterate 4 exact rfl) | (apply w_appos; exact rfl; exact rfl; exact rfl; exact rfl; exact rfl; exact rfl; rotate_left 2; simp only [Env.mp, List.map_cons, List.map_nil, List.set_cons_zero, List.set_cons_succ, AV.kill, AV.kill1, AO.kill, AV.lose, AV.lose1, orL_kill, AV.noRow, AV.noRow1, AO.via, reduceIte, Nat.reduceEqDiff, Nat.reduceLT, Env.up, Nat.zero_ne_one, Nat.one_ne_zero, Nat.reduceAdd, List.cons_append, List.nil_append]; rotate_left 1) | omega | (apply w_idxo; exact rfl; exact rfl; (exact .sls rfl); exact rfl) | (apply w_ldls; iterate 4 exact rfl) | apply AllOf.nil | (apply AllOf.cons; exact rfl) | (apply AAny.take; exact rfl; exact rfl; kernel_rfl; kernel_rfl) | (apply AAny.all; exact rfl) | (apply AAny.done; exact rfl) | (simp <;> omega))
        all_goals (apply Or.inl; refine ⟨lee rfl ?_, ?_, rfl, (lim_two _ _)⟩; (focus ((repeat (first | exact le_nil | refine le_eq rfl rfl ?_)); done)); (focus ((repeat (first | exact lo_nil | refine lo_eq rfl ?_)); done)))
      repeat' (first | (apply AOps.nil; try simp only [List.nil_append, List.cons_append, List.set_cons_zero, List.set_cons_succ, List.length_cons, List.length_nil, Nat.reduceAdd, AV.sh, AV.sh1, AV.sh0, AO.sh, List.map_cons, List.map_nil, Nat.zero_add, Nat.add_zero, setAll]) | (apply w_move; exact rfl; exact rfl) | (apply w_assign; exact rfl; exact rfl) | apply AWp.region | ((first | apply w_add | apply w_slhi); iterate 3 exact rfl) | (apply w_bso0 1; exact rfl; try simp only [List.nil_append, List.cons_append, List.set_cons_zero, List.set_cons_succ, List.length_cons, List.length_nil, Nat.reduceAdd, AV.sh, AV.sh1, AV.sh0, AO.sh, List.map_cons, List.map_nil, Nat.zero_add, Nat.add_zero, setAll]) | ((apply w_osrhi); iterate 4 exact rfl) | (apply w_appos; exact rfl; exact rfl; exact rfl; exact rfl; exact rfl; exact rfl; rotate_left 2; simp only [Env.mp, List.map_cons, List.map_nil, List.set_cons_zero, List.set_cons_succ, AV.kill, AV.kill1, AO.kill, AV.lose, AV.lose1, orL_kill, AV.noRow, AV.noRow1, AO.via, reduceIte, Nat.reduceEqDiff, Nat.reduceLT, Env.up, Nat.zero_ne_one, Nat.one_ne_zero, Nat.reduceAdd, List.cons_append, List.nil_append]; rotate_left 1) | (apply w_appol; exact rfl; exact rfl; exact rfl; exact rfl; exact rfl; exact rfl; rotate_left 1; simp only [Env.mp, List.map_cons, List.map_nil, List.set_cons_zero, List.set_cons_succ, AV.kill, AV.kill1, AO.kill, AV.lose, AV.lose1, orL_kill, AV.noRow, AV.noRow1, AO.via, reduceIte, Nat.reduceEqDiff, Nat.reduceLT, Env.up, Nat.zero_ne_one, Nat.one_ne_zero, Nat.reduceAdd, List.cons_append, List.nil_append]; rotate_left 1) | omega | (apply inI_of <;> omega) | (simp <;> omega))
      obtain ⟨n1, n2, n3⟩ := insQ_ok (i := i) a0 i2 i3
      refine ⟨(i + 1, insQ idx a i), ⟨by simp only; omega, by simp only; omega, n2, n3⟩, by simp only; omega, ?_⟩
      (apply Or.inr; refine ⟨[0, 1, 4], ⟨by decide, fun x hx => Nat.lt_of_lt_of_le ((by decide : ∀ x ∈ ([0, 1, 4] : List Nat), x < 5) x hx) (Nat.le_of_ble_eq_true rfl)⟩, lee rfl ?_, ?_, rfl, (lim_one _)⟩; (focus ((repeat (first | exact le_nil | refine le_eq rfl rfl ?_)); done)); (focus ((repeat (first | exact lo_nil | refine lo_eq rfl ?_ | refine lo_eq (congrArg (AO.slr _) (orL_ren _ _)) ?_)); done)))
  · obtain rfl : i = E.length := by omega
    repeat' (first | (apply AOps.nil; try simp only [List.nil_append, List.cons_append, List.set_cons_zero, List.set_cons_succ, List.length_cons, List.length_nil, Nat.reduceAdd, AV.sh, AV.sh1, AV.sh0, AO.sh, List.map_cons, List.map_nil, Nat.zero_add, Nat.add_zero, setAll]) | (apply w_move; exact rfl; exact rfl) | (apply w_assign; exact rfl; exact rfl) | apply AWp.seq | apply AWp.region | ((apply AWp.condP; exact rfl) <;> intro h) | apply AWp.block | apply AWp.ret | apply AWp.exit | apply AWp.skip | ((first | apply w_leno | apply w_lss); iterate 3 exact rfl) | (apply w_len; exact rfl; exact rfl; first | exact .ints _ | exact .intss _ | exact .sli rfl | exact .sls rfl | exact .slr rfl | exact .orow rfl | exact .nil) | omega)
    refine ⟨_, _, 2, _, Turns.merge (p := 2) (k := 1) (idx := idx) rfl rfl i2, .v1 Try.results47 rfl, rfl, ⟨by rw [List.length_map]; exact i1, fun e he => ?_⟩, rfl⟩
    obtain ⟨j, hj, rfl⟩ := List.mem_map.1 he
    have hjl := i3 j hj
    rw [List.getD_eq_getElem?_getD, List.getElem?_eq_getElem hjl]
    exact List.getElem_mem _
end Go.Proofs.Ythjkpmjdkcainaa
/-
  Draws of graphs: copies, blow-ups. Condition: small graphs.
-/
namespace Go.Proofs.Ythjkpmjdkcainaa
open Go Go.RowKit
attribute [local irreducible] AWp AOps ResIs Ret1 QOp LOp COp AFnV AFn Imms LeE LeO
set_option maxHeartbeats 1000000
set_option linter.unusedSimpArgs false
set_option linter.unusedVariables false

/-- Numbers in range. -/
def WB (B : Int) (W : List Int) : Prop := ∀ w ∈ W, -B ≤ w ∧ w ≤ B
theorem WB.get {B : Int} {W : List Int} (h : WB B W) (hB : 0 ≤ B) (i : Int) : -B ≤ geti W i ∧ geti W i ≤ B := by
  unfold geti
  rw [List.getD_eq_getElem?_getD]
  cases hx : W[i.toNat]? with
  | none => simp; omega
  | some x => exact h x (List.mem_of_getElem? hx)
theorem WB.mono {B C : Int} {W : List Int} (h : WB B W) (hc : B ≤ C) : WB C W := fun w hw => by have := h w hw; omega
theorem WB.set {B : Int} {W : List Int} (h : WB B W) {i : Nat} {x : Int} (hx : -B ≤ x ∧ x ≤ B) : WB B (W.set i x) := fun w hw => by
  rcases List.mem_or_eq_of_mem_set hw with hw | rfl
  · exact h w hw
  · exact hx
theorem WB.snoc {B : Int} {W : List Int} (h : WB B W) {x : Int} (hx : -B ≤ x ∧ x ≤ B) : WB B (W ++ [x]) := fun w hw => by
  rcases List.mem_append.1 hw with hw | hw
  · exact h w hw
  · rw [List.mem_singleton.1 hw]; exact hx
theorem WB.low {B : Int} {W : List Int} (h : WB B W) (hB : 0 ≤ B) (i : Nat) : WB (B + 1) (W.set i (geti W (i : Nat) - 1)) :=
  (h.mono (by omega)).set (by have := h.get hB (i : Nat); omega)
/-- A graph that is drawn: so many vertices and edges, weights and edges in range. -/
structure GD (n m : Nat) (B : Int) (W : List Int) (E : List (List Int)) : Prop where
  wl : W.length = n
  el : E.length ≤ m
  wb : WB B W
  er : ∀ e ∈ E, e.length = 2 ∧ (0 ≤ geti e 0 ∧ geti e 0 < n) ∧ (0 ≤ geti e 1 ∧ geti e 1 < n)
set_option maxHeartbeats 8000000 in
theorem l11Own_c (W : List Int) (E : List (List Int)) (hw : W.length ≤ 1000) (hb : E.length ≤ 1000) (hr : ∀ xs ∈ E, xs.length ≤ 1048576) :
    AFn Try.prog 55 [.agg [.ints W, .intss E]] (fun r os => r = .agg [.own 0, .own 1] ∧ os = [.sli 2 W, .sls 24 2 E]) := by
  have t1 := l01Own_c W (by omega)
  have t2 := l01Own2_c E (by omega) hr
  (refine AFn.start Try.func55 Try.ntmps55 rfl (by kernel_rfl) fun hk => ?_; simp only [Env.start, enumF, List.length_cons, List.length_nil, Nat.reduceAdd, Nat.reduceSub, List.cons_append, List.nil_append])
  repeat' (first | (apply AOps.nil; try simp only [List.nil_append, List.cons_append, List.set_cons_zero, List.set_cons_succ, List.length_cons, List.length_nil, Nat.reduceAdd, AV.sh, AV.sh1, AV.sh0, AO.sh, List.map_cons, List.map_nil, Nat.zero_add, Nat.add_zero, setAll]) | apply AWp.seq | apply AWp.region | ((apply w_boxa); iterate 2 exact rfl) | (apply w_alst; iterate 2 exact rfl))
  refine AWp.regionA (by kernel_rfl) (envC := ⟨10, [(2, .optr 0 0)]⟩) (osC := [.bx 27 [.own 1, .own 2], .sli 2 W, .sls 24 2 E]) rfl rfl ?_ ?_
  · repeat' (first | (apply AOps.nil; try simp only [List.nil_append, List.cons_append, List.set_cons_zero, List.set_cons_succ, List.length_cons, List.length_nil, Nat.reduceAdd, AV.sh, AV.sh1, AV.sh0, AO.sh, List.map_cons, List.map_nil, Nat.zero_add, Nat.add_zero, setAll]) | (apply w_callm (t1); (focus ((repeat (first | exact im_nil | refine im_cons rfl (.ints _) ?_)); done)); rintro r os0 ⟨rfl, rfl⟩; try simp only [List.nil_append, List.cons_append, List.set_cons_zero, List.set_cons_succ, List.length_cons, List.length_nil, Nat.reduceAdd, AV.sh, AV.sh1, AV.sh0, AO.sh, List.map_cons, List.map_nil, Nat.zero_add, Nat.add_zero, setAll]) | (apply w_callm (t2); (focus ((repeat (first | exact im_nil | refine im_cons rfl (.intss _) ?_)); done)); rintro r os0 ⟨rfl, rfl⟩; try simp only [List.nil_append, List.cons_append, List.set_cons_zero, List.set_cons_succ, List.length_cons, List.length_nil, Nat.reduceAdd, AV.sh, AV.sh1, AV.sh0, AO.sh, List.map_cons, List.map_nil, Nat.zero_add, Nat.add_zero, setAll]) | ((first | apply w_ld | apply w_fa); iterate 3 exact rfl) | (apply w_ldb; iterate 5 exact rfl) | (apply w_build2; exact rfl; exact rfl; exact rfl; (exact one_own rfl True.intro); (exact one_own rfl True.intro)) | (apply w_stst; iterate 5 exact rfl) | apply AllOf.nil | (apply AllOf.cons; exact rfl) | (apply AAny.take; exact rfl; exact rfl; kernel_rfl; kernel_rfl) | (apply AAny.all; exact rfl) | (apply AAny.done; exact rfl))
    all_goals first
      | (apply Or.inr; refine ⟨[1, 2, 3], ⟨by decide, fun x hx => Nat.lt_of_lt_of_le ((by decide : ∀ x ∈ ([1, 2, 3] : List Nat), x < 4) x hx) (Nat.le_of_ble_eq_true rfl)⟩, lee rfl ?_, ?_, rfl, rfl⟩; (focus ((repeat (first | exact le_nil | refine le_eq rfl rfl ?_)); done)); (focus ((repeat (first | exact lo_nil | refine lo_eq rfl ?_)); done)))
      | (apply Or.inl; refine ⟨lee rfl ?_, ?_, rfl, rfl⟩; (focus ((repeat (exact le_nil)); done)); (focus ((repeat (exact lo_nil)); done)))
  repeat' (apply AWp.ret)
  all_goals exact ⟨_, _, _, .c1 Try.results55 rfl rfl rfl, .oo rfl rfl trivial trivial (by decide), rfl, rfl⟩
theorem GD.blow {n m : Nat} {B : Int} {W : List Int} {E E' : List (List Int)} (h : GD n m B W E) {v : Int} (hv : 0 ≤ v ∧ v < n) (hB : 0 ≤ B) (hl : E'.length = (E ++ [[v, (W.length : Int)]]).length) (he : ∀ e ∈ E', e ∈ E ++ [[v, (W.length : Int)]]) :
    GD (n + 1) (m + 1) (B + 1) (W.set v.toNat (geti W (v.toNat : Nat) - 1) ++ [-1]) E' where
  wl := by simp [h.wl]
  el := by have := h.el; rw [hl]; simp; omega
  wb := (h.wb.low hB _).snoc (by omega)
  er e hm := by
    rcases List.mem_append.1 (he e hm) with hm | hm
    · have := h.er e hm; omega
    · rw [List.mem_singleton.1 hm, h.wl]
      refine ⟨rfl, ?_, ?_⟩
      · show 0 ≤ v ∧ v < (n + 1 : Nat); omega
      · show 0 ≤ (n : Int) ∧ (n : Int) < (n + 1 : Nat); omega
/-- A graph in new memory. -/
def IsG (n m : Nat) (B : Int) (T T2 : TypeId) (r : AV) (os : List AO) : Prop := ∃ W E, r = .agg [.own 0, .own 1] ∧ os = [.sli T2 W, .sls T T2 E] ∧ GD n m B W E
set_option maxHeartbeats 8000000 in
theorem l11BlowVertex_c (W : List Int) (E : List (List Int)) (n m : Nat) (B : Int) (h : GD n m B W E) (hn : n ≤ 50 ∧ m ≤ 100 ∧ 1 ≤ B ∧ B ≤ 3000) (v : Int) (hv : 0 ≤ v ∧ v < n) :
    AFn Try.prog 46 [.agg [.ints W, .intss E], .i v] (IsG (n + 1) (m + 1) (B + 1) 24 2) := by
  have hwl := h.wl
  have hel := h.el
  have ho := l11Own_c W E (by omega) (by omega) (fun e he => by have := (h.er e he).1; omega)
  have hb := h.wb.get (by omega) (v.toNat : Nat)
  have hs := l11Sorted_c (E ++ [[v, (W.length : Int)]]) (by simp; omega) (fun e he => by
    rcases List.mem_append.1 he with he | he
    · exact (h.er e he).1
    · rw [List.mem_singleton.1 he]; rfl)
  (refine AFn.start Try.func46 Try.ntmps46 rfl (by kernel_rfl) fun hk => ?_; simp only [Env.start, enumF, List.length_cons, List.length_nil, Nat.reduceAdd, Nat.reduceSub, List.cons_append, List.nil_append])
  repeat' (first | (apply AOps.nil; try simp only [List.nil_append, List.cons_append, List.set_cons_zero, List.set_cons_succ, List.length_cons, List.length_nil, Nat.reduceAdd, AV.sh, AV.sh1, AV.sh0, AO.sh, List.map_cons, List.map_nil, Nat.zero_add, Nat.add_zero, setAll]) | (apply w_move; exact rfl; exact rfl) | (apply w_assign; exact rfl; exact rfl) | apply AWp.seq | apply AWp.region | apply AWp.ret | (apply w_len; exact rfl; exact rfl; first | exact .ints _ | exact .intss _ | exact .sli rfl | exact .sls rfl | exact .slr rfl | exact .orow rfl | exact .nil) | ((first | apply w_bsr1 | apply w_sub | apply w_idx | apply w_ld | apply w_fa | apply w_bs2); iterate 3 exact rfl) | (apply w_appr; exact rfl; exact rfl; exact rfl; exact rfl; exact rfl; exact rfl; exact rfl; rotate_left 1; simp only [Env.mp, List.map_cons, List.map_nil, List.set_cons_zero, List.set_cons_succ, AV.kill, AV.kill1, AO.kill, AV.rin, AV.rin1, AV.noRow, AV.noRow1, AO.via, reduceIte, Nat.reduceEqDiff, Nat.reduceLT, Env.up, Nat.zero_ne_one, Nat.one_ne_zero, Nat.reduceAdd, List.cons_append, List.nil_append]; rotate_left 1) | (apply w_callm (ho); (focus ((repeat (first | exact im_nil | refine im_cons rfl (im_agg2 (.ints _) (.intss _)) ?_)); done)); rintro r os0 ⟨rfl, rfl⟩; try simp only [List.nil_append, List.cons_append, List.set_cons_zero, List.set_cons_succ, List.length_cons, List.length_nil, Nat.reduceAdd, AV.sh, AV.sh1, AV.sh0, AO.sh, List.map_cons, List.map_nil, Nat.zero_add, Nat.add_zero, setAll]) | (apply w_callt 3 (hs); exact rfl; exact rfl; (focus ((repeat (first | exact imu_nil | refine imu_cons rfl (.own rfl) ?_)); done)); rintro xss0 ⟨hl, he⟩; simp only [Env.mp, List.map_cons, List.map_nil, List.set_cons_zero, List.set_cons_succ, AV.kill, AV.kill1, AO.kill, AV.lose, AV.lose1, List.map_append, map_orow_kill, AV.noRow, AV.noRow1, AO.via, reduceIte, Nat.reduceEqDiff, Nat.reduceLT, Env.up, Nat.zero_ne_one, Nat.one_ne_zero, Nat.reduceAdd, List.cons_append, List.nil_append]) | omega | ((first | apply w_bs1 | apply w_boxa); iterate 2 exact rfl) | (apply w_idxo; exact rfl; exact rfl; (exact .sli rfl); exact rfl) | (apply w_ldo; iterate 4 exact rfl) | (apply w_ldb; iterate 5 exact rfl) | (apply w_ldst; iterate 5 exact rfl) | (apply w_app; exact rfl; exact rfl; exact rfl; exact rfl; (exact .sli rfl); rotate_left 1; simp only [Env.mp, List.map_cons, List.map_nil, List.set_cons_zero, List.set_cons_succ, AV.kill, AV.kill1, AO.kill, AV.noRow, AV.noRow1, AO.via, reduceIte, Nat.reduceEqDiff, Nat.reduceLT, Env.up, Nat.zero_ne_one, Nat.one_ne_zero, Nat.reduceAdd, List.cons_append, List.nil_append]; rotate_left 1) | (apply w_alst; iterate 2 exact rfl) | (apply w_sti; exact rfl; exact rfl; rotate_left 1; exact rfl; rotate_left 2) | (apply w_stst; iterate 5 exact rfl) | (apply w_stbo; exact rfl; exact rfl; exact rfl; exact rfl; exact rfl; exact True.intro) | (apply inI_of <;> omega) | (simp <;> omega))
  refine ⟨_, _, _, .c1 Try.results46 rfl rfl rfl, .oo (i := 2) (j := 3) rfl rfl trivial trivial (by decide), _, _, rfl, rfl, ?_⟩
  exact h.blow hv (by omega) hl he
end Go.Proofs.Ythjkpmjdkcainaa
/-
  A struct of two fields of which one is given; states with less in them; a tail shown once. No condition.
-/
namespace Go.Proofs.Ythjkpmjdkcainaa
open Go Go.RowKit
set_option linter.unusedVariables false
section
variable {P : Program} {env : Env} {os : List AO} {d : Option Tmp} {ty : TypeId} {pos : String} {af : Array Edge} {g : Option (Nat × Bool)} {wl : Bool}
theorem q_build21 {t : TypeId} {z1 z : Value} [ht : TBuild P t 2 [z1, z]] {x1 : Operand} {a1 : AV} (h1 : AV.ev env x1 = a1)
    (o1 : OneC env os a1) (hz : z.oneCell' = true) :
    QOp P wl ⟨d, .build t #[(0, x1)], ty, pos, af, g⟩ env os (.agg [a1, .val z]) :=
  .of_run fun _ w gs tm hr => by
    have v1 := hr.ev x1
    rw [h1] at v1
    obtain ⟨p1, c1⟩ := o1 _ _ _ _ hr _ v1
    refine ⟨.agg [Act.eval ⟨tm, []⟩ x1, z].toArray, .agg rfl (by simp; exact ⟨p1, hz⟩) (rv_list rfl fun i hi => ?_), fun w' _ => ?_⟩
    · match i, hi with
      | 0, _ => exact v1
      | 1, _ => exact .val _
    · have hb : P.built t (#[(0, Act.eval ⟨tm, []⟩ x1)] : Array (Nat × Value)).toList = some #[Act.eval ⟨tm, []⟩ x1, z] := by
        rcases ht.bl with e | e <;> rw [e] <;> simp [Instr.fill, c1, List.range_succ]
      simp [execOp, run_build (P := P) w' t _ _ hb]
end
section
variable {P : Program} {env : Env} {os : List AO} {d : Tmp} {ty : TypeId} {pos : String} {af : Array Edge} {g : Option (Nat × Bool)} {l rest : List Oper} {K : APost} {q : Md}
theorem w_build21 {t : TypeId} {z1 z : Value} [TBuild P t 2 [z1, z]] {x1 : Operand} {a1 : AV} (hw : wantedA l env ⟨some d, .build t #[(0, x1)], ty, pos, af, g⟩ = some true) (h1 : evo env x1 = some a1)
    (hz : z.oneCell' = true) (o1 : OneC env os a1)
    (h' : AOps P q l rest K (env.up d (.agg [a1, .val z])) os) : AOps P q l (⟨some d, .build t #[(0, x1)], ty, pos, af, g⟩ :: rest) K env os :=
  AOps.qo hw (q_build21 (ev_of h1) o1 hz) h'
end
theorem one_osub {env : Env} {os : List AO} {h off len : Nat} : ∀ base w gs tm, Rel base w gs env os tm → ∀ u, RV w (okOf gs os) gs u (.osub h off len) → u.oneCell' = true ∧ u.cells = #[u] := by
  intro base w gs tm hr u hu
  cases hu with
  | osub hg _ _ _ => exact ⟨rfl, rfl⟩
section
variable {P : Program} {env : Env} {os : List AO} {ty : TypeId} {pos : String} {af : Array Edge} {g : Option (Nat × Bool)} {l rest : List Oper} {K : APost}
theorem w_stbu {t : TypeId} [TCell P t] {x y : Operand} {h i k a n : Nat} {T : TypeId} {avs : List AV} {a0 : AV} (hx : evo env x = some (.optr h i)) (hs : os[h]? = some (.bx T avs)) (hi : avs[i]? = some a0) (hy : evo env y = some (.osub k a n))
    (h' : AOps P .seq l rest K env (os.set h (.bx T (avs.set i (.osub k a n))))) : AOps P .seq l (⟨none, .store t x y, ty, pos, af, none⟩ :: rest) K env os :=
  AOps.so (l_store_bx (ev_of hx) hs (lt_of_get hi) (ev_of hy) one_osub) h'
end
theorem AWp.cut {P : Program} {c : Code} {N : APost} {X : Nat → APost} {Rt : APost} {env env' : Env} {os os' : List AO} (f : Fit env os env' os' ∨ ∃ σ, FitS σ env os env' os') (h : AWp P c N X Rt env' os') : AWp P c N X Rt env os := by
  intro base w0 w gs tm hr hb
  rcases f with f | ⟨σ, f⟩
  · obtain ⟨gs2, r2⟩ := hr.fit f
    exact h base w0 w gs2 tm r2 hb
  · obtain ⟨gs2, r2⟩ := hr.fits f
    exact h base w0 w gs2 tm r2 hb
theorem AOps.cut {P : Program} {l rest : List Oper} {K : APost} {env env' : Env} {os os' : List AO} (f : Fit env os env' os' ∨ ∃ σ, FitS σ env os env' os') (h : AOps P .seq l rest K env' os') : AOps P .seq l rest K env os := by
  intro base w0 w gs tm hr hb X Rt
  rcases f with f | ⟨σ, f⟩
  · obtain ⟨gs2, r2⟩ := hr.fit f
    exact h base w0 w gs2 tm r2 hb X Rt
  · obtain ⟨gs2, r2⟩ := hr.fits f
    exact h base w0 w gs2 tm r2 hb X Rt
/-- What is still to be shown, once for several places. -/
structure Tail (p : Prop) : Prop where
  h : p
theorem Tail.use {p q : Prop} (h : Tail p → q) (t : p) : q := h ⟨t⟩
end Go.Proofs.Ythjkpmjdkcainaa
/-
  An edge of a graph blown up. Condition: small graphs.
-/
namespace Go.Proofs.Ythjkpmjdkcainaa
open Go Go.RowKit
attribute [local irreducible] AWp AOps ResIs Ret1 QOp LOp COp AFnV AFn Imms LeE LeO
set_option maxHeartbeats 1000000
set_option linter.unusedSimpArgs false
set_option linter.unusedVariables false

theorem GD.blow2 {n m : Nat} {B : Int} {W X : List Int} {E R E' : List (List Int)} (h : GD n m B W E) {v u : Int} (hv : 0 ≤ v ∧ v < n) (hu : 0 ≤ u ∧ u < n) (hX : X.length = n + 1) (c : WB (B + 1 + 1) X) (r1 : R.length ≤ E.length) (r2 : ∀ e ∈ R, e ∈ E)
    (hl : E'.length = (R ++ [[v, (W.length : Int)], [u, (W.length : Int)]]).length) (he : ∀ e ∈ E', e ∈ R ++ [[v, (W.length : Int)], [u, (W.length : Int)]]) : GD (n + 1) (m + 2) (B + 2) X E' where
  wl := hX
  el := by have := h.el; rw [hl]; simp; omega
  wb := c.mono (by omega)
  er e hm := by
    have hn : 0 ≤ (n : Int) ∧ (n : Int) < (n + 1 : Nat) := by omega
    rcases List.mem_append.1 (he e hm) with hm | hm
    · have := h.er e (r2 e hm); omega
    · rw [h.wl] at hm
      simp at hm
      rcases hm with rfl | rfl
      · refine ⟨rfl, ?_, hn⟩
        show 0 ≤ v ∧ v < (n + 1 : Nat); omega
      · refine ⟨rfl, ?_, hn⟩
        show 0 ≤ u ∧ u < (n + 1 : Nat); omega
set_option maxHeartbeats 8000000 in
theorem l11BlowEdge_c (W : List Int) (E : List (List Int)) (n m : Nat) (B : Int) (hG : GD n m B W E) (hn : n ≤ 50 ∧ m ≤ 100 ∧ 1 ≤ B ∧ B ≤ 3000) (v u : Int) (hv : 0 ≤ v ∧ v < n) (hu : 0 ≤ u ∧ u < n) :
    AFn Try.prog 45 [.agg [.ints W, .intss E], .i v, .i u] (IsG (n + 1) (m + 2) (B + 2) 24 2) := by
  have hwl := hG.wl
  have hel := hG.el
  have ho := l01Own_c W (by omega)
  have c1 : WB B (W ++ [-1]) := hG.wb.snoc (by omega)
  have c2 := c1.low (by omega) v.toNat
  have c3 := c2.low (by omega) u.toNat
  have hb := c1.get (by omega) (v.toNat : Nat)
  have hb2 := c2.get (by omega) (u.toNat : Nat)
  have hXl : (((W ++ [-1]).set v.toNat (geti (W ++ [-1]) (v.toNat : Nat) - 1)).set u.toNat (geti ((W ++ [-1]).set v.toNat (geti (W ++ [-1]) (v.toNat : Nat) - 1)) (u.toNat : Nat) - 1)).length = n + 1 := by simp [hwl]
  (refine AFn.start Try.func45 Try.ntmps45 rfl (by kernel_rfl) fun hk => ?_; simp only [Env.start, enumF, List.length_cons, List.length_nil, Nat.reduceAdd, Nat.reduceSub, List.cons_append, List.nil_append])
  repeat' (first | (apply AOps.nil; try simp only [List.nil_append, List.cons_append, List.set_cons_zero, List.set_cons_succ, List.length_cons, List.length_nil, Nat.reduceAdd, AV.sh, AV.sh1, AV.sh0, AO.sh, List.map_cons, List.map_nil, Nat.zero_add, Nat.add_zero, setAll]) | (apply w_move; exact rfl; exact rfl) | (apply w_assign; exact rfl; exact rfl) | apply AWp.seq | apply AWp.region | apply AWp.block | (apply w_len; exact rfl; exact rfl; first | exact .ints _ | exact .intss _ | exact .sli rfl | exact .sls rfl | exact .slr rfl | exact .orow rfl | exact .nil) | ((first | apply w_sub | apply w_idx | apply w_ld | apply w_fa); iterate 3 exact rfl) | (apply w_build21; exact rfl; exact rfl; exact rfl; (exact one_own rfl True.intro)) | (apply w_callm (ho); (focus ((repeat (first | exact im_nil | refine im_cons rfl (.ints _) ?_)); done)); rintro r os0 ⟨rfl, rfl⟩; try simp only [List.nil_append, List.cons_append, List.set_cons_zero, List.set_cons_succ, List.length_cons, List.length_nil, Nat.reduceAdd, AV.sh, AV.sh1, AV.sh0, AO.sh, List.map_cons, List.map_nil, Nat.zero_add, Nat.add_zero, setAll]) | omega | ((first | apply w_bs1 | apply w_boxa); iterate 2 exact rfl) | (apply w_idxo; exact rfl; exact rfl; (exact .sli rfl); exact rfl) | (apply w_ldo; iterate 4 exact rfl) | (apply w_ldb; iterate 5 exact rfl) | (apply w_app; exact rfl; exact rfl; exact rfl; exact rfl; (exact .sli rfl); rotate_left 1; simp only [Env.mp, List.map_cons, List.map_nil, List.set_cons_zero, List.set_cons_succ, AV.kill, AV.kill1, AO.kill, AV.noRow, AV.noRow1, AO.via, reduceIte, Nat.reduceEqDiff, Nat.reduceLT, Env.up, Nat.zero_ne_one, Nat.one_ne_zero, Nat.reduceAdd, List.cons_append, List.nil_append]; rotate_left 1) | (apply w_alst; iterate 2 exact rfl) | (apply w_sti; exact rfl; exact rfl; rotate_left 1; exact rfl; rotate_left 2) | (apply w_stst; iterate 5 exact rfl) | (apply inI_of <;> omega) | (simp <;> omega))
  generalize (((W ++ [-1]).set v.toNat (geti (W ++ [-1]) (v.toNat : Nat) - 1)).set u.toNat (geti ((W ++ [-1]).set v.toNat (geti (W ++ [-1]) (v.toNat : Nat) - 1)) (u.toNat : Nat) - 1)) = X at *
  refine AWp.turns (Turns.nilF (k := 4) (i := 1) 24 2 rfl rfl) ?_
  refine AWp.cut (env' := ⟨78, [(1, .i v), (2, .i u), (3, .optr 0 0), (6, .optr 1 0), (7, .i W.length), (8, .optr 3 0), (9, .i 0)]⟩) (os' := [.bx 27 [.ints W, .intss E], .bx 27 [.val (.slice none 0 0), .val (.slice none 0 0)], .sli 2 X, .bx 27 [.own 2, .own 4], .sls 24 2 []]) ?_ ?_
  · (apply Or.inr; refine ⟨[0, 1, 2, 4, 5], ⟨by decide, fun x hx => Nat.lt_of_lt_of_le ((by decide : ∀ x ∈ ([0, 1, 2, 4, 5] : List Nat), x < 6) x hx) (Nat.le_of_ble_eq_true rfl)⟩, lee rfl ?_, ?_, rfl, rfl⟩; (focus ((repeat (first | exact le_nil | refine le_eq rfl rfl ?_)); done)); (focus ((repeat (first | exact lo_nil | refine lo_eq rfl ?_)); done)))
  refine AWp.loopS (ι := Nat × List (List Int)) (fun s => ⟨78, [(1, .i v), (2, .i u), (3, .optr 0 0), (6, .optr 1 0), (7, .i W.length), (8, .optr 3 0), (9, .i s.1)]⟩) (fun s => [.bx 27 [.ints W, .intss E], .bx 27 [.val (.slice none 0 0), .val (.slice none 0 0)], .sli 2 X, .bx 27 [.own 2, .own 4], .sls 24 2 s.2]) (fun s => s.1 ≤ E.length ∧ s.2.length ≤ s.1 ∧ ∀ e ∈ s.2, e ∈ E) (fun s => E.length - s.1) (0, []) ⟨Nat.zero_le _, Nat.le_refl _, fun e he => by cases he⟩ ⟨lee rfl (by (repeat (first | exact le_nil | refine le_eq rfl rfl ?_))), by (repeat (first | exact lo_nil | refine lo_eq rfl ?_)), rfl, rfl⟩ ?_
  rintro ⟨i, R⟩ ⟨i0, i1, i2⟩
  simp only at i0 i1 i2
  by_cases hi : i < E.length
  · have hm := gets_mem (xss := E) (i := (i : Nat)) (by omega) (by omega)
    have he2 := (hG.er _ hm).1
    have hsame := l01Same_c (gets E (i : Nat)) [min v u, max v u]
    have hrow := l01Own_c (gets E (i : Nat)) (by omega)
    by_cases hc : gets E (i : Nat) = [min v u, max v u]
    · rw [decide_eq_true hc] at hsame
      repeat' (first | (apply AOps.nil; try simp only [List.nil_append, List.cons_append, List.set_cons_zero, List.set_cons_succ, List.length_cons, List.length_nil, Nat.reduceAdd, AV.sh, AV.sh1, AV.sh0, AO.sh, List.map_cons, List.map_nil, Nat.zero_add, Nat.add_zero, setAll]) | (apply w_move; exact rfl; exact rfl) | (apply w_assign; exact rfl; exact rfl) | apply AWp.seq | apply AWp.region | ((apply AWp.condP; exact rfl) <;> intro h) | (apply AWp.condF; exact rfl) | apply AWp.block | apply AWp.exit | apply AWp.skip | (apply w_len; exact rfl; exact rfl; first | exact .ints _ | exact .intss _ | exact .sli rfl | exact .sls rfl | exact .slr rfl | exact .orow rfl | exact .nil) | (apply w_call (hsame); exact rfl; exact rfl; focus ((repeat (first | exact im_nil | refine im_cons rfl (.ints _) ?_ | refine im_cons rfl (.sli rfl) ?_)); done)) | omega | ((first | apply w_lss | apply w_add | apply w_idx | apply w_ld | apply w_fa | apply w_min | apply w_max | apply w_bs2); iterate 3 exact rfl) | ((first | apply w_idxs | apply w_lds); iterate 3 exact rfl) | ((apply w_not); iterate 2 exact rfl) | (apply w_ldb; iterate 5 exact rfl) | (apply inI_of <;> omega))
      refine ⟨(i + 1, R), ⟨by simp only; omega, by simp only; omega, i2⟩, by simp only; omega, ?_⟩
      (apply Or.inl; refine ⟨lee rfl ?_, ?_, rfl, rfl⟩; (focus ((repeat (first | exact le_nil | refine le_eq rfl rfl ?_)); done)); (focus ((repeat (first | exact lo_nil | refine lo_eq rfl ?_)); done)))
    · rw [decide_eq_false hc] at hsame
      repeat' (first | (apply AOps.nil; try simp only [List.nil_append, List.cons_append, List.set_cons_zero, List.set_cons_succ, List.length_cons, List.length_nil, Nat.reduceAdd, AV.sh, AV.sh1, AV.sh0, AO.sh, List.map_cons, List.map_nil, Nat.zero_add, Nat.add_zero, setAll]) | (apply w_move; exact rfl; exact rfl) | apply AWp.seq | apply AWp.region | ((apply AWp.condP; exact rfl) <;> intro h) | (apply AWp.condT; exact rfl) | apply AWp.block | apply AWp.exit | apply AWp.skip | (apply w_len; exact rfl; exact rfl; first | exact .ints _ | exact .intss _ | exact .sli rfl | exact .sls rfl | exact .slr rfl | exact .orow rfl | exact .nil) | (apply w_call (hsame); exact rfl; exact rfl; focus ((repeat (first | exact im_nil | refine im_cons rfl (.ints _) ?_ | refine im_cons rfl (.sli rfl) ?_)); done)) | omega | ((first | apply w_lss | apply w_idx | apply w_ld | apply w_fa | apply w_min | apply w_max | apply w_bs2); iterate 3 exact rfl) | ((first | apply w_idxs | apply w_lds); iterate 3 exact rfl) | ((apply w_not); iterate 2 exact rfl) | (apply w_ldb; iterate 5 exact rfl) | (apply inI_of <;> omega))
      refine AWp.regionA (by kernel_rfl) (envC := ⟨78, [(1, .i v), (2, .i u), (3, .optr 0 0), (6, .optr 1 0), (7, .i W.length), (8, .optr 3 0), (9, .i i)]⟩) (osC := [.bx 27 [.ints W, .intss E], .bx 27 [.val (.slice none 0 0), .val (.slice none 0 0)], .sli 2 X, .bx 27 [.own 2, .own 4], .sls 24 2 (R ++ [gets E (i : Nat)])]) rfl rfl ?_ ?_
      · repeat' (first | (apply AOps.nil; try simp only [List.nil_append, List.cons_append, List.set_cons_zero, List.set_cons_succ, List.length_cons, List.length_nil, Nat.reduceAdd, AV.sh, AV.sh1, AV.sh0, AO.sh, List.map_cons, List.map_nil, Nat.zero_add, Nat.add_zero, setAll]) | (apply w_move; exact rfl; exact rfl) | ((first | apply w_bsr1 | apply w_idx | apply w_ld | apply w_fa); iterate 3 exact rfl) | (apply w_appr; exact rfl; exact rfl; exact rfl; exact rfl; exact rfl; exact rfl; exact rfl; rotate_left 1; simp only [Env.mp, List.map_cons, List.map_nil, List.set_cons_zero, List.set_cons_succ, AV.kill, AV.kill1, AO.kill, AV.rin, AV.rin1, AV.noRow, AV.noRow1, AO.via, reduceIte, Nat.reduceEqDiff, Nat.reduceLT, Env.up, Nat.zero_ne_one, Nat.one_ne_zero, Nat.reduceAdd, List.cons_append, List.nil_append]; rotate_left 1) | (apply w_callm (hrow); (focus ((repeat (first | exact im_nil | refine im_cons rfl (.ints _) ?_)); done)); rintro r os0 ⟨rfl, rfl⟩; try simp only [List.nil_append, List.cons_append, List.set_cons_zero, List.set_cons_succ, List.length_cons, List.length_nil, Nat.reduceAdd, AV.sh, AV.sh1, AV.sh0, AO.sh, List.map_cons, List.map_nil, Nat.zero_add, Nat.add_zero, setAll]) | omega | ((first | apply w_idxs | apply w_lds); iterate 3 exact rfl) | (apply w_ldb; iterate 5 exact rfl) | (apply w_stbo; exact rfl; exact rfl; exact rfl; exact rfl; exact rfl; exact True.intro) | apply AllOf.nil | (apply AllOf.cons; exact rfl) | (apply AAny.take; exact rfl; exact rfl; kernel_rfl; kernel_rfl) | (apply AAny.all; exact rfl) | (apply AAny.done; exact rfl))
        all_goals (apply Or.inl; refine ⟨lee rfl ?_, ?_, rfl, rfl⟩; (focus ((repeat (first | exact le_nil | refine le_eq rfl rfl ?_)); done)); (focus ((repeat (first | exact lo_nil | refine lo_eq rfl ?_)); done)))
      repeat' (first | (apply AOps.nil; try simp only [List.nil_append, List.cons_append, List.set_cons_zero, List.set_cons_succ, List.length_cons, List.length_nil, Nat.reduceAdd, AV.sh, AV.sh1, AV.sh0, AO.sh, List.map_cons, List.map_nil, Nat.zero_add, Nat.add_zero, setAll]) | (apply w_move; exact rfl; exact rfl) | (apply w_assign; exact rfl; exact rfl) | apply AWp.region | ((apply w_add); iterate 3 exact rfl) | (apply inI_of <;> omega))
      refine ⟨(i + 1, R ++ [gets E (i : Nat)]), ⟨by simp only; omega, by simp only [List.length_append, List.length_singleton]; omega, fun e he => by
        rcases List.mem_append.1 he with he | he
        · exact i2 e he
        · rw [List.mem_singleton.1 he]; exact hm⟩, by simp only; omega, ?_⟩
      (apply Or.inl; refine ⟨lee rfl ?_, ?_, rfl, rfl⟩; (focus ((repeat (first | exact le_nil | refine le_eq rfl rfl ?_)); done)); (focus ((repeat (first | exact lo_nil | refine lo_eq rfl ?_)); done)))
  · obtain rfl : i = E.length := by omega
    have hs := l11Sorted_c (R ++ [[v, (W.length : Int)], [u, (W.length : Int)]]) (by simp; omega) (fun e he => by
      rcases List.mem_append.1 he with he | he
      · exact (hG.er e (i2 e he)).1
      · simp at he; rcases he with rfl | rfl <;> rfl)
    repeat' (first | (apply AOps.nil; try simp only [List.nil_append, List.cons_append, List.set_cons_zero, List.set_cons_succ, List.length_cons, List.length_nil, Nat.reduceAdd, AV.sh, AV.sh1, AV.sh0, AO.sh, List.map_cons, List.map_nil, Nat.zero_add, Nat.add_zero, setAll]) | (apply w_move; exact rfl; exact rfl) | apply AWp.seq | apply AWp.region | ((apply AWp.condP; exact rfl) <;> intro h) | apply AWp.block | apply AWp.ret | apply AWp.exit | apply AWp.skip | (apply w_len; exact rfl; exact rfl; first | exact .ints _ | exact .intss _ | exact .sli rfl | exact .sls rfl | exact .slr rfl | exact .orow rfl | exact .nil) | (apply w_bsr2s; exact rfl; exact rfl; exact rfl; exact rfl; exact rfl; exact rfl; exact rfl; exact rfl; simp only [Env.mp, List.map_cons, List.map_nil, List.set_cons_zero, List.set_cons_succ, AV.kill, AV.kill1, AO.kill, AV.lose, AV.lose1, List.map_append, map_orow_kill, AV.noRow, AV.noRow1, AO.via, reduceIte, Nat.reduceEqDiff, Nat.reduceLT, Env.up, Nat.zero_ne_one, Nat.one_ne_zero, Nat.reduceAdd, List.cons_append, List.nil_append]) | (apply w_apprs; exact rfl; exact rfl; exact rfl; exact rfl; exact rfl; exact rfl; rotate_left 1; simp only [Env.mp, List.map_cons, List.map_nil, List.set_cons_zero, List.set_cons_succ, AV.kill, AV.kill1, AO.kill, AV.lose, AV.lose1, List.map_append, map_orow_kill, AV.noRow, AV.noRow1, AO.via, reduceIte, Nat.reduceEqDiff, Nat.reduceLT, Env.up, Nat.zero_ne_one, Nat.one_ne_zero, Nat.reduceAdd, List.cons_append, List.nil_append]; rotate_left 1) | (apply w_callt 4 (hs); exact rfl; exact rfl; (focus ((repeat (first | exact imu_nil | refine imu_cons rfl (.own rfl) ?_)); done)); rintro xss0 ⟨hl, he⟩; simp only [Env.mp, List.map_cons, List.map_nil, List.set_cons_zero, List.set_cons_succ, AV.kill, AV.kill1, AO.kill, AV.lose, AV.lose1, List.map_append, map_orow_kill, AV.noRow, AV.noRow1, AO.via, reduceIte, Nat.reduceEqDiff, Nat.reduceLT, Env.up, Nat.zero_ne_one, Nat.one_ne_zero, Nat.reduceAdd, List.cons_append, List.nil_append]) | omega | ((first | apply w_lss | apply w_ld | apply w_fa | apply w_bs2); iterate 3 exact rfl) | (apply w_ldb; iterate 5 exact rfl) | (apply w_ldst; iterate 5 exact rfl) | (apply w_stst; iterate 5 exact rfl) | (apply w_stbo; exact rfl; exact rfl; exact rfl; exact rfl; exact rfl; exact True.intro) | (apply inI_of <;> omega) | (simp <;> omega))
    refine ⟨_, _, _, .c1 Try.results45 rfl rfl rfl, .oo (i := 2) (j := 4) rfl rfl trivial trivial (by decide), _, _, rfl, rfl, ?_⟩
    exact hG.blow2 hv hu hXl c3 (R := R) i1 i2 hl he
end Go.Proofs.Ythjkpmjdkcainaa
/-
  Draws of graphs. Condition: not too many bytes.
-/
namespace Go.Proofs.Ythjkpmjdkcainaa
open Go Go.RowKit
attribute [local irreducible] AWp AOps ResIs Ret1 QOp LOp COp AFnV AFn Imms LeE LeO
set_option maxHeartbeats 1000000
set_option linter.unusedSimpArgs false
set_option linter.unusedVariables false

/-- A graph of at most so many vertices. -/
def IsGd (n : Nat) (B : Int) (T T2 : TypeId) (r : AV) (os : List AO) : Prop := ∃ W E k, r = .agg [.own 0, .own 1] ∧ os = [.sli T2 W, .sls T T2 E] ∧ GD k (2 * k) B W E ∧ 1 ≤ k ∧ k ≤ n
theorem GD.grow1 {n m : Nat} {B : Int} {W : List Int} {E : List (List Int)} (h : GD n m (4 + B) W E) {b : Int} (hb : 0 ≤ b ∧ b < 4) (hB : 0 ≤ B) : GD (n + 1) m (4 + B) (W ++ [-1 - b]) E where
  wl := by simp [h.wl]
  el := h.el
  wb := h.wb.snoc (by omega)
  er e he := by have := h.er e he; omega
theorem GD.grow2 {n m : Nat} {B : Int} {W : List Int} {E E' : List (List Int)} (h : GD n m (4 + B) W E) {v b : Int} (hv : 0 ≤ v ∧ v < n) (hb : 0 ≤ b ∧ b < 4) (hB : 0 ≤ B) (hl : E'.length = (E ++ [[v, (W.length : Int)]]).length) (he : ∀ e ∈ E', e ∈ E ++ [[v, (W.length : Int)]]) :
    GD (n + 1) (m + 1) (4 + B) (W ++ [-1 - b]) E' where
  wl := by simp [h.wl]
  el := by have := h.el; rw [hl]; simp; omega
  wb := (h.grow1 hb hB).wb
  er e hm := by
    rcases List.mem_append.1 (he e hm) with hm | hm
    · have := h.er e hm; omega
    · rw [List.mem_singleton.1 hm, h.wl]
      refine ⟨rfl, ?_, ?_⟩
      · show 0 ≤ v ∧ v < (n + 1 : Nat); omega
      · show 0 ≤ (n : Int) ∧ (n : Int) < (n + 1 : Nat); omega
set_option maxHeartbeats 16000000 in
theorem l11Draw_c (bs : List Int) (hl : bs.length ≤ 1048576) (hbs : ∀ i, 0 ≤ geti bs i ∧ geti bs i ≤ 255) (most : Int) (hm : 0 ≤ most ∧ most ≤ 40) :
    AFnZ Try.prog 30 64 bs [.int .i64 most] (IsGd 40 1000 24 2) := by
  have hn : ∀ z : Int, z ≤ 1000 → AFnS Try.prog 20 64 bs [.int .i64 z] (Nx z) := fun z hz => l01Next_c bs hl hbs z (by omega)
  have h3 := hn 3 (by omega)
  have hmo := hn most (by omega)
  (refine AFnZ.start Try.func30 Try.ntmps30 rfl (by kernel_rfl) fun K vC => ?_; simp only [Env.start, enumF, List.map_cons, List.map_nil, List.length_cons, List.length_nil, Nat.reduceAdd, Nat.reduceSub, Nat.zero_add, List.cons_append, List.nil_append])
  repeat' (first | (apply AOps.nil; try simp only [List.nil_append, List.cons_append, List.set_cons_zero, List.set_cons_succ, List.length_cons, List.length_nil, Nat.reduceAdd, AV.sh, AV.sh1, AV.sh0, AO.sh, List.map_cons, List.map_nil, Nat.zero_add, Nat.add_zero, setAll]) | (apply w_move; exact rfl; exact rfl) | (apply w_assign; exact rfl; exact rfl) | apply AWp.seq | apply AWp.region | apply AWp.block | (apply w_build21; exact rfl; exact rfl; exact rfl; (exact one_own rfl True.intro)) | ((apply w_bs1); iterate 2 exact rfl) | (apply w_callso (h3); exact rfl; exact rfl; exact rfl; exact rfl; (exact rdB_ro _ _); (rintro _ ⟨x, rfl, hx⟩)) | (apply w_callso (hmo); exact rfl; exact rfl; exact rfl; exact rfl; (exact rdB_ro _ _); (rintro _ ⟨x, rfl, hx⟩)) | ((apply w_sub); iterate 3 exact rfl) | (apply w_alst; iterate 2 exact rfl) | (apply w_stst; iterate 5 exact rfl) | (apply inI_of <;> omega))
  refine AWp.turns (Turns.nilF (k := 4) (i := 1) 24 2 rfl rfl) ?_
  rename_i a ha y hy
  refine AWp.cut (env' := ⟨107, [(0, .optr 1 0), (1, .i most), (4, .optr 2 0), (5, .optr 4 0), (6, .i y), (7, .i x)]⟩) (os' := [.keep 2 K, skO 64 bs (.ro (roB vC bs)), .bx 27 [.val (.slice none 0 0), .val (.slice none 0 0)], .sli 2 [-1 - a], .bx 27 [.own 3, .own 5], .sls 24 2 []]) ?_ ?_
  · (apply Or.inl; refine ⟨lee rfl ?_, ?_, rfl, rfl⟩; (focus ((repeat (first | exact le_nil | refine le_eq rfl rfl ?_)); done)); (focus ((repeat (first | exact lo_nil | refine lo_eq rfl ?_)); done)))
  refine AWp.loopS (ι := Int × List Int × List (List Int)) (fun s => ⟨107, [(0, .optr 1 0), (1, .i most), (4, .optr 2 0), (5, .optr 4 0), (6, .i y), (7, .i s.1)]⟩) (fun s => [.keep 2 K, skO 64 bs (.ro (roB vC bs)), .bx 27 [.val (.slice none 0 0), .val (.slice none 0 0)], .sli 2 s.2.1, .bx 27 [.own 3, .own 5], .sls 24 2 s.2.2]) (fun s => 0 ≤ s.1 ∧ 1 ≤ s.2.1.length ∧ s.1 + s.2.1.length ≤ 40 ∧ GD s.2.1.length (2 * s.2.1.length) (4 + 2 * s.2.1.length) s.2.1 s.2.2) (fun s => s.1.toNat) (x, [-1 - a], []) ⟨by simp only; omega, by simp, by simp; omega, ?_⟩ ⟨lee rfl (by (repeat (first | exact le_nil | refine le_eq rfl rfl ?_))), by (repeat (first | exact lo_nil | refine lo_eq rfl ?_)), rfl, rfl⟩ ?_
  · exact ⟨rfl, by simp, fun w hw => by rw [List.mem_singleton.1 hw]; simp; omega, fun e he => by cases he⟩
  rintro ⟨k, W, E⟩ ⟨i0, i1, i2, hG⟩
  simp only at i0 i1 i2 hG
  have hel := hG.el
  by_cases hk : 0 < k
  · have hv := hn W.length (by omega)
    have h2 := hn 2 (by omega)
    have hbv := fun v h => l11BlowVertex_c W E W.length (2 * W.length) (4 + 2 * W.length) hG (by omega) v h
    have hbe := fun v u h h' => l11BlowEdge_c W E W.length (2 * W.length) (4 + 2 * W.length) hG (by omega) v u h h'
    have grow : ∀ {m : Nat} {B : Int} {W2 : List Int} {E2 : List (List Int)}, GD (W.length + 1) m B W2 E2 → m ≤ 2 * W.length + 2 → B ≤ 4 + 2 * W.length + 2 → 0 ≤ k - 1 ∧ 1 ≤ W2.length ∧ k - 1 + W2.length ≤ 40 ∧ GD W2.length (2 * W2.length) (4 + 2 * W2.length) W2 E2 := fun h hm hB => by
      have := h.wl
      refine ⟨by omega, by omega, by omega, rfl, by have := h.el; omega, h.wb.mono (by omega), fun e he => ?_⟩
      have := h.er e he
      omega
    by_cases hy0 : y = 0
    · subst hy0
      by_cases he : 0 < E.length
      · have hE := hn E.length (by omega)
        repeat' (first | (apply AOps.nil; try simp only [List.nil_append, List.cons_append, List.set_cons_zero, List.set_cons_succ, List.length_cons, List.length_nil, Nat.reduceAdd, AV.sh, AV.sh1, AV.sh0, AO.sh, List.map_cons, List.map_nil, Nat.zero_add, Nat.add_zero, setAll]) | ((apply AOps.splitP; exact rfl; exact rfl) <;> intro h) | (apply w_move; exact rfl; exact rfl) | (apply w_assign; exact rfl; exact rfl) | apply AWp.seq | apply AWp.region | ((apply AWp.condP; exact rfl) <;> intro h) | (apply AWp.condF; exact rfl) | apply AWp.block | apply AWp.exit | apply AWp.skip | (apply w_skip; exact rfl) | (apply w_pickT; exact rfl; exact rfl; exact rfl) | (apply w_pickF; exact rfl; exact rfl; exact rfl) | (apply w_len; exact rfl; exact rfl; first | exact .ints _ | exact .intss _ | exact .sli rfl | exact .sls rfl | exact .slr rfl | exact .orow rfl | exact .nil) | (apply w_callso (hv); exact rfl; exact rfl; exact rfl; exact rfl; (exact rdB_ro _ _); (rintro _ ⟨v, rfl, hv1⟩)) | (apply w_callso (h2); exact rfl; exact rfl; exact rfl; exact rfl; (exact rdB_ro _ _); (rintro _ ⟨z, rfl, hz⟩)) | omega | contradiction | ((first | apply w_gtr | apply w_eql | apply w_ld | apply w_fa); iterate 3 exact rfl) | (apply w_ldb; iterate 5 exact rfl) | (apply w_ldst; iterate 5 exact rfl))
        · refine AWp.regionAI (ι := Nat) (fun j => j < E.length) (fun j => ⟨107, [(0, .optr 1 0), (1, .i most), (4, .optr 2 0), (5, .optr 4 0), (6, .i 0), (7, .i k), (8, .i W.length), (9, .i v), (10, .orow 5 j)]⟩) (fun _ => [.keep 2 K, skO 64 bs (.ro (roB vC bs)), .bx 27 [.val (.slice none 0 0), .val (.slice none 0 0)], .sli 2 W, .bx 27 [.own 3, .own 5], .sls 24 2 E]) (by kernel_rfl) rfl rfl ?_ ?_
          · repeat' (first | (apply AOps.nil; try simp only [List.nil_append, List.cons_append, List.set_cons_zero, List.set_cons_succ, List.length_cons, List.length_nil, Nat.reduceAdd, AV.sh, AV.sh1, AV.sh0, AO.sh, List.map_cons, List.map_nil, Nat.zero_add, Nat.add_zero, setAll]) | (apply w_move; exact rfl; exact rfl) | (apply w_assign; exact rfl; exact rfl) | (apply w_len; exact rfl; exact rfl; first | exact .ints _ | exact .intss _ | exact .sli rfl | exact .sls rfl | exact .slr rfl | exact .orow rfl | exact .nil) | (apply w_callso (hE); exact rfl; exact rfl; exact rfl; exact rfl; (exact rdB_ro _ _); (rintro _ ⟨j, rfl, hj⟩)) | omega | ((first | apply w_idx | apply w_ld | apply w_fa); iterate 3 exact rfl) | (apply w_idxo; exact rfl; exact rfl; (exact .sls rfl); exact rfl) | (apply w_ldls; iterate 4 exact rfl) | (apply w_ldb; iterate 5 exact rfl) | apply AllOf.nil | (apply AllOf.cons; exact rfl) | (apply AAny.take; exact rfl; exact rfl; kernel_rfl; kernel_rfl) | (apply AAny.all; exact rfl) | (apply AAny.done; exact rfl))
            all_goals refine ⟨j.toNat, by omega, ?_⟩
            all_goals (apply Or.inl; refine ⟨lee rfl ?_, ?_, rfl, rfl⟩; (focus ((repeat (first | exact le_nil | refine le_eq rfl rfl ?_)); done)); (focus ((repeat (first | exact lo_nil | refine lo_eq rfl ?_)); done)))
          intro j hj
          have hej : (E.getD j []).length = 2 ∧ (0 ≤ geti (E.getD j []) 0 ∧ geti (E.getD j []) 0 < W.length) ∧ (0 ≤ geti (E.getD j []) 1 ∧ geti (E.getD j []) 1 < W.length) := hG.er _ (gets_mem (xss := E) (i := (j : Nat)) (by omega) (by omega))
          refine AWp.regionAI (ι := List Int × List (List Int)) (fun s => GD (W.length + 1) (2 * W.length + 2) (4 + 2 * W.length + 2) s.1 s.2) (fun s => ⟨107, [(0, .optr 1 0), (1, .i most), (4, .optr 2 0), (5, .optr 4 0), (6, .i 0), (7, .i k)]⟩) (fun s => [.keep 2 K, skO 64 bs (.ro (roB vC bs)), .bx 27 [.val (.slice none 0 0), .val (.slice none 0 0)], .sli 2 s.1, .bx 27 [.own 3, .own 5], .sls 24 2 s.2]) (by kernel_rfl) rfl rfl ?_ ?_
          · repeat' (first | (apply AOps.nil; try simp only [List.nil_append, List.cons_append, List.set_cons_zero, List.set_cons_succ, List.length_cons, List.length_nil, Nat.reduceAdd, AV.sh, AV.sh1, AV.sh0, AO.sh, List.map_cons, List.map_nil, Nat.zero_add, Nat.add_zero, setAll]) | (apply w_move; exact rfl; exact rfl) | (apply w_callm ((hbe _ _ hej.2.1 hej.2.2)); (focus ((repeat (first | exact im_nil | refine im_cons rfl (.val _) ?_ | refine im_cons rfl (im_agg2 (.sli rfl) (.sls rfl)) ?_)); done)); rintro r os0 ⟨W2, E2, rfl, rfl, hG2⟩; try simp only [List.nil_append, List.cons_append, List.set_cons_zero, List.set_cons_succ, List.length_cons, List.length_nil, Nat.reduceAdd, AV.sh, AV.sh1, AV.sh0, AO.sh, List.map_cons, List.map_nil, Nat.zero_add, Nat.add_zero, setAll]) | omega | ((first | apply w_idxr | apply w_ldr); iterate 4 exact rfl) | (apply w_ldrp; iterate 4 exact rfl) | (apply w_ldst; iterate 5 exact rfl) | (apply w_stst; iterate 5 exact rfl) | apply AllOf.nil | (apply AllOf.cons; exact rfl) | (apply AAny.take; exact rfl; exact rfl; kernel_rfl; kernel_rfl) | (apply AAny.all; exact rfl) | (apply AAny.done; exact rfl))
            all_goals refine ⟨(W2, E2), hG2, ?_⟩
            all_goals (apply Or.inr; refine ⟨[0, 1, 2, 6, 4, 7], ⟨by decide, fun x hx => Nat.lt_of_lt_of_le ((by decide : ∀ x ∈ ([0, 1, 2, 6, 4, 7] : List Nat), x < 8) x hx) (Nat.le_of_ble_eq_true rfl)⟩, lee rfl ?_, ?_, rfl, rfl⟩; (focus ((repeat (first | exact le_nil | refine le_eq rfl rfl ?_)); done)); (focus ((repeat (first | exact lo_nil | refine lo_eq rfl ?_)); done)))
          rintro ⟨W2, E2⟩ hG2
          repeat' (first | (apply AOps.nil; try simp only [List.nil_append, List.cons_append, List.set_cons_zero, List.set_cons_succ, List.length_cons, List.length_nil, Nat.reduceAdd, AV.sh, AV.sh1, AV.sh0, AO.sh, List.map_cons, List.map_nil, Nat.zero_add, Nat.add_zero, setAll]) | (apply w_move; exact rfl; exact rfl) | (apply w_assign; exact rfl; exact rfl) | apply AWp.region | ((apply w_sub); iterate 3 exact rfl) | (apply inI_of <;> omega))
          refine ⟨(k - 1, W2, E2), grow hG2 (by omega) (by omega), by simp only; omega, ?_⟩
          (apply Or.inl; refine ⟨lee rfl ?_, ?_, rfl, rfl⟩; (focus ((repeat (first | exact le_nil | refine le_eq rfl rfl ?_)); done)); (focus ((repeat (first | exact lo_nil | refine lo_eq rfl ?_)); done)))
        have hbv1 := hbv v (by omega)
        repeat' (first | (apply AOps.nil; try simp only [List.nil_append, List.cons_append, List.set_cons_zero, List.set_cons_succ, List.length_cons, List.length_nil, Nat.reduceAdd, AV.sh, AV.sh1, AV.sh0, AO.sh, List.map_cons, List.map_nil, Nat.zero_add, Nat.add_zero, setAll]) | (apply w_move; exact rfl; exact rfl) | (apply w_assign; exact rfl; exact rfl) | apply AWp.region | (apply w_callm (hbv1); (focus ((repeat (first | exact im_nil | refine im_cons rfl (.val _) ?_ | refine im_cons rfl (im_agg2 (.sli rfl) (.sls rfl)) ?_)); done)); rintro r os0 ⟨W2, E2, rfl, rfl, hG2⟩; try simp only [List.nil_append, List.cons_append, List.set_cons_zero, List.set_cons_succ, List.length_cons, List.length_nil, Nat.reduceAdd, AV.sh, AV.sh1, AV.sh0, AO.sh, List.map_cons, List.map_nil, Nat.zero_add, Nat.add_zero, setAll]) | ((apply w_sub); iterate 3 exact rfl) | (apply w_stst; iterate 5 exact rfl) | (apply inI_of <;> omega))
        refine ⟨(k - 1, W2, E2), grow hG2 (by omega) (by omega), by simp only; omega, ?_⟩
        (apply Or.inr; refine ⟨[0, 1, 2, 6, 4, 7], ⟨by decide, fun x hx => Nat.lt_of_lt_of_le ((by decide : ∀ x ∈ ([0, 1, 2, 6, 4, 7] : List Nat), x < 8) x hx) (Nat.le_of_ble_eq_true rfl)⟩, lee rfl ?_, ?_, rfl, rfl⟩; (focus ((repeat (first | exact le_nil | refine le_eq rfl rfl ?_)); done)); (focus ((repeat (first | exact lo_nil | refine lo_eq rfl ?_)); done)))
      · repeat' (first | (apply AOps.nil; try simp only [List.nil_append, List.cons_append, List.set_cons_zero, List.set_cons_succ, List.length_cons, List.length_nil, Nat.reduceAdd, AV.sh, AV.sh1, AV.sh0, AO.sh, List.map_cons, List.map_nil, Nat.zero_add, Nat.add_zero, setAll]) | ((apply AOps.splitP; exact rfl; exact rfl) <;> intro h) | (apply w_move; exact rfl; exact rfl) | (apply w_assign; exact rfl; exact rfl) | apply AWp.seq | apply AWp.region | ((apply AWp.condP; exact rfl) <;> intro h) | (apply AWp.condF; exact rfl) | apply AWp.block | apply AWp.exit | apply AWp.skip | (apply w_skip; exact rfl) | (apply w_pickT; exact rfl; exact rfl; exact rfl) | (apply w_pickF; exact rfl; exact rfl; exact rfl) | (apply w_len; exact rfl; exact rfl; first | exact .ints _ | exact .intss _ | exact .sli rfl | exact .sls rfl | exact .slr rfl | exact .orow rfl | exact .nil) | (apply w_callso (hv); exact rfl; exact rfl; exact rfl; exact rfl; (exact rdB_ro _ _); (rintro _ ⟨v, rfl, hv1⟩)) | omega | contradiction | ((first | apply w_gtr | apply w_eql | apply w_ld | apply w_fa); iterate 3 exact rfl) | (apply w_ldb; iterate 5 exact rfl) | (apply w_ldst; iterate 5 exact rfl))
        have hbv1 := hbv v (by omega)
        repeat' (first | (apply AOps.nil; try simp only [List.nil_append, List.cons_append, List.set_cons_zero, List.set_cons_succ, List.length_cons, List.length_nil, Nat.reduceAdd, AV.sh, AV.sh1, AV.sh0, AO.sh, List.map_cons, List.map_nil, Nat.zero_add, Nat.add_zero, setAll]) | (apply w_move; exact rfl; exact rfl) | (apply w_assign; exact rfl; exact rfl) | apply AWp.region | (apply w_callm (hbv1); (focus ((repeat (first | exact im_nil | refine im_cons rfl (.val _) ?_ | refine im_cons rfl (im_agg2 (.sli rfl) (.sls rfl)) ?_)); done)); rintro r os0 ⟨W2, E2, rfl, rfl, hG2⟩; try simp only [List.nil_append, List.cons_append, List.set_cons_zero, List.set_cons_succ, List.length_cons, List.length_nil, Nat.reduceAdd, AV.sh, AV.sh1, AV.sh0, AO.sh, List.map_cons, List.map_nil, Nat.zero_add, Nat.add_zero, setAll]) | ((apply w_sub); iterate 3 exact rfl) | (apply w_stst; iterate 5 exact rfl) | (apply inI_of <;> omega))
        refine ⟨(k - 1, W2, E2), grow hG2 (by omega) (by omega), by simp only; omega, ?_⟩
        (apply Or.inr; refine ⟨[0, 1, 2, 6, 4, 7], ⟨by decide, fun x hx => Nat.lt_of_lt_of_le ((by decide : ∀ x ∈ ([0, 1, 2, 6, 4, 7] : List Nat), x < 8) x hx) (Nat.le_of_ble_eq_true rfl)⟩, lee rfl ?_, ?_, rfl, rfl⟩; (focus ((repeat (first | exact le_nil | refine le_eq rfl rfl ?_)); done)); (focus ((repeat (first | exact lo_nil | refine lo_eq rfl ?_)); done)))
    · repeat' (first | (apply AOps.nil; try simp only [List.nil_append, List.cons_append, List.set_cons_zero, List.set_cons_succ, List.length_cons, List.length_nil, Nat.reduceAdd, AV.sh, AV.sh1, AV.sh0, AO.sh, List.map_cons, List.map_nil, Nat.zero_add, Nat.add_zero, setAll]) | ((apply AOps.splitP; exact rfl; exact rfl) <;> intro h) | (apply w_move; exact rfl; exact rfl) | (apply w_assign; exact rfl; exact rfl) | apply AWp.seq | apply AWp.region | ((apply AWp.condP; exact rfl) <;> intro h) | (apply AWp.condF; exact rfl) | apply AWp.block | apply AWp.exit | apply AWp.skip | (apply w_skip; exact rfl) | (apply w_pickF; exact rfl; exact rfl; exact rfl) | (apply w_len; exact rfl; exact rfl; first | exact .ints _ | exact .intss _ | exact .sli rfl | exact .sls rfl | exact .slr rfl | exact .orow rfl | exact .nil) | (apply w_callso (hv); exact rfl; exact rfl; exact rfl; exact rfl; (exact rdB_ro _ _); (rintro _ ⟨v, rfl, hv1⟩)) | omega | ((first | apply w_gtr | apply w_eql | apply w_ld | apply w_fa); iterate 3 exact rfl) | (apply w_ldb; iterate 5 exact rfl))
      refine AWp.regionAI (ι := Int) (fun b => 0 ≤ b ∧ b < 4) (fun b => ⟨107, [(0, .optr 1 0), (1, .i most), (4, .optr 2 0), (5, .optr 4 0), (6, .i y), (7, .i k), (8, .i W.length), (9, .i v)]⟩) (fun b => [.keep 2 K, skO 64 bs (.ro (roB vC bs)), .bx 27 [.val (.slice none 0 0), .val (.slice none 0 0)], .sli 2 (W ++ [-1 - b]), .bx 27 [.own 3, .own 5], .sls 24 2 E]) (by kernel_rfl) rfl rfl ?_ ?_
      · have h4 := hn 4 (by omega)
        repeat' (first | (apply AOps.nil; try simp only [List.nil_append, List.cons_append, List.set_cons_zero, List.set_cons_succ, List.length_cons, List.length_nil, Nat.reduceAdd, AV.sh, AV.sh1, AV.sh0, AO.sh, List.map_cons, List.map_nil, Nat.zero_add, Nat.add_zero, setAll]) | (apply w_move; exact rfl; exact rfl) | ((apply w_bs1); iterate 2 exact rfl) | (apply w_callso (h4); exact rfl; exact rfl; exact rfl; exact rfl; (exact rdB_ro _ _); (rintro _ ⟨b, rfl, hb⟩)) | ((first | apply w_sub | apply w_ld | apply w_fa); iterate 3 exact rfl) | (apply w_ldb; iterate 5 exact rfl) | (apply w_app; exact rfl; exact rfl; exact rfl; exact rfl; (exact .sli rfl); rotate_left 1; simp only [Env.mp, List.map_cons, List.map_nil, List.set_cons_zero, List.set_cons_succ, AV.kill, AV.kill1, AO.kill, AV.noRow, AV.noRow1, AO.via, reduceIte, Nat.reduceEqDiff, Nat.reduceLT, Env.up, Nat.zero_ne_one, Nat.one_ne_zero, Nat.reduceAdd, List.cons_append, List.nil_append]; rotate_left 1) | (apply w_stbo; exact rfl; exact rfl; exact rfl; exact rfl; exact rfl; exact True.intro) | apply AllOf.nil | (apply AllOf.cons; exact rfl) | (apply AAny.take; exact rfl; exact rfl; kernel_rfl; kernel_rfl) | (apply AAny.all; exact rfl) | (apply AAny.done; exact rfl) | (apply inI_of <;> omega) | (simp <;> omega))
        all_goals refine ⟨b, by omega, ?_⟩
        all_goals (apply Or.inl; refine ⟨lee rfl ?_, ?_, rfl, rfl⟩; (focus ((repeat (first | exact le_nil | refine le_eq rfl rfl ?_)); done)); (focus ((repeat (first | exact lo_nil | refine lo_eq rfl ?_)); done)))
      intro b hb
      have h8 := hn 8 (by omega)
      have hs := l11Sorted_c (E ++ [[v, (W.length : Int)]]) (by simp; omega) (fun e he => by
        rcases List.mem_append.1 he with he | he
        · exact (hG.er e he).1
        · rw [List.mem_singleton.1 he]; rfl)
      have g1 := hG.grow1 (b := b) hb (by omega)
      have g2 := fun E' hl he => hG.grow2 (E' := E') (v := v) (b := b) (by omega) hb (by omega) hl he
      have hwl : (W ++ [-1 - b]).length = W.length + 1 := by simp
      generalize W ++ [-1 - b] = W3 at *
      by_cases hy1 : y = 1
      · subst hy1
        repeat' (first | (apply AOps.nil; try simp only [List.nil_append, List.cons_append, List.set_cons_zero, List.set_cons_succ, List.length_cons, List.length_nil, Nat.reduceAdd, AV.sh, AV.sh1, AV.sh0, AO.sh, List.map_cons, List.map_nil, Nat.zero_add, Nat.add_zero, setAll]) | ((apply AOps.splitP; exact rfl; exact rfl) <;> intro h) | (apply w_move; exact rfl; exact rfl) | (apply w_assign; exact rfl; exact rfl) | apply AWp.seq | apply AWp.region | (apply AWp.condT; exact rfl) | (apply w_skip; exact rfl) | (apply w_pickT; exact rfl; exact rfl; exact rfl) | ((first | apply w_bsr1 | apply w_eql | apply w_sub | apply w_ld | apply w_fa | apply w_bs2); iterate 3 exact rfl) | (apply w_appr; exact rfl; exact rfl; exact rfl; exact rfl; exact rfl; exact rfl; exact rfl; rotate_left 1; simp only [Env.mp, List.map_cons, List.map_nil, List.set_cons_zero, List.set_cons_succ, AV.kill, AV.kill1, AO.kill, AV.rin, AV.rin1, AV.noRow, AV.noRow1, AO.via, reduceIte, Nat.reduceEqDiff, Nat.reduceLT, Env.up, Nat.zero_ne_one, Nat.one_ne_zero, Nat.reduceAdd, List.cons_append, List.nil_append]; rotate_left 1) | (apply w_callt 5 (hs); exact rfl; exact rfl; (focus ((repeat (first | exact imu_nil | refine imu_cons rfl (.own rfl) ?_)); done)); rintro xss0 ⟨hl, he⟩; simp only [Env.mp, List.map_cons, List.map_nil, List.set_cons_zero, List.set_cons_succ, AV.kill, AV.kill1, AO.kill, AV.lose, AV.lose1, List.map_append, map_orow_kill, AV.noRow, AV.noRow1, AO.via, reduceIte, Nat.reduceEqDiff, Nat.reduceLT, Env.up, Nat.zero_ne_one, Nat.one_ne_zero, Nat.reduceAdd, List.cons_append, List.nil_append]) | omega | (apply w_ldb; iterate 5 exact rfl) | (apply w_stbo; exact rfl; exact rfl; exact rfl; exact rfl; exact rfl; exact True.intro) | (apply inI_of <;> omega))
        refine ⟨(k - 1, W3, _), grow (g2 _ hl he) (by omega) (by omega), by simp only; omega, ?_⟩
        (apply Or.inl; refine ⟨lee rfl ?_, ?_, rfl, rfl⟩; (focus ((repeat (first | exact le_nil | refine le_eq rfl rfl ?_)); done)); (focus ((repeat (first | exact lo_nil | refine lo_eq rfl ?_)); done)))
      · repeat' (first | (apply AOps.nil; try simp only [List.nil_append, List.cons_append, List.set_cons_zero, List.set_cons_succ, List.length_cons, List.length_nil, Nat.reduceAdd, AV.sh, AV.sh1, AV.sh0, AO.sh, List.map_cons, List.map_nil, Nat.zero_add, Nat.add_zero, setAll]) | ((apply AOps.splitP; exact rfl; exact rfl) <;> intro h) | (apply w_move; exact rfl; exact rfl) | (apply w_assign; exact rfl; exact rfl) | apply AWp.seq | apply AWp.region | ((apply AWp.condP; exact rfl) <;> intro h) | (apply AWp.condT; exact rfl) | apply AWp.skip | (apply w_skip; exact rfl) | (apply w_pickT; exact rfl; exact rfl; exact rfl) | (apply w_pickF; exact rfl; exact rfl; exact rfl) | ((first | apply w_bsr1 | apply w_gtr | apply w_eql | apply w_sub | apply w_ld | apply w_fa | apply w_bs2); iterate 3 exact rfl) | (apply w_appr; exact rfl; exact rfl; exact rfl; exact rfl; exact rfl; exact rfl; exact rfl; rotate_left 1; simp only [Env.mp, List.map_cons, List.map_nil, List.set_cons_zero, List.set_cons_succ, AV.kill, AV.kill1, AO.kill, AV.rin, AV.rin1, AV.noRow, AV.noRow1, AO.via, reduceIte, Nat.reduceEqDiff, Nat.reduceLT, Env.up, Nat.zero_ne_one, Nat.one_ne_zero, Nat.reduceAdd, List.cons_append, List.nil_append]; rotate_left 1) | (apply w_callso (h8); exact rfl; exact rfl; exact rfl; exact rfl; (exact rdB_ro _ _); (rintro _ ⟨z, rfl, hz⟩)) | (apply w_callt 5 (hs); exact rfl; exact rfl; (focus ((repeat (first | exact imu_nil | refine imu_cons rfl (.own rfl) ?_)); done)); rintro xss0 ⟨hl, he⟩; simp only [Env.mp, List.map_cons, List.map_nil, List.set_cons_zero, List.set_cons_succ, AV.kill, AV.kill1, AO.kill, AV.lose, AV.lose1, List.map_append, map_orow_kill, AV.noRow, AV.noRow1, AO.via, reduceIte, Nat.reduceEqDiff, Nat.reduceLT, Env.up, Nat.zero_ne_one, Nat.one_ne_zero, Nat.reduceAdd, List.cons_append, List.nil_append]) | omega | (apply w_ldb; iterate 5 exact rfl) | (apply w_stbo; exact rfl; exact rfl; exact rfl; exact rfl; exact rfl; exact True.intro) | (apply inI_of <;> omega))
        · refine ⟨(k - 1, W3, _), grow (g2 _ hl he) (by omega) (by omega), by simp only; omega, ?_⟩
          (apply Or.inl; refine ⟨lee rfl ?_, ?_, rfl, rfl⟩; (focus ((repeat (first | exact le_nil | refine le_eq rfl rfl ?_)); done)); (focus ((repeat (first | exact lo_nil | refine lo_eq rfl ?_)); done)))
        · refine ⟨(k - 1, W3, E), grow g1 (by omega) (by omega), by simp only; omega, ?_⟩
          (apply Or.inl; refine ⟨lee rfl ?_, ?_, rfl, rfl⟩; (focus ((repeat (first | exact le_nil | refine le_eq rfl rfl ?_)); done)); (focus ((repeat (first | exact lo_nil | refine lo_eq rfl ?_)); done)))
  · have hv := hn W.length (by omega)
    have h12 := hn 12 (by omega)
    have hp : AFnL Try.prog 19 64 bs [0, 1, 5, -1000, 1000] (fun rv => ∃ y, rv = .int .i64 y ∧ (-1000 ≤ y ∧ y ≤ 1000)) :=
      (l01Pick_c bs hl hbs [0, 1, 5, -1000, 1000] ⟨by simp, by simp⟩).mono fun _ ⟨y, e, hy⟩ => ⟨y, e, by simp at hy; omega⟩
    have hfin : ∀ W2 : List Int, W2.length = W.length → WB 1000 W2 → GD W2.length (2 * W2.length) 1000 W2 E := fun W2 hl2 hb2 => ⟨rfl, by omega, hb2, fun e he => by have := hG.er e he; omega⟩
    have w0 : WB 1000 W := hG.wb.mono (by omega)
    repeat' (first | (apply AOps.nil; try simp only [List.nil_append, List.cons_append, List.set_cons_zero, List.set_cons_succ, List.length_cons, List.length_nil, Nat.reduceAdd, AV.sh, AV.sh1, AV.sh0, AO.sh, List.map_cons, List.map_nil, Nat.zero_add, Nat.add_zero, setAll]) | (apply w_move; exact rfl; exact rfl) | apply AWp.seq | apply AWp.region | ((apply AWp.condP; exact rfl) <;> intro h) | apply AWp.block | apply AWp.ret | apply AWp.exit | apply AWp.skip | (apply w_callso (h12); exact rfl; exact rfl; exact rfl; exact rfl; (exact rdB_ro _ _); (rintro _ ⟨z, rfl, hz⟩)) | omega | ((first | apply w_gtr | apply w_eql); iterate 3 exact rfl) | (apply w_ldst; iterate 5 exact rfl) | (apply w_stst; iterate 5 exact rfl))
    · refine AWp.regionAI (ι := List Int) (fun X => X.length = W.length ∧ WB 1000 X) (fun X => ⟨107, [(0, .optr 1 0), (4, .optr 2 0), (5, .optr 4 0)]⟩) (fun X => [.keep 2 K, skO 64 bs (.ro (roB vC bs)), .bx 27 [.val (.slice none 0 0), .val (.slice none 0 0)], .sli 2 X, .bx 27 [.own 3, .own 5], .sls 24 2 E]) (by kernel_rfl) rfl rfl ?_ ?_
      · repeat' (first | (apply AOps.nil; try simp only [List.nil_append, List.cons_append, List.set_cons_zero, List.set_cons_succ, List.length_cons, List.length_nil, Nat.reduceAdd, AV.sh, AV.sh1, AV.sh0, AO.sh, List.map_cons, List.map_nil, Nat.zero_add, Nat.add_zero, setAll]) | (apply w_move; exact rfl; exact rfl) | (apply w_len; exact rfl; exact rfl; first | exact .ints _ | exact .intss _ | exact .sli rfl | exact .sls rfl | exact .slr rfl | exact .orow rfl | exact .nil) | (apply w_bs5; iterate 6 exact rfl) | (apply w_callso (hv); exact rfl; exact rfl; exact rfl; exact rfl; (exact rdB_ro _ _); (rintro _ ⟨j, rfl, hj⟩)) | (apply w_callsol (hp); exact rfl; exact rfl; exact rfl; exact rfl; (exact rdB_ro _ _); exact rfl; (rintro _ ⟨t, rfl, ht⟩)) | omega | ((first | apply w_idx | apply w_ld | apply w_fa); iterate 3 exact rfl) | (apply w_idxo; exact rfl; exact rfl; (exact .sli rfl); exact rfl) | (apply w_ldb; iterate 5 exact rfl) | (apply w_sti; exact rfl; exact rfl; rotate_left 1; exact rfl; rotate_left 2) | apply AllOf.nil | (apply AllOf.cons; exact rfl) | (apply AAny.take; exact rfl; exact rfl; kernel_rfl; kernel_rfl) | (apply AAny.all; exact rfl) | (apply AAny.done; exact rfl) | (apply inI_of <;> omega))
        all_goals refine ⟨W.set j.toNat t, ⟨List.length_set, w0.set ht⟩, ?_⟩
        all_goals (apply Or.inl; refine ⟨lee rfl ?_, ?_, rfl, rfl⟩; (focus ((repeat (first | exact le_nil | refine le_eq rfl rfl ?_)); done)); (focus ((repeat (first | exact lo_nil | refine lo_eq rfl ?_)); done)))
      rintro X ⟨hX1, hX2⟩
      repeat' (first | (apply AOps.nil; try simp only [List.nil_append, List.cons_append, List.set_cons_zero, List.set_cons_succ, List.length_cons, List.length_nil, Nat.reduceAdd, AV.sh, AV.sh1, AV.sh0, AO.sh, List.map_cons, List.map_nil, Nat.zero_add, Nat.add_zero, setAll]) | apply AWp.seq | apply AWp.region | apply AWp.ret | (apply w_ldst; iterate 5 exact rfl) | (apply w_stst; iterate 5 exact rfl))
      exact ⟨_, _, _, _, .c1 Try.results30 rfl rfl rfl, rfl, .oo (i := 3) (j := 5) rfl rfl trivial trivial (by decide), X, E, X.length, rfl, rfl, hfin X hX1 hX2, by omega, by omega⟩
    · exact ⟨_, _, _, _, .c1 Try.results30 rfl rfl rfl, rfl, .oo (i := 3) (j := 5) rfl rfl trivial trivial (by decide), W, E, W.length, rfl, rfl, hfin W rfl w0, by omega, by omega⟩
end Go.Proofs.Ythjkpmjdkcainaa
/-
  Draws of what mostly is a graph. Condition: not too many bytes.
-/
namespace Go.Proofs.Ythjkpmjdkcainaa
open Go Go.RowKit
attribute [local irreducible] AWp AOps ResIs Ret1 QOp LOp COp AFnV AFn Imms LeE LeO
set_option maxHeartbeats 1000000
set_option linter.unusedSimpArgs false
set_option linter.unusedVariables false

/-- A graph, of whose numbers perhaps the first is left out. -/
def IsGo (T T2 : TypeId) (r : AV) (os : List AO) : Prop := ∃ W E, os = [.sli T2 W, .sls T T2 E] ∧ (r = .agg [.own 0, .own 1] ∨ r = .agg [.osub 0 1 (W.length - 1), .own 1]) ∧ 1 ≤ W.length ∧ W.length ≤ 40 ∧ E.length ≤ 81 ∧ WB 1001 W ∧ ∀ e ∈ E, e.length = 2
set_option maxHeartbeats 16000000 in
theorem l11DrawAny_c (bs : List Int) (hl : bs.length ≤ 1048576) (hbs : ∀ i, 0 ≤ geti bs i ∧ geti bs i ≤ 255) (most : Int) (hm : 0 ≤ most ∧ most ≤ 40) :
    AFnZ Try.prog 18 64 bs [.int .i64 most] (IsGo 24 2) := by
  have hn : ∀ z : Int, z ≤ 1000 → AFnS Try.prog 20 64 bs [.int .i64 z] (Nx z) := fun z hz => l01Next_c bs hl hbs z (by omega)
  have h24 := hn 24 (by omega)
  have h2 := hn 2 (by omega)
  have hd := l11Draw_c bs hl hbs most hm
  have hp : AFnL Try.prog 19 64 bs [1001, -1001] (fun rv => ∃ y, rv = .int .i64 y ∧ (-1001 ≤ y ∧ y ≤ 1001)) :=
    (l01Pick_c bs hl hbs [1001, -1001] ⟨by simp, by simp⟩).mono fun _ ⟨y, e, hy⟩ => ⟨y, e, by simp at hy; omega⟩
  (refine AFnZ.start Try.func18 Try.ntmps18 rfl (by kernel_rfl) fun K vC => ?_; simp only [Env.start, enumF, List.map_cons, List.map_nil, List.length_cons, List.length_nil, Nat.reduceAdd, Nat.reduceSub, Nat.zero_add, List.cons_append, List.nil_append])
  repeat' (first | (apply AOps.nil; try simp only [List.nil_append, List.cons_append, List.set_cons_zero, List.set_cons_succ, List.length_cons, List.length_nil, Nat.reduceAdd, AV.sh, AV.sh1, AV.sh0, AO.sh, List.map_cons, List.map_nil, Nat.zero_add, Nat.add_zero, setAll]) | (apply w_move; exact rfl; exact rfl) | (apply w_assign; exact rfl; exact rfl) | apply AWp.seq | apply AWp.region | (apply w_len; exact rfl; exact rfl; first | exact .ints _ | exact .intss _ | exact .sli rfl | exact .sls rfl | exact .slr rfl | exact .orow rfl | exact .nil) | (apply w_callsoo (hd); exact rfl; exact rfl; exact rfl; exact rfl; (exact rdB_ro _ _); exact rfl; (rintro r os0 ⟨W, E, n, rfl, rfl, hG, hn1, hn2⟩; try simp only [List.nil_append, List.cons_append, List.set_cons_zero, List.set_cons_succ, List.length_cons, List.length_nil, Nat.reduceAdd, AV.sh, AV.sh1, AV.sh0, AO.sh, List.map_cons, List.map_nil, Nat.zero_add, Nat.add_zero, setAll])) | ((first | apply w_ld | apply w_fa); iterate 3 exact rfl) | (apply w_ldb; iterate 5 exact rfl) | (apply w_alst; iterate 2 exact rfl) | (apply w_stst; iterate 5 exact rfl))
  have hwl := hG.wl
  have hel := hG.el
  have hv := hn W.length (by omega)
  have w0 : WB 1001 W := hG.wb.mono (by omega)
  have e0 : ∀ e ∈ E, e.length = 2 := fun e he => (hG.er e he).1
  repeat' (first | (apply AOps.nil; try simp only [List.nil_append, List.cons_append, List.set_cons_zero, List.set_cons_succ, List.length_cons, List.length_nil, Nat.reduceAdd, AV.sh, AV.sh1, AV.sh0, AO.sh, List.map_cons, List.map_nil, Nat.zero_add, Nat.add_zero, setAll]) | (apply w_assign; exact rfl; exact rfl) | apply AWp.seq | apply AWp.region | ((apply AWp.condP; exact rfl) <;> intro h) | apply AWp.block | apply AWp.ret | apply AWp.skip | ((apply w_stbu); iterate 4 exact rfl) | (apply w_callso (h24); exact rfl; exact rfl; exact rfl; exact rfl; (exact rdB_ro _ _); (rintro _ ⟨x, rfl, hx⟩)) | omega | ((first | apply w_eql | apply w_ld | apply w_fa | apply w_sllo); iterate 3 exact rfl) | (apply w_ldb; iterate 5 exact rfl) | (apply w_ldst; iterate 5 exact rfl) | ((apply w_oslo); iterate 4 exact rfl) | (apply w_stst; iterate 5 exact rfl))
  · refine AWp.regionAI (ι := List Int) (fun X => X.length = W.length ∧ WB 1001 X) (fun X => ⟨48, [(0, .optr 1 0), (4, .optr 2 0), (5, .optr 5 0), (14, .i x)]⟩) (fun X => [.keep 2 K, skO 64 bs (.ro (roB vC bs)), .bx 27 [.val (.slice none 0 0), .val (.slice none 0 0)], .sli 2 X, .sls 24 2 E, .bx 27 [.own 3, .own 4]]) (by kernel_rfl) rfl rfl ?_ ?_
    · repeat' (first | (apply AOps.nil; try simp only [List.nil_append, List.cons_append, List.set_cons_zero, List.set_cons_succ, List.length_cons, List.length_nil, Nat.reduceAdd, AV.sh, AV.sh1, AV.sh0, AO.sh, List.map_cons, List.map_nil, Nat.zero_add, Nat.add_zero, setAll]) | (apply w_move; exact rfl; exact rfl) | (apply w_callso (hv); exact rfl; exact rfl; exact rfl; exact rfl; (exact rdB_ro _ _); (rintro _ ⟨j, rfl, hj⟩)) | (apply w_callsol (hp); exact rfl; exact rfl; exact rfl; exact rfl; (exact rdB_ro _ _); exact rfl; (rintro _ ⟨t, rfl, ht⟩)) | omega | ((first | apply w_idx | apply w_ld | apply w_fa | apply w_bs2); iterate 3 exact rfl) | (apply w_idxo; exact rfl; exact rfl; (exact .sli rfl); exact rfl) | (apply w_ldb; iterate 5 exact rfl) | (apply w_sti; exact rfl; exact rfl; rotate_left 1; exact rfl; rotate_left 2) | apply AllOf.nil | (apply AllOf.cons; exact rfl) | (apply AAny.take; exact rfl; exact rfl; kernel_rfl; kernel_rfl) | (apply AAny.all; exact rfl) | (apply AAny.done; exact rfl) | (apply inI_of <;> omega))
      all_goals refine ⟨W.set j.toNat t, ⟨List.length_set, w0.set ht⟩, ?_⟩
      all_goals (apply Or.inl; refine ⟨lee rfl ?_, ?_, rfl, rfl⟩; (focus ((repeat (first | exact le_nil | refine le_eq rfl rfl ?_)); done)); (focus ((repeat (first | exact lo_nil | refine lo_eq rfl ?_)); done)))
    rintro X ⟨hX1, hX2⟩
    repeat' (first | (apply AOps.nil; try simp only [List.nil_append, List.cons_append, List.set_cons_zero, List.set_cons_succ, List.length_cons, List.length_nil, Nat.reduceAdd, AV.sh, AV.sh1, AV.sh0, AO.sh, List.map_cons, List.map_nil, Nat.zero_add, Nat.add_zero, setAll]) | apply AWp.seq | apply AWp.region | apply AWp.ret | (apply w_ldst; iterate 5 exact rfl) | (apply w_stst; iterate 5 exact rfl))
    exact ⟨_, _, _, _, .c1 Try.results18 rfl rfl rfl, rfl, .oo (i := 3) (j := 4) rfl rfl trivial trivial (by decide), X, E, rfl, .inl rfl, by omega, by omega, by omega, hX2, e0⟩
  · refine AWp.regionAI (ι := List Int) (fun e => e.length = 2) (fun e => ⟨48, [(0, .optr 1 0), (4, .optr 2 0), (5, .optr 5 0), (14, .i x)]⟩) (fun e => [.keep 2 K, skO 64 bs (.ro (roB vC bs)), .bx 27 [.val (.slice none 0 0), .val (.slice none 0 0)], .sli 2 W, .sls 24 2 (E ++ [e]), .bx 27 [.own 3, .own 4]]) (by kernel_rfl) rfl rfl ?_ ?_
    · repeat' (first | (apply AOps.nil; try simp only [List.nil_append, List.cons_append, List.set_cons_zero, List.set_cons_succ, List.length_cons, List.length_nil, Nat.reduceAdd, AV.sh, AV.sh1, AV.sh0, AO.sh, List.map_cons, List.map_nil, Nat.zero_add, Nat.add_zero, setAll]) | (apply w_move; exact rfl; exact rfl) | ((first | apply w_bsr1 | apply w_sub | apply w_ld | apply w_fa | apply w_bs2); iterate 3 exact rfl) | (apply w_appr; exact rfl; exact rfl; exact rfl; exact rfl; exact rfl; exact rfl; exact rfl; rotate_left 1; simp only [Env.mp, List.map_cons, List.map_nil, List.set_cons_zero, List.set_cons_succ, AV.kill, AV.kill1, AO.kill, AV.rin, AV.rin1, AV.noRow, AV.noRow1, AO.via, reduceIte, Nat.reduceEqDiff, Nat.reduceLT, Env.up, Nat.zero_ne_one, Nat.one_ne_zero, Nat.reduceAdd, List.cons_append, List.nil_append]; rotate_left 1) | (apply w_callso (hv); exact rfl; exact rfl; exact rfl; exact rfl; (exact rdB_ro _ _); (rintro _ ⟨j, rfl, hj⟩)) | (apply w_callso (h2); exact rfl; exact rfl; exact rfl; exact rfl; (exact rdB_ro _ _); (rintro _ ⟨t, rfl, ht⟩)) | omega | (apply w_ldb; iterate 5 exact rfl) | (apply w_stbo; exact rfl; exact rfl; exact rfl; exact rfl; exact rfl; exact True.intro) | apply AllOf.nil | (apply AllOf.cons; exact rfl) | (apply AAny.take; exact rfl; exact rfl; kernel_rfl; kernel_rfl) | (apply AAny.all; exact rfl) | (apply AAny.done; exact rfl) | (apply inI_of <;> omega))
      all_goals refine ⟨[j, (W.length : Int) - t], rfl, ?_⟩
      all_goals (apply Or.inl; refine ⟨lee rfl ?_, ?_, rfl, rfl⟩; (focus ((repeat (first | exact le_nil | refine le_eq rfl rfl ?_)); done)); (focus ((repeat (first | exact lo_nil | refine lo_eq rfl ?_)); done)))
    rintro e he
    repeat' (first | (apply AOps.nil; try simp only [List.nil_append, List.cons_append, List.set_cons_zero, List.set_cons_succ, List.length_cons, List.length_nil, Nat.reduceAdd, AV.sh, AV.sh1, AV.sh0, AO.sh, List.map_cons, List.map_nil, Nat.zero_add, Nat.add_zero, setAll]) | apply AWp.seq | apply AWp.region | apply AWp.ret | (apply w_ldst; iterate 5 exact rfl) | (apply w_stst; iterate 5 exact rfl))
    refine ⟨_, _, _, _, .c1 Try.results18 rfl rfl rfl, rfl, .oo (i := 3) (j := 4) rfl rfl trivial trivial (by decide), W, _, rfl, .inl rfl, by omega, by omega, by simp; omega, w0, fun e' he' => ?_⟩
    rcases List.mem_append.1 he' with h | h
    · exact e0 _ h
    · rw [List.mem_singleton.1 h]; exact he
  · exact ⟨_, _, _, _, .c1 Try.results18 rfl rfl rfl, rfl, .so (i := 3) (j := 4) rfl rfl trivial trivial (by decide), W, E, rfl, .inr rfl, by omega, by omega, by omega, w0, e0⟩
  · exact ⟨_, _, _, _, .c1 Try.results18 rfl rfl rfl, rfl, .oo (i := 3) (j := 4) rfl rfl trivial trivial (by decide), W, E, rfl, .inl rfl, by omega, by omega, by omega, w0, e0⟩
end Go.Proofs.Ythjkpmjdkcainaa
/-
  Draws of graphs for the law of determinants. Condition: not too many bytes.
-/
namespace Go.Proofs.Ythjkpmjdkcainaa
open Go Go.RowKit
attribute [local irreducible] AWp AOps ResIs Ret1 QOp LOp COp AFnV AFn Imms LeE LeO
set_option maxHeartbeats 1000000
set_option linter.unusedSimpArgs false
set_option linter.unusedVariables false

set_option maxHeartbeats 16000000 in
theorem drawBD_c (bs : List Int) (hl : bs.length ≤ 1048576) (hbs : ∀ i, 0 ≤ geti bs i ∧ geti bs i ≤ 255) : AFn Try.prog 5 [.ro (byR bs)] (IsGo 24 2) := by
  have hf := l01From_c bs hl hbs
  have hn : ∀ z : Int, z ≤ 1000 → AFnS Try.prog 20 64 bs [.int .i64 z] (Nx z) := fun z hz => l01Next_c bs hl hbs z (by omega)
  have h12 := hn 12 (by omega)
  have h100 := hn 100 (by omega)
  have hp : AFnL Try.prog 19 64 bs [8, 12, 30] (fun rv => ∃ y, rv = .int .i64 y ∧ (0 ≤ y ∧ y ≤ 40)) :=
    (l01Pick_c bs hl hbs [8, 12, 30] ⟨by simp, by simp⟩).mono fun _ ⟨y, e, hy⟩ => ⟨y, e, by simp at hy; omega⟩
  have hd : ∀ y : Int, 0 ≤ y ∧ y ≤ 40 → AFnZ Try.prog 18 64 bs [.int .i64 y] (IsGo 24 2) := fun y hy => l11DrawAny_c bs hl hbs y hy
  (refine AFn.start Try.func5 Try.ntmps5 rfl (by kernel_rfl) fun hk => ?_; simp only [Env.start, enumF, List.length_cons, List.length_nil, Nat.reduceAdd, Nat.reduceSub, List.cons_append, List.nil_append])
  repeat' (first | (apply AOps.nil; try simp only [List.nil_append, List.cons_append, List.set_cons_zero, List.set_cons_succ, List.length_cons, List.length_nil, Nat.reduceAdd, AV.sh, AV.sh1, AV.sh0, AO.sh, List.map_cons, List.map_nil, Nat.zero_add, Nat.add_zero, setAll]) | (apply w_move; exact rfl; exact rfl) | (apply w_assign; exact rfl; exact rfl) | apply AWp.seq | apply AWp.region | ((apply w_bs3); iterate 4 exact rfl) | (apply w_callsof (hf); exact rfl; (exact rdB_by _); exact rfl; try simp only [List.nil_append, List.cons_append, List.set_cons_zero, List.set_cons_succ, List.length_cons, List.length_nil, Nat.reduceAdd, AV.sh, AV.sh1, AV.sh0, AO.sh, List.map_cons, List.map_nil, Nat.zero_add, Nat.add_zero, setAll]) | (apply w_callsol (hp); exact rfl; exact rfl; exact rfl; exact rfl; (exact rdB_by _); exact rfl; (rintro _ ⟨y, rfl, hy⟩)) | (apply w_alst; iterate 2 exact rfl) | (apply inI_of <;> omega))
  have hdy := hd y hy
  repeat' (first | (apply w_callsoo (hdy); exact rfl; exact rfl; exact rfl; exact rfl; (exact rdB_by _); exact rfl; (rintro r os0 ⟨W, E, rfl, hr, hw1, hw2, he, hwb, he2⟩; try simp only [List.nil_append, List.cons_append, List.set_cons_zero, List.set_cons_succ, List.length_cons, List.length_nil, Nat.reduceAdd, AV.sh, AV.sh1, AV.sh0, AO.sh, List.map_cons, List.map_nil, Nat.zero_add, Nat.add_zero, setAll])) | (apply w_alst; iterate 2 exact rfl))
  rcases hr with rfl | rfl
  all_goals try simp only [List.nil_append, List.cons_append, List.set_cons_zero, List.set_cons_succ, List.length_cons, List.length_nil, Nat.reduceAdd, AV.sh, AV.sh1, AV.sh0, AO.sh, List.map_cons, List.map_nil, Nat.zero_add, Nat.add_zero, setAll]
  all_goals repeat' (first | (apply AOps.nil; try simp only [List.nil_append, List.cons_append, List.set_cons_zero, List.set_cons_succ, List.length_cons, List.length_nil, Nat.reduceAdd, AV.sh, AV.sh1, AV.sh0, AO.sh, List.map_cons, List.map_nil, Nat.zero_add, Nat.add_zero, setAll]) | (apply w_assign; exact rfl; exact rfl) | apply AWp.seq | apply AWp.region | apply AWp.block | (apply w_stst; iterate 5 exact rfl))
  · refine AWp.loopS (ι := Nat × List Int) (fun s => ⟨33, [(2, .optr 0 0), (3, .optr 1 0), (4, .optr 5 0), (5, .i s.1)]⟩) (fun s => [.bx 27 [.val (.slice none 0 0), .val (.slice none 0 0)], skO 64 bs (.ro (byR bs)), .sli 2 [8, 12, 30], .sli 2 s.2, .sls 24 2 E, .bx 27 [.own 3, .own 4]]) (fun s => s.1 ≤ W.length ∧ s.2.length = W.length ∧ WB 1001 s.2) (fun s => W.length - s.1) (0, W) ⟨Nat.zero_le _, rfl, hwb⟩ ⟨lee rfl (by (repeat (first | exact le_nil | refine le_eq rfl rfl ?_))), by (repeat (first | exact lo_nil | refine lo_eq rfl ?_)), rfl, rfl⟩ ?_
    rintro ⟨i, X⟩ ⟨i0, i1, i2⟩
    simp only at i0 i1 i2
    dsimp only
    by_cases hi : i < W.length
    · repeat' (first | (apply AOps.nil; try simp only [List.nil_append, List.cons_append, List.set_cons_zero, List.set_cons_succ, List.length_cons, List.length_nil, Nat.reduceAdd, AV.sh, AV.sh1, AV.sh0, AO.sh, List.map_cons, List.map_nil, Nat.zero_add, Nat.add_zero, setAll]) | ((apply AOps.splitP; exact rfl; exact rfl) <;> intro h) | (apply w_move; exact rfl; exact rfl) | apply AWp.seq | apply AWp.region | ((apply AWp.condP; exact rfl) <;> intro h) | (apply AWp.condF; exact rfl) | apply AWp.block | apply AWp.ret | apply AWp.exit | apply AWp.skip | (apply w_skip; exact rfl) | (apply w_pickT; exact rfl; exact rfl; exact rfl) | (apply w_pickF; exact rfl; exact rfl; exact rfl) | (apply w_len; exact rfl; exact rfl; first | exact .ints _ | exact .intss _ | exact .sli rfl | exact .sls rfl | exact .slr rfl | exact .orow rfl | exact .nil) | (apply w_callso (h12); exact rfl; exact rfl; exact rfl; exact rfl; (exact rdB_by _); (rintro _ ⟨z, rfl, hz⟩)) | omega | ((first | apply w_lss | apply w_eql | apply w_ld | apply w_fa); iterate 3 exact rfl) | (apply w_ldb; iterate 5 exact rfl) | (apply w_ldst; iterate 5 exact rfl) | (apply w_stst; iterate 5 exact rfl))
      · refine AWp.regionAI (ι := List Int) (fun Y => Y.length = W.length ∧ WB 1001 Y) (fun Y => ⟨33, [(2, .optr 0 0), (3, .optr 1 0), (4, .optr 5 0), (5, .i i)]⟩) (fun Y => [.bx 27 [.val (.slice none 0 0), .val (.slice none 0 0)], skO 64 bs (.ro (byR bs)), .sli 2 [8, 12, 30], .sli 2 Y, .sls 24 2 E, .bx 27 [.own 3, .own 4]]) (by kernel_rfl) rfl rfl ?_ ?_
        · repeat' (first | (apply AOps.nil; try simp only [List.nil_append, List.cons_append, List.set_cons_zero, List.set_cons_succ, List.length_cons, List.length_nil, Nat.reduceAdd, AV.sh, AV.sh1, AV.sh0, AO.sh, List.map_cons, List.map_nil, Nat.zero_add, Nat.add_zero, setAll]) | (apply w_move; exact rfl; exact rfl) | (apply w_callso (h100); exact rfl; exact rfl; exact rfl; exact rfl; (exact rdB_by _); (rintro _ ⟨t, rfl, ht⟩)) | omega | ((first | apply w_add | apply w_idx | apply w_ld | apply w_fa); iterate 3 exact rfl) | (apply w_idxo; exact rfl; exact rfl; (exact .sli rfl); exact rfl) | (apply w_ldb; iterate 5 exact rfl) | (apply w_sti; exact rfl; exact rfl; rotate_left 1; exact rfl; rotate_left 2) | apply AllOf.nil | (apply AllOf.cons; exact rfl) | (apply AAny.take; exact rfl; exact rfl; kernel_rfl; kernel_rfl) | (apply AAny.all; exact rfl) | (apply AAny.done; exact rfl) | (apply inI_of <;> omega))
          all_goals refine ⟨X.set i (-900 + t), ⟨by rw [List.length_set]; exact i1, i2.set (by omega)⟩, ?_⟩
          all_goals (apply Or.inl; refine ⟨lee rfl ?_, ?_, rfl, rfl⟩; (focus ((repeat (first | exact le_nil | refine le_eq rfl rfl ?_)); done)); (focus ((repeat (first | exact lo_nil | refine lo_eq rfl ?_)); done)))
        rintro Y ⟨y1, y2⟩
        repeat' (first | (apply AOps.nil; try simp only [List.nil_append, List.cons_append, List.set_cons_zero, List.set_cons_succ, List.length_cons, List.length_nil, Nat.reduceAdd, AV.sh, AV.sh1, AV.sh0, AO.sh, List.map_cons, List.map_nil, Nat.zero_add, Nat.add_zero, setAll]) | (apply w_move; exact rfl; exact rfl) | (apply w_assign; exact rfl; exact rfl) | apply AWp.region | ((apply w_add); iterate 3 exact rfl) | (apply inI_of <;> omega))
        refine ⟨(i + 1, Y), ⟨by simp only; omega, y1, y2⟩, by simp only; omega, ?_⟩
        (apply Or.inl; refine ⟨lee rfl ?_, ?_, rfl, rfl⟩; (focus ((repeat (first | exact le_nil | refine le_eq rfl rfl ?_)); done)); (focus ((repeat (first | exact lo_nil | refine lo_eq rfl ?_)); done)))
      · exact ⟨_, _, _, .c1 Try.results5 rfl rfl rfl, .oo (i := 3) (j := 4) rfl rfl trivial trivial (by decide), X, E, rfl, .inl rfl, by omega, by omega, by omega, i2, he2⟩
    · repeat' (first | (apply AOps.nil; try simp only [List.nil_append, List.cons_append, List.set_cons_zero, List.set_cons_succ, List.length_cons, List.length_nil, Nat.reduceAdd, AV.sh, AV.sh1, AV.sh0, AO.sh, List.map_cons, List.map_nil, Nat.zero_add, Nat.add_zero, setAll]) | ((apply AOps.splitP; exact rfl; exact rfl) <;> intro h) | (apply w_move; exact rfl; exact rfl) | apply AWp.seq | apply AWp.region | (apply AWp.condF; exact rfl) | apply AWp.ret | apply AWp.exit | (apply w_skip; exact rfl) | (apply w_pickF; exact rfl; exact rfl; exact rfl) | (apply w_len; exact rfl; exact rfl; first | exact .ints _ | exact .intss _ | exact .sli rfl | exact .sls rfl | exact .slr rfl | exact .orow rfl | exact .nil) | omega | ((first | apply w_lss | apply w_ld | apply w_fa); iterate 3 exact rfl) | (apply w_ldb; iterate 5 exact rfl) | (apply w_ldst; iterate 5 exact rfl) | (apply w_stst; iterate 5 exact rfl))
      exact ⟨_, _, _, .c1 Try.results5 rfl rfl rfl, .oo (i := 3) (j := 4) rfl rfl trivial trivial (by decide), X, E, rfl, .inl rfl, by omega, by omega, by omega, i2, he2⟩
  · refine AWp.loopS (ι := Nat × List Int) (fun s => ⟨33, [(2, .optr 0 0), (3, .optr 1 0), (4, .optr 5 0), (5, .i s.1)]⟩) (fun s => [.bx 27 [.val (.slice none 0 0), .val (.slice none 0 0)], skO 64 bs (.ro (byR bs)), .sli 2 [8, 12, 30], .sli 2 s.2, .sls 24 2 E, .bx 27 [.osub 3 1 (W.length - 1), .own 4]]) (fun s => s.1 ≤ W.length - 1 ∧ s.2.length = W.length ∧ WB 1001 s.2) (fun s => W.length - 1 - s.1) (0, W) ⟨Nat.zero_le _, rfl, hwb⟩ ⟨lee rfl (by (repeat (first | exact le_nil | refine le_eq rfl rfl ?_))), by (repeat (first | exact lo_nil | refine lo_eq rfl ?_)), rfl, rfl⟩ ?_
    rintro ⟨i, X⟩ ⟨i0, i1, i2⟩
    simp only at i0 i1 i2
    dsimp only
    by_cases hi : i < W.length - 1
    · repeat' (first | (apply AOps.nil; try simp only [List.nil_append, List.cons_append, List.set_cons_zero, List.set_cons_succ, List.length_cons, List.length_nil, Nat.reduceAdd, AV.sh, AV.sh1, AV.sh0, AO.sh, List.map_cons, List.map_nil, Nat.zero_add, Nat.add_zero, setAll]) | ((apply AOps.splitP; exact rfl; exact rfl) <;> intro h) | (apply w_move; exact rfl; exact rfl) | apply AWp.seq | apply AWp.region | ((apply AWp.condP; exact rfl) <;> intro h) | (apply AWp.condF; exact rfl) | apply AWp.block | apply AWp.ret | apply AWp.exit | apply AWp.skip | (apply w_skip; exact rfl) | (apply w_pickT; exact rfl; exact rfl; exact rfl) | (apply w_pickF; exact rfl; exact rfl; exact rfl) | ((apply w_lenos); iterate 2 exact rfl) | (apply w_callso (h12); exact rfl; exact rfl; exact rfl; exact rfl; (exact rdB_by _); (rintro _ ⟨z, rfl, hz⟩)) | omega | ((first | apply w_lss | apply w_eql | apply w_ld | apply w_fa); iterate 3 exact rfl) | (apply w_ldb; iterate 5 exact rfl) | (apply w_ldst; iterate 5 exact rfl) | (apply w_stst; iterate 5 exact rfl))
      · refine AWp.regionAI (ι := List Int) (fun Y => Y.length = W.length ∧ WB 1001 Y) (fun Y => ⟨33, [(2, .optr 0 0), (3, .optr 1 0), (4, .optr 5 0), (5, .i i)]⟩) (fun Y => [.bx 27 [.val (.slice none 0 0), .val (.slice none 0 0)], skO 64 bs (.ro (byR bs)), .sli 2 [8, 12, 30], .sli 2 Y, .sls 24 2 E, .bx 27 [.osub 3 1 (W.length - 1), .own 4]]) (by kernel_rfl) rfl rfl ?_ ?_
        · repeat' (first | (apply AOps.nil; try simp only [List.nil_append, List.cons_append, List.set_cons_zero, List.set_cons_succ, List.length_cons, List.length_nil, Nat.reduceAdd, AV.sh, AV.sh1, AV.sh0, AO.sh, List.map_cons, List.map_nil, Nat.zero_add, Nat.add_zero, setAll]) | (apply w_move; exact rfl; exact rfl) | (apply w_idxos; iterate 3 exact rfl) | (apply w_callso (h100); exact rfl; exact rfl; exact rfl; exact rfl; (exact rdB_by _); (rintro _ ⟨t, rfl, ht⟩)) | omega | ((first | apply w_add | apply w_ld | apply w_fa); iterate 3 exact rfl) | (apply w_ldb; iterate 5 exact rfl) | (apply w_sti; exact rfl; exact rfl; rotate_left 1; exact rfl; rotate_left 2) | apply AllOf.nil | (apply AllOf.cons; exact rfl) | (apply AAny.take; exact rfl; exact rfl; kernel_rfl; kernel_rfl) | (apply AAny.all; exact rfl) | (apply AAny.done; exact rfl) | (apply inI_of <;> omega))
          all_goals refine ⟨X.set (1 + i) (-900 + t), ⟨by rw [List.length_set]; exact i1, i2.set (by omega)⟩, ?_⟩
          all_goals (apply Or.inl; refine ⟨lee rfl ?_, ?_, rfl, rfl⟩; (focus ((repeat (first | exact le_nil | refine le_eq rfl rfl ?_)); done)); (focus ((repeat (first | exact lo_nil | refine lo_eq rfl ?_)); done)))
        rintro Y ⟨y1, y2⟩
        repeat' (first | (apply AOps.nil; try simp only [List.nil_append, List.cons_append, List.set_cons_zero, List.set_cons_succ, List.length_cons, List.length_nil, Nat.reduceAdd, AV.sh, AV.sh1, AV.sh0, AO.sh, List.map_cons, List.map_nil, Nat.zero_add, Nat.add_zero, setAll]) | (apply w_move; exact rfl; exact rfl) | (apply w_assign; exact rfl; exact rfl) | apply AWp.region | ((apply w_add); iterate 3 exact rfl) | (apply inI_of <;> omega))
        refine ⟨(i + 1, Y), ⟨by simp only; omega, y1, y2⟩, by simp only; omega, ?_⟩
        (apply Or.inl; refine ⟨lee rfl ?_, ?_, rfl, rfl⟩; (focus ((repeat (first | exact le_nil | refine le_eq rfl rfl ?_)); done)); (focus ((repeat (first | exact lo_nil | refine lo_eq rfl ?_)); done)))
      · refine ⟨_, _, _, .c1 Try.results5 rfl rfl rfl, .so (i := 3) (j := 4) rfl rfl trivial trivial (by decide), X, E, rfl, .inr ?_, by omega, by omega, by omega, i2, he2⟩; rw [i1]
    · repeat' (first | (apply AOps.nil; try simp only [List.nil_append, List.cons_append, List.set_cons_zero, List.set_cons_succ, List.length_cons, List.length_nil, Nat.reduceAdd, AV.sh, AV.sh1, AV.sh0, AO.sh, List.map_cons, List.map_nil, Nat.zero_add, Nat.add_zero, setAll]) | ((apply AOps.splitP; exact rfl; exact rfl) <;> intro h) | (apply w_move; exact rfl; exact rfl) | apply AWp.seq | apply AWp.region | (apply AWp.condF; exact rfl) | apply AWp.ret | apply AWp.exit | (apply w_skip; exact rfl) | (apply w_pickF; exact rfl; exact rfl; exact rfl) | ((apply w_lenos); iterate 2 exact rfl) | omega | ((first | apply w_lss | apply w_ld | apply w_fa); iterate 3 exact rfl) | (apply w_ldb; iterate 5 exact rfl) | (apply w_ldst; iterate 5 exact rfl) | (apply w_stst; iterate 5 exact rfl))
      refine ⟨_, _, _, .c1 Try.results5 rfl rfl rfl, .so (i := 3) (j := 4) rfl rfl trivial trivial (by decide), X, E, rfl, .inr ?_, by omega, by omega, by omega, i2, he2⟩; rw [i1]
end Go.Proofs.Ythjkpmjdkcainaa
/-
  Edges of forests: every edge can be cut; neighbours. No condition.
-/
namespace Go.Proofs.Ythjkpmjdkcainaa
open Go Go.RowKit

/-- One label in the place of another. -/
def mgL (L : List Int) (a b : Int) : List Int := L.map fun x => if x = b then a else x
theorem mgL_len (L : List Int) (a b : Int) : (mgL L a b).length = L.length := by simp [mgL]
theorem mgL_get {L : List Int} {a b x : Int} (h0 : 0 ≤ x) (h1 : x < L.length) : geti (mgL L a b) x = if geti L x = b then a else geti L x := by
  have hx : x.toNat < L.length := by omega
  simp only [geti, mgL, List.getD_eq_getElem?_getD, List.getElem?_map, List.getElem?_eq_getElem hx, Option.map_some, Option.getD_some]
/-- All edges join two components, one after the other. -/
def effL : List Int → List (List Int) → Prop
  | _, [] => True
  | L, e :: E => geti L (geti e 0) ≠ geti L (geti e 1) ∧ effL (mgL L (geti L (geti e 0)) (geti L (geti e 1))) E

def EIn (n : Nat) (e : List Int) : Prop := e.length = 2 ∧ 0 ≤ geti e 0 ∧ geti e 0 < geti e 1 ∧ geti e 1 < n
def lx (a b : List Int) : Prop := geti a 0 < geti b 0 ∨ (geti a 0 = geti b 0 ∧ geti a 1 < geti b 1)
theorem lx_tr {a b c : List Int} (h1 : lx a b) (h2 : lx b c) : lx a c := by unfold lx at *; omega
theorem e2 {e : List Int} (h : e.length = 2) : e = [geti e 0, geti e 1] := by
  match e, h with
  | [x, y], _ => rfl

/-- What is known of the edges seen so far and their labels. -/
structure CutI (n : Nat) (L : List Int) (A : List (List Int)) : Prop where
  len : L.length = n
  same : ∀ e ∈ A, geti L (geti e 0) = geti L (geti e 1)
  cut : ∀ e ∈ A, ∃ c : Int → Bool, c (geti e 0) ≠ c (geti e 1) ∧ ∀ f ∈ A, f ≠ e → c (geti f 0) = c (geti f 1)
theorem CutI.step {n : Nat} {L : List Int} {A : List (List Int)} {e : List Int} (h : CutI n L A) (hA : ∀ f ∈ A, EIn n f) (he : EIn n e) (hne : geti L (geti e 0) ≠ geti L (geti e 1)) :
    CutI n (mgL L (geti L (geti e 0)) (geti L (geti e 1))) (A ++ [e]) := by
  have hl := h.len
  obtain ⟨e1, e2, e3, e4⟩ := he
  refine ⟨by rw [mgL_len]; exact hl, fun f hf => ?_, fun f hf => ?_⟩
  · rcases List.mem_append.1 hf with hf | hf
    · obtain ⟨f1, f2, f3, f4⟩ := hA f hf
      rw [mgL_get f2 (by omega), mgL_get (by omega) (by omega), h.same f hf]
    · rw [List.mem_singleton.1 hf, mgL_get e2 (by omega), mgL_get (by omega) (by omega), if_neg hne, if_pos rfl]
  · have hfe : ∀ f ∈ A, f ≠ e := fun f hf hh => hne (by rw [← hh]; exact h.same f hf)
    rcases List.mem_append.1 hf with hf | hf
    · obtain ⟨c, c1, c2⟩ := h.cut f hf
      by_cases hc : c (geti e 0) = c (geti e 1)
      · refine ⟨c, c1, fun g hg hgf => ?_⟩
        rcases List.mem_append.1 hg with hg | hg
        · exact c2 g hg hgf
        · rw [List.mem_singleton.1 hg]; exact hc
      · refine ⟨fun x => (c x).xor (decide (geti L x = geti L (geti e 1))), ?_, fun g hg hgf => ?_⟩
        · simp only [h.same f hf]
          intro hh
          exact c1 (Bool.xor_left_inj.1 hh)
        · rcases List.mem_append.1 hg with hg | hg
          · simp only [h.same g hg, c2 g hg hgf]
          · rw [List.mem_singleton.1 hg]
            simp only [decide_true, decide_eq_false hne]
            cases h0 : c (geti e 0) <;> cases h1 : c (geti e 1) <;> simp_all
    · rw [List.mem_singleton.1 hf]
      refine ⟨fun x => decide (geti L x = geti L (geti e 1)), ?_, fun g hg hgf => ?_⟩
      · simp only [decide_true, decide_eq_false hne]; simp
      · rcases List.mem_append.1 hg with hg | hg
        · simp only [h.same g hg]
        · exact absurd (List.mem_singleton.1 hg) hgf
theorem cut_run {n : Nat} : ∀ {E A : List (List Int)} {L : List Int}, CutI n L A → (∀ f ∈ A, EIn n f) → (∀ f ∈ E, EIn n f) → effL L E → ∃ L', CutI n L' (A ++ E)
  | [], A, L, h, _, _, _ => ⟨L, by rw [List.append_nil]; exact h⟩
  | e :: E, A, L, h, hA, hE, hf => by
    have := cut_run (E := E) (h.step hA (hE e (by simp)) hf.1) (fun f hf' => by
      rcases List.mem_append.1 hf' with hf' | hf'
      · exact hA f hf'
      · rw [List.mem_singleton.1 hf']; exact hE e (by simp)) (fun f hf' => hE f (by simp [hf'])) hf.2
    rwa [List.append_assoc] at this

/-! ### Neighbours -/
def nearL (E : List (List Int)) (v : Int) : List Int := (E.filter fun e => decide (geti e 1 = v)).map (fun e => geti e 0) ++ (E.filter fun e => decide (geti e 0 = v)).map (fun e => geti e 1)
theorem near_mem {E : List (List Int)} (hE : ∀ e ∈ E, e.length = 2) {u v : Int} : u ∈ nearL E v ↔ [u, v] ∈ E ∨ [v, u] ∈ E := by
  unfold nearL
  rw [List.mem_append, List.mem_map, List.mem_map]
  constructor
  · rintro (⟨e, he, rfl⟩ | ⟨e, he, rfl⟩)
    · obtain ⟨h1, h2⟩ := List.mem_filter.1 he
      have h2 := of_decide_eq_true h2
      left; rw [← h2, ← e2 (hE e h1)]; exact h1
    · obtain ⟨h1, h2⟩ := List.mem_filter.1 he
      have h2 := of_decide_eq_true h2
      right; rw [← h2, ← e2 (hE e h1)]; exact h1
  · rintro (h | h)
    · exact .inl ⟨_, List.mem_filter.2 ⟨h, decide_eq_true rfl⟩, rfl⟩
    · exact .inr ⟨_, List.mem_filter.2 ⟨h, decide_eq_true rfl⟩, rfl⟩
/-- The neighbours as they stand in the list of edges. -/
def nearE (E : List (List Int)) (v : Int) : List Int := E.flatMap fun e => (if geti e 0 = v then [geti e 1] else []) ++ (if geti e 1 = v then [geti e 0] else [])
theorem nearE_eq {n : Nat} : ∀ {E : List (List Int)}, (∀ e ∈ E, EIn n e) → E.Pairwise lx → ∀ v, nearE E v = nearL E v
  | [], _, _, v => rfl
  | e :: E, hE, hp, v => by
    obtain ⟨h1, h2⟩ := List.pairwise_cons.1 hp
    have ih := nearE_eq (fun f hf => hE f (by simp [hf])) h2 v
    obtain ⟨e1, e2, e3, e4⟩ := hE e (by simp)
    have es : nearE (e :: E) v = ((if geti e 0 = v then [geti e 1] else []) ++ (if geti e 1 = v then [geti e 0] else [])) ++ nearE E v := by simp [nearE]
    rw [es, ih]
    unfold nearL
    by_cases ha : geti e 0 = v
    · have hb : ¬ geti e 1 = v := by omega
      rw [if_pos ha, if_neg hb, List.filter_cons_of_neg (by simp [hb]), List.filter_cons_of_pos (by simp [ha])]
      have hnil : (E.filter fun e => decide (geti e 1 = v)) = [] := by
        rw [List.filter_eq_nil_iff]
        intro f hf
        have h3 := h1 f hf
        have h4 := hE f (by simp [hf])
        unfold lx at h3
        unfold EIn at h4
        simp only [decide_eq_true_eq]; omega
      rw [hnil]; simp
    · by_cases hb : geti e 1 = v
      · rw [if_neg ha, if_pos hb, List.filter_cons_of_pos (by simp [hb]), List.filter_cons_of_neg (by simp [ha])]; simp
      · rw [if_neg ha, if_neg hb, List.filter_cons_of_neg (by simp [hb]), List.filter_cons_of_neg (by simp [ha])]; simp
theorem near_sorted {n : Nat} {E : List (List Int)} (hE : ∀ e ∈ E, EIn n e) (hp : E.Pairwise lx) (v : Int) : (nearL E v).Pairwise (· < ·) := by
  unfold nearL
  rw [List.pairwise_append, List.pairwise_map, List.pairwise_map]
  refine ⟨?_, ?_, ?_⟩
  · refine List.Pairwise.imp_of_mem ?_ (hp.sublist List.filter_sublist)
    intro a b ha hb h
    have h1 := of_decide_eq_true (List.mem_filter.1 ha).2
    have h2 := of_decide_eq_true (List.mem_filter.1 hb).2
    unfold lx at h; omega
  · refine List.Pairwise.imp_of_mem ?_ (hp.sublist List.filter_sublist)
    intro a b ha hb h
    have h1 := of_decide_eq_true (List.mem_filter.1 ha).2
    have h2 := of_decide_eq_true (List.mem_filter.1 hb).2
    unfold lx at h; omega
  · intro x hx y hy
    obtain ⟨a, ha, rfl⟩ := List.mem_map.1 hx
    obtain ⟨b, hb, rfl⟩ := List.mem_map.1 hy
    obtain ⟨ha, h1⟩ := List.mem_filter.1 ha
    obtain ⟨hb, h2⟩ := List.mem_filter.1 hb
    have h1 := of_decide_eq_true h1
    have h2 := of_decide_eq_true h2
    have ia := hE a ha
    have ib := hE b hb
    unfold EIn at ia ib; omega

/-- Neighbours in a forest with n vertices. -/
structure Fst (n : Nat) (near : Int → List Int) : Prop where
  bnd : ∀ v u, u ∈ near v → (0 ≤ u ∧ u < n) ∧ (0 ≤ v ∧ v < n) ∧ u ≠ v
  sym : ∀ v u, u ∈ near v → v ∈ near u
  srt : ∀ v, (near v).Pairwise (· < ·)
  cut : ∀ v u, u ∈ near v → ∃ c : Int → Bool, c u ≠ c v ∧ ∀ x y, y ∈ near x → ¬ ((x = u ∧ y = v) ∨ (x = v ∧ y = u)) → c x = c y
theorem Fst.nd {n : Nat} {near : Int → List Int} (h : Fst n near) (v : Int) : (near v).Nodup := (h.srt v).imp fun h => Int.ne_of_lt h
/-- The edges of a forest. -/
structure FoE (n : Nat) (E : List (List Int)) : Prop where
  row : ∀ e ∈ E, EIn n e
  srt : E.Pairwise lx
  cut : ∀ e ∈ E, ∃ c : Int → Bool, c (geti e 0) ≠ c (geti e 1) ∧ ∀ f ∈ E, f ≠ e → c (geti f 0) = c (geti f 1)
theorem FoE.fst {n : Nat} {E : List (List Int)} (h : FoE n E) : Fst n (nearL E) := by
  have hl : ∀ e ∈ E, e.length = 2 := fun e he => (h.row e he).1
  refine ⟨fun v u hu => ?_, fun v u hu => ?_, near_sorted h.row h.srt, fun v u hu => ?_⟩
  · rcases (near_mem hl).1 hu with hu | hu
    · have := h.row _ hu
      unfold EIn at this
      simp only [geti] at this
      simp at this; omega
    · have := h.row _ hu
      unfold EIn at this
      simp only [geti] at this
      simp at this; omega
  · exact (near_mem hl).2 ((near_mem hl).1 hu).symm
  · have key : ∀ a b, [a, b] ∈ E → ∃ c : Int → Bool, c a ≠ c b ∧ ∀ x y, y ∈ nearL E x → ¬ ((x = a ∧ y = b) ∨ (x = b ∧ y = a)) → c x = c y := by
      intro a b hab
      obtain ⟨c, c1, c2⟩ := h.cut _ hab
      refine ⟨c, c1, fun x y hy hn => ?_⟩
      rcases (near_mem hl).1 hy with hy | hy
      · exact (c2 [y, x] hy (fun e => hn (by simp at e; omega))).symm
      · exact c2 [x, y] hy (fun e => hn (by simp at e; omega))
    rcases (near_mem hl).1 hu with hu | hu
    · exact key u v hu
    · obtain ⟨c, c1, c2⟩ := key v u hu
      exact ⟨c, fun e => c1 e.symm, fun x y hy hn => c2 x y hy fun hh => hn (by omega)⟩
theorem foE_of {n : Nat} {E : List (List Int)} (hE : ∀ e ∈ E, EIn n e) (hp : E.Pairwise lx) (hf : effL ((List.range n).map fun (i : Nat) => (i : Int)) E) : FoE n E := by
  obtain ⟨L', h⟩ := cut_run (A := []) ⟨by simp, by simp, by simp⟩ (by simp) hE hf
  rw [List.nil_append] at h
  exact ⟨hE, hp, h.cut⟩
end Go.Proofs.Ythjkpmjdkcainaa
/-
  Rooted trees in a forest: the order in which they are found, and the parents. No condition.
-/
namespace Go.Proofs.Ythjkpmjdkcainaa
open Go Go.RowKit

theorem nd_len {n : Nat} : ∀ {l : List Int}, l.Nodup → (∀ x ∈ l, 0 ≤ x ∧ x < n) → l.length ≤ n := by
  induction n with
  | zero => intro l _ h; cases l with
    | nil => simp
    | cons a l => have := h a (by simp); omega
  | succ n ih =>
    intro l hn h
    have h1 : (l.filter fun x => decide (x ≠ (n : Int))).length ≤ n := ih (hn.sublist List.filter_sublist) fun x hx => by
      obtain ⟨hx, h2⟩ := List.mem_filter.1 hx
      have h2 := of_decide_eq_true h2
      have := h x hx; omega
    have h2 : l.length ≤ (l.filter fun x => decide (x ≠ (n : Int))).length + 1 := by
      clear h1 h ih
      induction l with
      | nil => simp
      | cons a l ih =>
        obtain ⟨h1, h2⟩ := List.nodup_cons.1 hn
        by_cases ha : a = (n : Int)
        · subst ha
          have : (l.filter fun x => decide (x ≠ (n : Int))) = l := List.filter_eq_self.2 fun x hx => decide_eq_true fun e => h1 (e ▸ hx)
          rw [List.filter_cons_of_neg (by simp), this]; simp
        · rw [List.filter_cons_of_pos (by simpa using ha)]
          have := ih h2
          simp only [List.length_cons]; omega
    omega
theorem nd_get {l : List Int} (h : l.Nodup) {i j : Nat} {x : Int} (hi : l[i]? = some x) (hj : l[j]? = some x) : i = j :=
  (List.getElem?_inj (List.getElem?_eq_some_iff.1 hi).1 h).1 (hi.trans hj.symm)

section
variable {n : Nat} {near : Int → List Int} {r : Int}

/-- While the neighbours of the vertex v at place i are looked at: dn have been. -/
structure InvK (n : Nat) (near : Int → List Int) (r : Int) (i : Nat) (v : Int) (dn : List Int) (o p : List Int) : Prop where
  nd : o.Nodup
  rng : ∀ x ∈ o, 0 ≤ x ∧ x < n
  root : o[0]? = some r
  at_ : o[i]? = some v
  len : p.length = n
  pr : geti p r = -1
  par : ∀ (j : Nat) x, o[j]? = some x → x ≠ r → (∃ m y, m < i ∧ m < j ∧ o[m]? = some y ∧ geti p x = y ∧ x ∈ near y) ∨ (i < j ∧ x ∈ dn ∧ geti p x = v)
  cl : ∀ (m : Nat) y, m < i → o[m]? = some y → ∀ u ∈ near y, u ≠ geti p y → u ∈ o ∧ u ≠ r ∧ geti p u = y
  dn_ : ∀ u ∈ dn, u ≠ geti p v → u ∈ o ∧ u ≠ r ∧ geti p u = v
structure Inv (n : Nat) (near : Int → List Int) (r : Int) (i : Nat) (o p : List Int) : Prop where
  nd : o.Nodup
  rng : ∀ x ∈ o, 0 ≤ x ∧ x < n
  root : o[0]? = some r
  le : i ≤ o.length
  len : p.length = n
  pr : geti p r = -1
  par : ∀ (j : Nat) x, o[j]? = some x → x ≠ r → ∃ m y, m < i ∧ m < j ∧ o[m]? = some y ∧ geti p x = y ∧ x ∈ near y
  cl : ∀ (m : Nat) y, m < i → o[m]? = some y → ∀ u ∈ near y, u ≠ geti p y → u ∈ o ∧ u ≠ r ∧ geti p u = y
theorem Inv.bd {i : Nat} {o p : List Int} (h : Inv n near r i o p) : o.length ≤ n := nd_len h.nd h.rng
theorem InvK.bd {i : Nat} {v : Int} {dn o p : List Int} (h : InvK n near r i v dn o p) : o.length ≤ n := nd_len h.nd h.rng
theorem Inv.start (hr : 0 ≤ r ∧ r < n) : Inv n near r 0 [r] (List.replicate n (-1)) := by
  refine ⟨by simp, by simpa using hr, rfl, by simp, by simp, ?_, ?_, fun m y h => by omega⟩
  · have : r.toNat < n := by omega
    simp [geti, this]
  · intro j x hj hx
    match j with
    | 0 => simp at hj; exact absurd hj.symm hx
    | j + 1 => simp at hj
theorem Inv.into {i : Nat} {o p : List Int} {v : Int} (h : Inv n near r i o p) (hv : o[i]? = some v) : InvK n near r i v [] o p :=
  ⟨h.nd, h.rng, h.root, hv, h.len, h.pr, fun j x hj hx => .inl (h.par j x hj hx), h.cl, fun u hu => by cases hu⟩
theorem InvK.out {i : Nat} {o p : List Int} {v : Int} (h : InvK n near r i v (near v) o p) : Inv n near r (i + 1) o p := by
  refine ⟨h.nd, h.rng, h.root, ?_, h.len, h.pr, fun j x hj hx => ?_, fun m y hm hy => ?_⟩
  · have := (List.getElem?_eq_some_iff.1 h.at_).1; omega
  · rcases h.par j x hj hx with ⟨m, y, h1, h2, h3, h4, h5⟩ | ⟨h1, h2, h3⟩
    · exact ⟨m, y, by omega, h2, h3, h4, h5⟩
    · exact ⟨i, v, by omega, h1, h.at_, h3, h2⟩
  · by_cases e : m = i
    · subst e
      have : y = v := by have := h.at_; rw [hy] at this; exact Option.some.inj this
      subst this
      exact h.dn_
    · exact h.cl m y (by omega) hy
/-- The parent is passed over. -/
theorem InvK.skip {i : Nat} {o p dn : List Int} {v u : Int} (h : InvK n near r i v dn o p) (hu : u = geti p v) : InvK n near r i v (dn ++ [u]) o p :=
  ⟨h.nd, h.rng, h.root, h.at_, h.len, h.pr, fun j x hj hx => (h.par j x hj hx).imp id fun ⟨h1, h2, h3⟩ => ⟨h1, List.mem_append.2 (.inl h2), h3⟩, h.cl, fun x hx hne => by
    rcases List.mem_append.1 hx with hx | hx
    · exact h.dn_ x hx hne
    · exact absurd ((List.mem_singleton.1 hx).trans hu) hne⟩
/-- A neighbour that is not the parent is new. -/
theorem InvK.new (hF : Fst n near) {i : Nat} {o p dn : List Int} {v u : Int} (h : InvK n near r i v dn o p) (hdn : ∀ x ∈ dn, x ∈ near v) (hu : u ∈ near v) (hud : u ∉ dn) (hup : u ≠ geti p v) : u ∉ o := by
  intro huo
  obtain ⟨c, c1, c2⟩ := hF.cut v u hu
  obtain ⟨⟨u0, u1⟩, ⟨v0, v1⟩, huv⟩ := hF.bnd v u hu
  have key : ∀ (k j : Nat) x, j < k → o[j]? = some x → c x = c r := by
    intro k
    induction k with
    | zero => intro j x hj; omega
    | succ k ih =>
      intro j x hj hx
      by_cases hxr : x = r
      · rw [hxr]
      · rcases h.par j x hx hxr with ⟨m, y, h1, h2, h3, h4, h5⟩ | ⟨h1, h2, h3⟩
        · have hy := ih m y (by omega) h3
          rw [← hy]
          refine (c2 y x h5 ?_).symm
          rintro (⟨e1, e2⟩ | ⟨e1, e2⟩)
          · subst e2; exact hup (by rw [h4]; exact e1.symm)
          · have hmi := nd_get h.nd h3 (by rw [e1]; exact h.at_); omega
        · have hv := ih i v (by omega) h.at_
          rw [← hv]
          refine (c2 v x (hdn x h2) ?_).symm
          rintro (⟨e1, e2⟩ | ⟨e1, e2⟩)
          · exact huv e1.symm
          · exact hud (e2 ▸ h2)
  obtain ⟨j, hj⟩ := List.getElem?_of_mem huo
  exact c1 ((key (j + 1) j u (by omega) hj).trans (key (i + 1) i v (by omega) h.at_).symm)
theorem geti_st {p : List Int} {u v x : Int} (hu : 0 ≤ u) (hx : 0 ≤ x) (hl : u < p.length) : geti (p.set u.toNat v) x = if x = u then v else geti p x := by
  simp only [geti, List.getD_eq_getElem?_getD, List.getElem?_set]
  by_cases e : x = u
  · subst e; rw [if_pos rfl, if_pos (by omega), if_pos rfl]; rfl
  · rw [if_neg (by omega), if_neg e]
theorem InvK.push (hF : Fst n near) {i : Nat} {o p dn : List Int} {v u : Int} (h : InvK n near r i v dn o p) (hdn : ∀ x ∈ dn, x ∈ near v) (hu : u ∈ near v) (hud : u ∉ dn) (hup : u ≠ geti p v) :
    InvK n near r i v (dn ++ [u]) (o ++ [u]) (p.set u.toNat v) := by
  have hnew := h.new hF hdn hu hud hup
  obtain ⟨⟨u0, u1⟩, ⟨v0, v1⟩, huv⟩ := hF.bnd v u hu
  have hrm : r ∈ o := List.mem_of_getElem? h.root
  have hvm : v ∈ o := List.mem_of_getElem? h.at_
  have hr := h.rng r hrm
  have hg : ∀ x ∈ o, geti (p.set u.toNat v) x = geti p x := fun x hx => by
    rw [geti_st u0 (h.rng x hx).1 (by rw [h.len]; exact u1), if_neg (show ¬ x = u from fun e => hnew (e ▸ hx))]
  have hgu : geti (p.set u.toNat v) u = v := by rw [geti_st u0 u0 (by rw [h.len]; exact u1), if_pos rfl]
  have hget : ∀ (j : Nat) x, o[j]? = some x → (o ++ [u])[j]? = some x := fun j x hj => by
    rw [List.getElem?_append_left (List.getElem?_eq_some_iff.1 hj).1]; exact hj
  refine ⟨?_, ?_, hget _ _ h.root, hget _ _ h.at_, by rw [List.length_set]; exact h.len, by rw [hg r hrm]; exact h.pr, ?_, ?_, ?_⟩
  · rw [List.nodup_append]
    exact ⟨h.nd, by simp, fun a ha b hb e => hnew (by rw [List.mem_singleton.1 hb] at e; exact e ▸ ha)⟩
  · intro x hx
    rcases List.mem_append.1 hx with hx | hx
    · exact h.rng x hx
    · rw [List.mem_singleton.1 hx]; exact ⟨u0, u1⟩
  · intro j x hj hx
    by_cases hlt : j < o.length
    · rw [List.getElem?_append_left hlt] at hj
      have hxo := List.mem_of_getElem? hj
      rw [hg x hxo]
      rcases h.par j x hj hx with ⟨m, y, h1, h2, h3, h4, h5⟩ | ⟨h1, h2, h3⟩
      · exact .inl ⟨m, y, h1, h2, hget _ _ h3, h4, h5⟩
      · exact .inr ⟨h1, List.mem_append.2 (.inl h2), h3⟩
    · rw [List.getElem?_append_right (by omega)] at hj
      have : j - o.length = 0 := by
        cases hz : j - o.length with
        | zero => rfl
        | succ k => rw [hz] at hj; simp at hj
      rw [this] at hj
      have hxu : x = u := by simpa using hj.symm
      subst hxu
      have := (List.getElem?_eq_some_iff.1 h.at_).1
      exact .inr ⟨by omega, List.mem_append.2 (.inr (by simp)), hgu⟩
  · intro m y hm hy w hw hne
    have hml : m < o.length := by have := (List.getElem?_eq_some_iff.1 h.at_).1; omega
    rw [List.getElem?_append_left hml] at hy
    rw [hg y (List.mem_of_getElem? hy)] at hne
    obtain ⟨h1, h2, h3⟩ := h.cl m y hm hy w hw hne
    exact ⟨List.mem_append.2 (.inl h1), h2, by rw [hg w h1]; exact h3⟩
  · intro w hw hne
    rw [hg v hvm] at hne
    rcases List.mem_append.1 hw with hw | hw
    · obtain ⟨h1, h2, h3⟩ := h.dn_ w hw hne
      exact ⟨List.mem_append.2 (.inl h1), h2, by rw [hg w h1]; exact h3⟩
    · rw [List.mem_singleton.1 hw]
      exact ⟨List.mem_append.2 (.inr (by simp)), fun e => hnew (e ▸ hrm), hgu⟩

/-- The tree of a root. -/
abbrev Tr (n : Nat) (near : Int → List Int) (r : Int) (o p : List Int) : Prop := Inv n near r o.length o p
theorem Tr.par {o p : List Int} (h : Tr n near r o p) {j : Nat} {x : Int} (hj : o[j]? = some x) (hx : x ≠ r) : ∃ m y, m < j ∧ o[m]? = some y ∧ geti p x = y ∧ x ∈ near y := by
  obtain ⟨m, y, _, h2, h3, h4, h5⟩ := Inv.par h j x hj hx
  exact ⟨m, y, h2, h3, h4, h5⟩
theorem Tr.ch {o p : List Int} (h : Tr n near r o p) {y : Int} (hy : y ∈ o) {u : Int} (hu : u ∈ near y) (hne : u ≠ geti p y) : u ∈ o ∧ u ≠ r ∧ geti p u = y := by
  obtain ⟨m, hm⟩ := List.getElem?_of_mem hy
  exact h.cl m y (List.getElem?_eq_some_iff.1 hm).1 hm u hu hne
theorem Tr.rt {o p : List Int} (h : Tr n near r o p) : r ∈ o := List.mem_of_getElem? h.root
/-- A rank: parents come first. -/
theorem Tr.rank {o p : List Int} (h : Tr n near r o p) : ∃ k : Int → Nat, (∀ x ∈ o, k x < n) ∧ ∀ x ∈ o, x ≠ r → geti p x ∈ o ∧ k (geti p x) < k x ∧ x ∈ near (geti p x) := by
  have hget : ∀ x ∈ o, ∃ j : Nat, o[j]? = some x := fun x hx => List.getElem?_of_mem hx
  refine ⟨fun x => if hx : x ∈ o then Classical.choose (hget x hx) else 0, fun x hx => ?_, fun x hx hxr => ?_⟩
  · have h1 := Classical.choose_spec (hget x hx)
    have := (List.getElem?_eq_some_iff.1 h1).1
    have := h.bd
    simp only [dif_pos hx]; omega
  · have h1 := Classical.choose_spec (hget x hx)
    obtain ⟨m, y, h2, h3, h4, h5⟩ := h.par h1 hxr
    have hy : geti p x ∈ o := by rw [h4]; exact List.mem_of_getElem? h3
    have h6 := Classical.choose_spec (hget _ hy)
    refine ⟨hy, ?_, by rw [h4]; exact h5⟩
    simp only [dif_pos hx, dif_pos hy]
    have := nd_get h.nd h6 (by rw [h4]; exact h3)
    omega
/-- One root has one tree. -/
theorem Tr.sub {o p o' p' : List Int} (h : Tr n near r o p) (h' : Tr n near r o' p') : ∀ x ∈ o, x ∈ o' ∧ geti p x = geti p' x := by
  obtain ⟨k, k1, k2⟩ := h.rank
  have key : ∀ (m : Nat) x, x ∈ o → k x < m → x ∈ o' ∧ geti p x = geti p' x := by
    intro m
    induction m with
    | zero => intro x _ hx; omega
    | succ m ih =>
      intro x hx hm
      by_cases hxr : x = r
      · subst hxr; exact ⟨h'.rt, h.pr.trans h'.pr.symm⟩
      · obtain ⟨h1, h2, h3⟩ := k2 x hx hxr
        obtain ⟨h4, h5⟩ := ih _ h1 (by omega)
        have hne : x ≠ geti p' (geti p x) := by
          rw [← h5]
          intro e
          by_cases hyr : geti p x = r
          · rw [hyr, h.pr] at e
            have := h.rng x hx; omega
          · have := (k2 _ h1 hyr).2.1
            rw [← e] at this; omega
        obtain ⟨h6, h7, h8⟩ := h'.ch h4 h3 hne
        exact ⟨h6, h8.symm⟩
  exact fun x hx => key (k x + 1) x hx (by omega)
theorem Tr.iff {o p o' p' : List Int} (h : Tr n near r o p) (h' : Tr n near r o' p') (x : Int) : x ∈ o ↔ x ∈ o' := ⟨fun hx => (h.sub h' x hx).1, fun hx => (h'.sub h x hx).1⟩
/-- Trees are closed. -/
theorem Tr.closed {o p : List Int} (h : Tr n near r o p) (hF : Fst n near) {y u : Int} (hy : y ∈ o) (hu : u ∈ near y) : u ∈ o := by
  by_cases e : u = geti p y
  · by_cases hyr : y = r
    · rw [hyr, h.pr] at e
      have := (hF.bnd y u hu).1; omega
    · obtain ⟨k, _, k2⟩ := h.rank
      rw [e]; exact (k2 y hy hyr).1
  · exact (h.ch hy hu e).1
/-- A tree whose root does not lie in another one has no vertex in common with it. -/
theorem Tr.disj {r' : Int} {o p o' p' : List Int} (h : Tr n near r o p) (h' : Tr n near r' o' p') (hF : Fst n near) (hn : r' ∉ o) : ∀ x ∈ o', x ∉ o := by
  obtain ⟨k, k1, k2⟩ := h'.rank
  have key : ∀ (m : Nat) x, x ∈ o' → k x < m → x ∉ o := by
    intro m
    induction m with
    | zero => intro x _ hx; omega
    | succ m ih =>
      intro x hx hm hxo
      by_cases hxr : x = r'
      · exact hn (hxr ▸ hxo)
      · obtain ⟨h1, h2, h3⟩ := k2 x hx hxr
        exact ih _ h1 (by omega) (h.closed hF hxo (hF.sym _ _ h3))
  exact fun x hx => key (k x + 1) x hx (by omega)

/-! ### Every vertex has its tree -/
theorem scan_ex (hF : Fst n near) {i : Nat} {v : Int} : ∀ (rest dn o p : List Int), near v = dn ++ rest → InvK n near r i v dn o p → ∃ o' p', InvK n near r i v (near v) o' p'
  | [], dn, o, p, e, h => by rw [List.append_nil] at e; exact ⟨o, p, by rw [e]; exact h⟩
  | u :: rest, dn, o, p, e, h => by
    have hdn : ∀ x ∈ dn, x ∈ near v := fun x hx => by rw [e]; simp [hx]
    have hu : u ∈ near v := by rw [e]; simp
    have hnd := hF.nd v
    rw [e] at hnd
    have hud : u ∉ dn := fun hx => (List.nodup_append.1 hnd).2.2 u hx u (by simp) rfl
    have e' : near v = (dn ++ [u]) ++ rest := by rw [e]; simp
    by_cases hup : u = geti p v
    · exact scan_ex hF rest _ o p e' (h.skip hup)
    · exact scan_ex hF rest _ _ _ e' (h.push hF hdn hu hud hup)
theorem tree_from (hF : Fst n near) : ∀ (m i : Nat) (o p : List Int), n - i ≤ m → Inv n near r i o p → ∃ o' p', Tr n near r o' p'
  | m, i, o, p, hm, h => by
    have hb := h.bd
    have hle := h.le
    by_cases hi : i = o.length
    · subst hi; exact ⟨o, p, h⟩
    · have hlt : i < o.length := by omega
      cases m with
      | zero => omega
      | succ m =>
        obtain ⟨o', p', h'⟩ := scan_ex hF (near (o[i])) [] o p rfl (h.into (List.getElem?_eq_getElem hlt))
        exact tree_from hF m (i + 1) o' p' (by omega) h'.out
theorem tree_ex (hF : Fst n near) (hr : 0 ≤ r ∧ r < n) : ∃ o p, Tr n near r o p := tree_from hF n 0 _ _ (by omega) (Inv.start hr)
end
end Go.Proofs.Ythjkpmjdkcainaa
/-
  The determinants of branches: what they are in a tree, and that a search in depth finds them. No condition.
-/
namespace Go.Proofs.Ythjkpmjdkcainaa
open Go Go.RowKit

/-- A product is not too large. -/
def tok (a b : Int) : Bool := decide (a = 0 ∨ b = 0 ∨ (a.natAbs : Int) ≤ 1000000000000 / (b.natAbs : Int))
def inM (x : Int) : Prop := -1000000000000 ≤ x ∧ x ≤ 1000000000000
theorem tok_in {a b : Int} (h : tok a b = true) : inM (a * b) := by
  unfold tok at h
  unfold inM
  rcases of_decide_eq_true h with rfl | rfl | h
  · simp
  · simp
  · by_cases hb : b = 0
    · subst hb; simp
    · have h1 : (a.natAbs : Int) * b.natAbs ≤ 1000000000000 := by
        have h2 := Int.mul_le_mul_of_nonneg_right h (show (0 : Int) ≤ b.natAbs by omega)
        have h3 := Int.ediv_mul_le 1000000000000 (show (b.natAbs : Int) ≠ 0 by omega)
        omega
      have h2 : ((a * b).natAbs : Int) = (a.natAbs : Int) * b.natAbs := by rw [Int.natAbs_mul]; simp
      omega
/-- One more branch. -/
def okS (p r f g : Int) : Bool := tok r f && tok p g && tok p f && decide (-1000000000000 ≤ r * f - p * g ∧ r * f - p * g ≤ 1000000000000)
def fO (T : Int → Option (Int × Int)) : List Int → Int × Int → Option (Int × Int)
  | [], s => some s
  | c :: cs, (p, r) => match T c with
    | none => none
    | some (g, f) => if okS p r f g = true then fO T cs (p * f, r * f - p * g) else none
theorem fO_app (T : Int → Option (Int × Int)) : ∀ (xs ys : List Int) (s : Int × Int), fO T (xs ++ ys) s = (fO T xs s).bind (fO T ys)
  | [], ys, s => rfl
  | c :: xs, ys, (p, r) => by
    rw [List.cons_append, fO, fO]
    cases hc : T c with
    | none => rfl
    | some gf =>
      obtain ⟨g, f⟩ := gf
      simp only
      by_cases h : okS p r f g = true
      · rw [if_pos h, if_pos h]; exact fO_app T xs ys _
      · rw [if_neg h, if_neg h]; rfl
theorem fO_congr {T T' : Int → Option (Int × Int)} : ∀ {xs : List Int} {s : Int × Int}, (∀ c ∈ xs, T c = T' c) → fO T xs s = fO T' xs s
  | [], s, _ => rfl
  | c :: xs, (p, r), h => by
    rw [fO, fO, h c (by simp)]
    cases T' c with
    | none => rfl
    | some gf =>
      obtain ⟨g, f⟩ := gf
      simp only
      rw [fO_congr (xs := xs) fun c hc => h c (by simp [hc])]
def fgV (W : List Int) (ch : Int → List Int) : Nat → Int → Option (Int × Int)
  | 0, _ => none
  | k + 1, v => fO (fgV W ch k) (ch v) (1, -geti W v)
/-- The children of a vertex. -/
def chl (near : Int → List Int) (p : List Int) (v : Int) : List Int := (near v).filter fun u => decide (u ≠ geti p v)

section
variable {n : Nat} {near : Int → List Int} {r : Int} {o p W : List Int}
theorem chl_mem (h : Tr n near r o p) {v c : Int} (hv : v ∈ o) (hc : c ∈ chl near p v) : c ∈ near v ∧ c ≠ geti p v ∧ c ∈ o ∧ c ≠ r ∧ geti p c = v := by
  obtain ⟨h1, h2⟩ := List.mem_filter.1 hc
  have h2 := of_decide_eq_true h2
  obtain ⟨h3, h4, h5⟩ := h.ch hv h1 h2
  exact ⟨h1, h2, h3, h4, h5⟩
theorem fgV_st (h : Tr n near r o p) {k : Int → Nat} (k1 : ∀ x ∈ o, k x < n) (k2 : ∀ x ∈ o, x ≠ r → geti p x ∈ o ∧ k (geti p x) < k x ∧ x ∈ near (geti p x)) :
    ∀ (m m' : Nat) (v : Int), v ∈ o → n ≤ m + k v → n ≤ m' + k v → fgV W (chl near p) (m + 1) v = fgV W (chl near p) (m' + 1) v
  | 0, m', v, hv, h1, _ => by have := k1 v hv; omega
  | m + 1, 0, v, hv, _, h2 => by have := k1 v hv; omega
  | m + 1, m' + 1, v, hv, h1, h2 => by
    rw [fgV, fgV]
    refine fO_congr fun c hc => ?_
    obtain ⟨_, _, c3, c4, c5⟩ := chl_mem h hv hc
    have := (k2 c c3 c4).2.1
    rw [c5] at this
    exact fgV_st h k1 k2 m m' c c3 (by omega) (by omega)
/-- What belongs to a vertex: G and F of it. -/
def FG (n : Nat) (near : Int → List Int) (W p : List Int) (v : Int) : Option (Int × Int) := fgV W (chl near p) (n + 1) v
theorem FG_eq (h : Tr n near r o p) {v : Int} (hv : v ∈ o) : FG n near W p v = fO (FG n near W p) (chl near p v) (1, -geti W v) := by
  obtain ⟨k, k1, k2⟩ := h.rank
  have hn := k1 v hv
  show fgV W (chl near p) (n + 1) v = _
  rw [fgV]
  refine fO_congr fun c hc => ?_
  obtain ⟨_, _, c3, c4, c5⟩ := chl_mem h hv hc
  have := (k2 c c3 c4).2.1
  obtain ⟨m, rfl⟩ : ∃ m, n = m + 1 := ⟨n - 1, by omega⟩
  exact fgV_st h k1 k2 m (m + 1) c c3 (by omega) (by omega)
/-- Two ways to write down one tree. -/
theorem FG_uniq {o' p' : List Int} (h : Tr n near r o p) (h' : Tr n near r o' p') : ∀ v ∈ o, FG n near W p v = FG n near W p' v := by
  obtain ⟨k, k1, k2⟩ := h.rank
  have key : ∀ (m : Nat) v, v ∈ o → n ≤ m + k v → FG n near W p v = FG n near W p' v := by
    intro m
    induction m with
    | zero => intro v hv hm; have := k1 v hv; omega
    | succ m ih =>
      intro v hv hm
      obtain ⟨s1, s2⟩ := h.sub h' v hv
      rw [FG_eq h hv, FG_eq h' s1]
      have ec : chl near p v = chl near p' v := by unfold chl; rw [s2]
      rw [← ec]
      refine fO_congr fun c hc => ?_
      obtain ⟨_, _, c3, c4, c5⟩ := chl_mem h hv hc
      have := (k2 c c3 c4).2.1
      rw [c5] at this
      exact ih c c3 (by omega)
  exact fun v hv => key n v hv (by omega)

/-! ### Descendants -/
inductive Dsc (r : Int) (o p : List Int) (x : Int) : Int → Prop
  | refl : x ∈ o → Dsc r o p x x
  | up {y : Int} : y ∈ o → y ≠ r → Dsc r o p x (geti p y) → Dsc r o p x y
theorem Dsc.mem {x y : Int} (h : Dsc r o p x y) : y ∈ o := by cases h <;> assumption
theorem Dsc.trans {x y z : Int} (h1 : Dsc r o p x y) (h2 : Dsc r o p y z) : Dsc r o p x z := by
  induction h2 with
  | refl => exact h1
  | up h3 h4 _ ih => exact .up h3 h4 ih
theorem Dsc.child (h : Tr n near r o p) {v c x : Int} (hv : v ∈ o) (hc : c ∈ chl near p v) (hx : Dsc r o p c x) : Dsc r o p v x := by
  obtain ⟨_, _, c3, c4, c5⟩ := chl_mem h hv hc
  exact Dsc.trans (.up c3 c4 (by rw [c5]; exact .refl hv)) hx
theorem Dsc.rank {k : Int → Nat} (k2 : ∀ x ∈ o, x ≠ r → geti p x ∈ o ∧ k (geti p x) < k x ∧ x ∈ near (geti p x)) {x y : Int} (h : Dsc r o p x y) : k x ≤ k y := by
  induction h with
  | refl => exact Nat.le_refl _
  | up h3 h4 _ ih => have := (k2 _ h3 h4).2.1; omega
theorem Dsc.cases (h : Tr n near r o p) {v x : Int} (hx : Dsc r o p v x) : x = v ∨ ∃ c ∈ chl near p v, Dsc r o p c x := by
  obtain ⟨k, k1, k2⟩ := h.rank
  induction hx with
  | refl => exact .inl rfl
  | @up y h3 h4 h5 ih =>
    obtain ⟨h6, h7, h8⟩ := k2 y h3 h4
    rcases ih with e | ⟨c, hc, hd⟩
    · refine .inr ⟨y, List.mem_filter.2 ⟨by rw [← e]; exact h8, decide_eq_true ?_⟩, .refl h3⟩
      intro e2
      have hvo : v ∈ o := by rw [← e]; exact h6
      by_cases hvr : v = r
      · rw [hvr, h.pr] at e2
        have := h.rng y h3; omega
      · have := (k2 v hvo hvr).2.1
        rw [← e2, ← e] at this; omega
    · exact .inr ⟨c, hc, .up h3 h4 hd⟩
theorem Dsc.disj (h : Tr n near r o p) {v c c' x : Int} (hv : v ∈ o) (hc : c ∈ chl near p v) (hc' : c' ∈ chl near p v) (hx : Dsc r o p c x) (hx' : Dsc r o p c' x) : c = c' := by
  obtain ⟨k, k1, k2⟩ := h.rank
  obtain ⟨_, _, c3, c4, c5⟩ := chl_mem h hv hc
  obtain ⟨_, _, d3, d4, d5⟩ := chl_mem h hv hc'
  have kc := (k2 c c3 c4).2.1
  have kd := (k2 c' d3 d4).2.1
  rw [c5] at kc
  rw [d5] at kd
  induction hx with
  | refl _ =>
    cases hx' with
    | refl _ => rfl
    | up _ _ h3 => rw [c5] at h3; have := Dsc.rank k2 h3; omega
  | @up y h3 h4 h5 ih =>
    cases hx' with
    | refl _ => rw [d5] at h5; have := Dsc.rank k2 h5; omega
    | up _ _ h6 => exact ih h6
theorem Dsc.notup (h : Tr n near r o p) {v c : Int} (hv : v ∈ o) (hc : c ∈ chl near p v) : ¬ Dsc r o p c v := by
  obtain ⟨k, k1, k2⟩ := h.rank
  obtain ⟨_, _, c3, c4, c5⟩ := chl_mem h hv hc
  have kc := (k2 c c3 c4).2.1
  rw [c5] at kc
  intro hx
  have := Dsc.rank k2 hx; omega
theorem Dsc.all (h : Tr n near r o p) {x : Int} (hx : x ∈ o) : Dsc r o p r x := by
  obtain ⟨k, k1, k2⟩ := h.rank
  have key : ∀ (m : Nat) x, x ∈ o → k x < m → Dsc r o p r x := by
    intro m
    induction m with
    | zero => intro x _ hx; omega
    | succ m ih =>
      intro x hx hm
      by_cases hxr : x = r
      · rw [hxr]; exact .refl h.rt
      · obtain ⟨h1, h2, _⟩ := k2 x hx hxr
        exact .up hx hxr (ih _ h1 (by omega))
  exact key (k x + 1) x hx (by omega)
end
end Go.Proofs.Ythjkpmjdkcainaa
/-
  A search in depth finds the determinants of branches. No condition.
-/
namespace Go.Proofs.Ythjkpmjdkcainaa
open Go Go.RowKit

def WS.sn (s : WS) (x : Int) : Bool := s.s.getD x.toNat false
def WS.mark (s : WS) (v : Int) : WS := { s with s := s.s.set v.toNat true }
def WS.put (s : WS) (v p r : Int) : WS := { s with f := s.f.set v.toNat r, g := s.g.set v.toNat p }
def WS.big (s : WS) : WS := { s with l := true }
def WS.cnt (s : WS) : Nat := (s.s.filter fun b => !b).length
/-- The branches of a vertex, one after the other. -/
def lpF (vis : Int → WS → WS) : List Int → WS → Int → Int → WS × Int × Int
  | [], s, p, r => (s, p, r)
  | c :: cs, s, p, r =>
    if s.sn c = true then lpF vis cs s p r
    else if okS p r (geti (vis c s).f c) (geti (vis c s).g c) = true then lpF vis cs (vis c s) (p * geti (vis c s).f c) (r * geti (vis c s).f c - p * geti (vis c s).g c)
    else lpF vis cs (vis c s).big 0 0
def visF (W : List Int) (near : Int → List Int) : Nat → Int → WS → WS
  | 0, _, s => s
  | k + 1, v, s =>
    let t := lpF (visF W near k) (near v) (s.mark v) 1 (-geti W v)
    t.1.put v t.2.1 t.2.2

structure WOk (n : Nat) (s : WS) : Prop where
  lf : s.f.length = n
  lg : s.g.length = n
  ls : s.s.length = n
  bf : ∀ x ∈ s.f, inM x
  bg : ∀ x ∈ s.g, inM x
/-- Nothing that has been seen is forgotten. -/
structure WLe (s t : WS) : Prop where
  sn : ∀ x : Int, s.sn x = true → t.sn x = true
  cnt : t.cnt ≤ s.cnt
  l : s.l = true → t.l = true
theorem WLe.refl (s : WS) : WLe s s := ⟨fun _ h => h, Nat.le_refl _, fun h => h⟩
theorem WLe.trans {a b c : WS} (h1 : WLe a b) (h2 : WLe b c) : WLe a c := ⟨fun x h => h2.sn x (h1.sn x h), Nat.le_trans h2.cnt h1.cnt, fun h => h2.l (h1.l h)⟩
theorem sn_mark {n : Nat} {s : WS} (h : s.s.length = n) {v : Int} (hv : 0 ≤ v ∧ v < n) {x : Int} (hx : 0 ≤ x) : (s.mark v).sn x = if x = v then true else s.sn x := by
  unfold WS.mark WS.sn
  simp only [List.getD_eq_getElem?_getD, List.getElem?_set]
  by_cases e : x = v
  · subst e; rw [if_pos rfl, if_pos (by omega), if_pos rfl]; rfl
  · rw [if_neg (by omega), if_neg e]
theorem cnt_set : ∀ (l : List Bool) (i : Nat), i < l.length → l.getD i false = false → ((l.set i true).filter fun b => !b).length + 1 = (l.filter fun b => !b).length
  | [], i, h, _ => by simp at h
  | b :: l, 0, _, h => by
    have : b = false := h
    subst this
    simp
  | b :: l, i + 1, h, h2 => by
    have ih := cnt_set l i (by simpa using h) h2
    rw [List.set_cons_succ]
    cases b <;> simp <;> omega
theorem cnt_mark {n : Nat} {s : WS} (h : s.s.length = n) {v : Int} (hv : 0 ≤ v ∧ v < n) (hn : s.sn v = false) : (s.mark v).cnt + 1 = s.cnt :=
  cnt_set s.s v.toNat (by omega) hn
theorem cnt_pos {n : Nat} {s : WS} (h : s.s.length = n) {v : Int} (hv : 0 ≤ v ∧ v < n) (hn : s.sn v = false) : 1 ≤ s.cnt := by
  have := cnt_mark h hv hn; omega
theorem le_mark {n : Nat} {s : WS} (h : s.s.length = n) {v : Int} (hv : 0 ≤ v ∧ v < n) (hn : s.sn v = false) : WLe s (s.mark v) := by
  refine ⟨fun x hx => ?_, by have := cnt_mark h hv hn; omega, fun h => h⟩
  unfold WS.mark WS.sn at *
  simp only [List.getD_eq_getElem?_getD, List.getElem?_set] at *
  by_cases e : v.toNat = x.toNat
  · rw [if_pos e, if_pos (by omega)]; rfl
  · rw [if_neg e]; exact hx
theorem ok_mark {n : Nat} {s : WS} (h : WOk n s) (v : Int) : WOk n (s.mark v) := ⟨h.lf, h.lg, by simp [WS.mark, h.ls], h.bf, h.bg⟩
theorem ok_put {n : Nat} {s : WS} (h : WOk n s) (v : Int) {p r : Int} (hp : inM p) (hr : inM r) : WOk n (s.put v p r) := by
  refine ⟨by simp [WS.put, h.lf], by simp [WS.put, h.lg], h.ls, fun x hx => ?_, fun x hx => ?_⟩
  · rcases List.mem_or_eq_of_mem_set hx with hx | rfl
    · exact h.bf x hx
    · exact hr
  · rcases List.mem_or_eq_of_mem_set hx with hx | rfl
    · exact h.bg x hx
    · exact hp
theorem okS_in {p r f g : Int} (h : okS p r f g = true) : inM (p * f) ∧ inM (r * f - p * g) := by
  unfold okS at h
  simp only [Bool.and_eq_true, decide_eq_true_eq] at h
  exact ⟨tok_in h.1.2, h.2⟩
theorem inM0 : inM 0 := by unfold inM; omega

/-- The loop keeps what each visit keeps. -/
theorem lpF_ok {n : Nat} {vis : Int → WS → WS} (m : Nat) (hv : ∀ (c : Int) s, WOk n s → s.cnt ≤ m → 0 ≤ c ∧ c < n → s.sn c = false → WOk n (vis c s) ∧ WLe s (vis c s)) :
    ∀ (cs : List Int) (s : WS) (p r : Int), (∀ c ∈ cs, 0 ≤ c ∧ c < n) → WOk n s → s.cnt ≤ m → inM p → inM r →
      WOk n (lpF vis cs s p r).1 ∧ WLe s (lpF vis cs s p r).1 ∧ inM (lpF vis cs s p r).2.1 ∧ inM (lpF vis cs s p r).2.2
  | [], s, p, r, _, h, _, hp, hr => ⟨h, WLe.refl s, hp, hr⟩
  | c :: cs, s, p, r, hc, h, hm, hp, hr => by
    have hcs : ∀ c ∈ cs, 0 ≤ c ∧ c < n := fun x hx => hc x (by simp [hx])
    rw [lpF]
    by_cases h1 : s.sn c = true
    · rw [if_pos h1]; exact lpF_ok m hv cs s p r hcs h hm hp hr
    · rw [if_neg h1]
      obtain ⟨a1, a2⟩ := hv c s h hm (hc c (by simp)) (by simpa using h1)
      have a3 : (vis c s).cnt ≤ m := Nat.le_trans a2.cnt hm
      by_cases h2 : okS p r (geti (vis c s).f c) (geti (vis c s).g c) = true
      · rw [if_pos h2]
        obtain ⟨b1, b2, b3, b4⟩ := lpF_ok m hv cs (vis c s) _ _ hcs a1 a3 (okS_in h2).1 (okS_in h2).2
        exact ⟨b1, a2.trans b2, b3, b4⟩
      · rw [if_neg h2]
        obtain ⟨b1, b2, b3, b4⟩ := lpF_ok m hv cs (vis c s).big 0 0 hcs ⟨a1.lf, a1.lg, a1.ls, a1.bf, a1.bg⟩ a3 inM0 inM0
        exact ⟨b1, a2.trans ((show WLe (vis c s) (vis c s).big from ⟨fun _ h => h, Nat.le_refl _, fun _ => rfl⟩).trans b2), b3, b4⟩
theorem visF_ok {n : Nat} {W : List Int} {near : Int → List Int} (hW : ∀ v : Int, -1000 ≤ geti W v ∧ geti W v ≤ 1000) (hF : Fst n near) : ∀ (k : Nat) (v : Int) (s : WS), WOk n s → s.cnt ≤ k → 0 ≤ v ∧ v < n → s.sn v = false → WOk n (visF W near k v s) ∧ WLe s (visF W near k v s)
  | 0, v, s, h, hk, hv, hn => by have := cnt_pos h.ls hv hn; omega
  | k + 1, v, s, h, hk, hv, hn => by
    have hw := hW v
    have hm := cnt_mark h.ls hv hn
    obtain ⟨b1, b2, b3, b4⟩ := lpF_ok k (fun c t ht hc h1 h2 => visF_ok hW hF k c t ht hc h1 h2) (near v) (s.mark v) 1 (-geti W v) (fun c hc => (hF.bnd v c hc).1) (ok_mark h v) (by omega) (by unfold inM; omega) (by unfold inM; omega)
    exact ⟨ok_put b1 v b3 b4, (le_mark h.ls hv hn).trans (b2.trans ⟨fun _ h => h, Nat.le_refl _, fun h => h⟩)⟩

section
variable {n : Nat} {near : Int → List Int} {r : Int} {o p W : List Int}
/-- What a visit of v has done. -/
structure Done (n : Nat) (near : Int → List Int) (W : List Int) (r : Int) (o p : List Int) (D : Int → Prop) (s t : WS) : Prop where
  sn : ∀ x : Int, 0 ≤ x → (t.sn x = true ↔ s.sn x = true ∨ D x)
  fr : ∀ x : Int, 0 ≤ x → ¬ D x → geti t.f x = geti s.f x ∧ geti t.g x = geti s.g x
  vl : ∀ x : Int, D x → ∀ a b, FG n near W p x = some (a, b) → geti t.f x = b ∧ geti t.g x = a

/-- The visits of the children dn of v, after v was marked. -/
structure LpI (n : Nat) (near : Int → List Int) (W : List Int) (r : Int) (o p : List Int) (v : Int) (s : WS) (dn : List Int) (t : WS) (a b : Int) : Prop where
  sn : ∀ x : Int, 0 ≤ x → (t.sn x = true ↔ s.sn x = true ∨ x = v ∨ ∃ c ∈ dn, c ≠ geti p v ∧ Dsc r o p c x)
  fr : ∀ x : Int, 0 ≤ x → (¬ ∃ c ∈ dn, c ≠ geti p v ∧ Dsc r o p c x) → geti t.f x = geti s.f x ∧ geti t.g x = geti s.g x
  vl : ∀ x : Int, (∃ c ∈ dn, c ≠ geti p v ∧ Dsc r o p c x) → ∀ a b, FG n near W p x = some (a, b) → geti t.f x = b ∧ geti t.g x = a
  lg : t.l = true ↔ s.l = true ∨ (∃ x, (∃ c ∈ dn, c ≠ geti p v ∧ Dsc r o p c x) ∧ FG n near W p x = none) ∨ fO (FG n near W p) (dn.filter fun u => decide (u ≠ geti p v)) (1, -geti W v) = none
  pr : ∀ x y, fO (FG n near W p) (dn.filter fun u => decide (u ≠ geti p v)) (1, -geti W v) = some (x, y) → a = x ∧ b = y
  ok : WOk n t
  le : WLe (s.mark v) t
  ia : inM a
  ib : inM b

theorem lp_run (hF : Fst n near) (hW : ∀ v : Int, -1000 ≤ geti W v ∧ geti W v ≤ 1000) (h : Tr n near r o p) {v : Int} (hv : v ∈ o) {k : Nat} {s : WS} (hs : ∀ x, Dsc r o p v x → s.sn x = false) (hp : v ≠ r → s.sn (geti p v) = true) (hk : (s.mark v).cnt ≤ k)
    (hvis : ∀ c ∈ chl near p v, ∀ t : WS, WOk n t → t.cnt ≤ k → (∀ x, Dsc r o p c x → t.sn x = false) → t.sn v = true →
      Done n near W r o p (Dsc r o p c) t (visF W near k c t) ∧ ((visF W near k c t).l = true ↔ t.l = true ∨ ∃ x, Dsc r o p c x ∧ FG n near W p x = none)) :
    ∀ (rest dn : List Int) (t : WS) (a b : Int), near v = dn ++ rest → LpI n near W r o p v s dn t a b →
      LpI n near W r o p v s (near v) (lpF (visF W near k) rest t a b).1 (lpF (visF W near k) rest t a b).2.1 (lpF (visF W near k) rest t a b).2.2
  | [], dn, t, a, b, e, hI => by rw [List.append_nil] at e; rw [e]; exact hI
  | c :: rest, dn, t, a, b, e, hI => by
    have e' : near v = (dn ++ [c]) ++ rest := by rw [e]; simp
    have hcn : c ∈ near v := by rw [e]; simp
    obtain ⟨⟨c0, c1⟩, ⟨v0, v1⟩, hcv⟩ := hF.bnd v c hcn
    have hnd := hF.nd v
    rw [e] at hnd
    have hcd : c ∉ dn := fun hx => (List.nodup_append.1 hnd).2.2 c hx c (by simp) rfl
    have hdn : ∀ x ∈ dn, x ∈ near v := fun x hx => by rw [e]; simp [hx]
    rw [lpF]
    by_cases hup : c = geti p v
    · have hvr : v ≠ r := fun hh => by rw [hh, h.pr] at hup; omega
      have hseen : t.sn c = true := (hI.sn c c0).2 (.inl (by rw [hup]; exact hp hvr))
      rw [if_pos hseen]
      have hex : ∀ x, (∃ d ∈ dn ++ [c], d ≠ geti p v ∧ Dsc r o p d x) ↔ (∃ d ∈ dn, d ≠ geti p v ∧ Dsc r o p d x) := fun x => by
        constructor
        · rintro ⟨d, hd, h1, h2⟩
          rcases List.mem_append.1 hd with hd | hd
          · exact ⟨d, hd, h1, h2⟩
          · exact absurd ((List.mem_singleton.1 hd).trans hup) h1
        · rintro ⟨d, hd, h1, h2⟩; exact ⟨d, by simp [hd], h1, h2⟩
      have hfl : ((dn ++ [c]).filter fun u => decide (u ≠ geti p v)) = dn.filter fun u => decide (u ≠ geti p v) := by
        rw [List.filter_append, List.filter_cons_of_neg (by simpa using hup)]; simp
      refine lp_run hF hW h hv hs hp hk hvis rest _ t a b e' ⟨fun x hx => ?_, fun x hx hn => ?_, fun x hx => ?_, ?_, ?_, hI.ok, hI.le, hI.ia, hI.ib⟩
      · rw [hI.sn x hx, hex]
      · exact hI.fr x hx fun hh => hn ((hex x).2 hh)
      · exact hI.vl x ((hex x).1 hx)
      · rw [hI.lg, hfl]; simp only [hex]
      · rw [hfl]; exact hI.pr
    · have hc : c ∈ chl near p v := List.mem_filter.2 ⟨hcn, decide_eq_true hup⟩
      obtain ⟨_, _, c3, c4, c5⟩ := chl_mem h hv hc
      have hfree : ∀ x, Dsc r o p c x → t.sn x = false := by
        intro x hx
        have hx0 := h.rng x hx.mem
        cases hh : t.sn x with
        | false => rfl
        | true =>
          rcases (hI.sn x hx0.1).1 hh with h1 | h1 | ⟨d, hd, h1, h2⟩
          · rw [hs x (Dsc.child h hv hc hx)] at h1; cases h1
          · subst h1; exact absurd hx (Dsc.notup h hv hc)
          · have hd' : d ∈ chl near p v := List.mem_filter.2 ⟨hdn d hd, decide_eq_true h1⟩
            exact absurd (Dsc.disj h hv hd' hc h2 hx ▸ hd) hcd
      have hns : ¬ t.sn c = true := by rw [hfree c (.refl c3)]; simp
      rw [if_neg hns]
      have htk : t.cnt ≤ k := Nat.le_trans hI.le.cnt hk
      have htv : t.sn v = true := (hI.sn v v0).2 (.inr (.inl rfl))
      obtain ⟨D, hl⟩ := hvis c hc t hI.ok htk hfree htv
      obtain ⟨o1, o2⟩ := visF_ok hW hF k c t hI.ok htk ⟨c0, c1⟩ (hfree c (.refl c3))
      generalize visF W near k c t = u at *
      have hex : ∀ x, (∃ d ∈ dn ++ [c], d ≠ geti p v ∧ Dsc r o p d x) ↔ (∃ d ∈ dn, d ≠ geti p v ∧ Dsc r o p d x) ∨ Dsc r o p c x := fun x => by
        constructor
        · rintro ⟨d, hd, h1, h2⟩
          rcases List.mem_append.1 hd with hd | hd
          · exact .inl ⟨d, hd, h1, h2⟩
          · rw [List.mem_singleton.1 hd] at h2; exact .inr h2
        · rintro (⟨d, hd, h1, h2⟩ | h2)
          · exact ⟨d, by simp [hd], h1, h2⟩
          · exact ⟨c, by simp, hup, h2⟩
      have hfl : ((dn ++ [c]).filter fun u => decide (u ≠ geti p v)) = (dn.filter fun u => decide (u ≠ geti p v)) ++ [c] := by
        rw [List.filter_append, List.filter_cons_of_pos (by simpa using hup)]; simp
      have hdj : ∀ x, (∃ d ∈ dn, d ≠ geti p v ∧ Dsc r o p d x) → ¬ Dsc r o p c x := by
        rintro x ⟨d, hd, h1, h2⟩ hx
        exact hcd (Dsc.disj h hv (List.mem_filter.2 ⟨hdn d hd, decide_eq_true h1⟩) hc h2 hx ▸ hd)
      have snx : ∀ x : Int, 0 ≤ x → (u.sn x = true ↔ s.sn x = true ∨ x = v ∨ ∃ d ∈ dn ++ [c], d ≠ geti p v ∧ Dsc r o p d x) := fun x hx => by
        rw [D.sn x hx, hI.sn x hx, hex]
        constructor
        · rintro ((h1 | h1 | h1) | h1)
          · exact .inl h1
          · exact .inr (.inl h1)
          · exact .inr (.inr (.inl h1))
          · exact .inr (.inr (.inr h1))
        · rintro (h1 | h1 | h1 | h1)
          · exact .inl (.inl h1)
          · exact .inl (.inr (.inl h1))
          · exact .inl (.inr (.inr h1))
          · exact .inr h1
      have frx : ∀ x : Int, 0 ≤ x → (¬ ∃ d ∈ dn ++ [c], d ≠ geti p v ∧ Dsc r o p d x) → geti u.f x = geti s.f x ∧ geti u.g x = geti s.g x := fun x hx hn => by
        rw [hex] at hn
        have h1 := D.fr x hx fun hh => hn (.inr hh)
        have h2 := hI.fr x hx fun hh => hn (.inl hh)
        exact ⟨h1.1.trans h2.1, h1.2.trans h2.2⟩
      have vlx : ∀ x : Int, (∃ d ∈ dn ++ [c], d ≠ geti p v ∧ Dsc r o p d x) → ∀ a b, FG n near W p x = some (a, b) → geti u.f x = b ∧ geti u.g x = a := fun x hx a b hab => by
        rw [hex] at hx
        rcases hx with hx | hx
        · have h0 : 0 ≤ x := by obtain ⟨d, _, _, h2⟩ := hx; exact (h.rng x h2.mem).1
          have h1 := D.fr x h0 (hdj x hx)
          have h2 := hI.vl x hx a b hab
          exact ⟨h1.1.trans h2.1, h1.2.trans h2.2⟩
        · exact D.vl x hx a b hab
      have lgx : u.l = true ↔ s.l = true ∨ (∃ x, (∃ d ∈ dn ++ [c], d ≠ geti p v ∧ Dsc r o p d x) ∧ FG n near W p x = none) ∨ fO (FG n near W p) (dn.filter fun u => decide (u ≠ geti p v)) (1, -geti W v) = none := by
        rw [hl, hI.lg]
        simp only [hex]
        constructor
        · rintro ((h1 | ⟨x, h1, h2⟩ | h1) | ⟨x, h1, h2⟩)
          · exact .inl h1
          · exact .inr (.inl ⟨x, .inl h1, h2⟩)
          · exact .inr (.inr h1)
          · exact .inr (.inl ⟨x, .inr h1, h2⟩)
        · rintro (h1 | ⟨x, h1 | h1, h2⟩ | h1)
          · exact .inl (.inl h1)
          · exact .inl (.inr (.inl ⟨x, h1, h2⟩))
          · exact .inr ⟨x, h1, h2⟩
          · exact .inl (.inr (.inr h1))
      have fox := fO_app (FG n near W p) (dn.filter fun u => decide (u ≠ geti p v)) [c] (1, -geti W v)
      rw [← hfl] at fox
      by_cases hok : okS a b (geti u.f c) (geti u.g c) = true
      · rw [if_pos hok]
        refine lp_run hF hW h hv hs hp hk hvis rest _ u _ _ e' ⟨snx, frx, vlx, ?_, ?_, o1, hI.le.trans o2, (okS_in hok).1, (okS_in hok).2⟩
        · rw [lgx, fox]
          constructor
          · rintro (h1 | h1 | h1)
            · exact .inl h1
            · exact .inr (.inl h1)
            · exact .inr (.inr (by rw [h1]; rfl))
          · rintro (h1 | h1 | h1)
            · exact .inl h1
            · exact .inr (.inl h1)
            · cases hd : fO (FG n near W p) (dn.filter fun u => decide (u ≠ geti p v)) (1, -geti W v) with
              | none => exact .inr (.inr rfl)
              | some xy =>
                obtain ⟨x, y⟩ := xy
                rw [hd] at h1
                cases hfc : FG n near W p c with
                | none => exact .inr (.inl ⟨c, (hex c).2 (.inr (.refl c3)), hfc⟩)
                | some gf =>
                  obtain ⟨g, f⟩ := gf
                  obtain ⟨q1, q2⟩ := D.vl c (.refl c3) g f hfc
                  obtain ⟨q3, q4⟩ := hI.pr x y hd
                  subst q1 q2 q3 q4
                  simp only [Option.bind_some, fO, hfc, if_pos hok] at h1
                  cases h1
        · intro x y hxy
          rw [fox] at hxy
          cases hd : fO (FG n near W p) (dn.filter fun u => decide (u ≠ geti p v)) (1, -geti W v) with
          | none => rw [hd] at hxy; cases hxy
          | some xy =>
            obtain ⟨x', y'⟩ := xy
            rw [hd] at hxy
            obtain ⟨q3, q4⟩ := hI.pr x' y' hd
            cases hfc : FG n near W p c with
            | none => simp only [Option.bind_some, fO, hfc] at hxy; cases hxy
            | some gf =>
              obtain ⟨g, f⟩ := gf
              obtain ⟨q1, q2⟩ := D.vl c (.refl c3) g f hfc
              subst q1 q2 q3 q4
              simp only [Option.bind_some, fO, hfc, if_pos hok] at hxy
              simpa using hxy
      · rw [if_neg hok]
        have hnone : u.l = true ∨ fO (FG n near W p) ((dn ++ [c]).filter fun u => decide (u ≠ geti p v)) (1, -geti W v) = none := by
          rw [fox]
          cases hd : fO (FG n near W p) (dn.filter fun u => decide (u ≠ geti p v)) (1, -geti W v) with
          | none => exact .inr rfl
          | some xy =>
            obtain ⟨x', y'⟩ := xy
            obtain ⟨q3, q4⟩ := hI.pr x' y' hd
            cases hfc : FG n near W p c with
            | none => right; simp only [Option.bind_some, fO, hfc]
            | some gf =>
              obtain ⟨g, f⟩ := gf
              obtain ⟨q1, q2⟩ := D.vl c (.refl c3) g f hfc
              subst q1 q2 q3 q4
              right
              simp only [Option.bind_some, fO, hfc, if_neg hok]
        have hbn : ∀ x y, fO (FG n near W p) ((dn ++ [c]).filter fun u => decide (u ≠ geti p v)) (1, -geti W v) = some (x, y) → (0 : Int) = x ∧ (0 : Int) = y := by
          intro x y hxy
          exfalso
          rw [fox] at hxy
          cases hd : fO (FG n near W p) (dn.filter fun u => decide (u ≠ geti p v)) (1, -geti W v) with
          | none => rw [hd] at hxy; cases hxy
          | some xy =>
            obtain ⟨x', y'⟩ := xy
            rw [hd] at hxy
            obtain ⟨q3, q4⟩ := hI.pr x' y' hd
            cases hfc : FG n near W p c with
            | none => simp only [Option.bind_some, fO, hfc] at hxy; cases hxy
            | some gf =>
              obtain ⟨g, f⟩ := gf
              obtain ⟨q1, q2⟩ := D.vl c (.refl c3) g f hfc
              subst q1 q2 q3 q4
              simp only [Option.bind_some, fO, hfc, if_neg hok] at hxy
              cases hxy
        refine lp_run hF hW h hv hs hp hk hvis rest _ u.big 0 0 e' ⟨snx, frx, vlx, ?_, hbn, ⟨o1.lf, o1.lg, o1.ls, o1.bf, o1.bg⟩, hI.le.trans (o2.trans ⟨fun _ h => h, Nat.le_refl _, fun _ => rfl⟩), inM0, inM0⟩
        refine ⟨fun _ => ?_, fun _ => rfl⟩
        rcases hnone with h1 | h1
        · rcases lgx.1 h1 with h2 | h2 | h2
          · exact .inl h2
          · exact .inr (.inl h2)
          · exact .inr (.inr (by rw [fox, h2]; rfl))
        · exact .inr (.inr h1)
end
end Go.Proofs.Ythjkpmjdkcainaa
/-
  All trees of a forest, one after the other. No condition.
-/
namespace Go.Proofs.Ythjkpmjdkcainaa
open Go Go.RowKit

theorem geti_st' {p : List Int} {u v x : Int} {n : Nat} (hu : 0 ≤ u ∧ u < n) (hx : 0 ≤ x) (hl : p.length = n) : geti (p.set u.toNat v) x = if x = u then v else geti p x :=
  geti_st hu.1 hx (by rw [hl]; exact hu.2)
section
variable {n : Nat} {near : Int → List Int} {r : Int} {o p W : List Int}
theorem vis_run (hF : Fst n near) (hW : ∀ v : Int, -1000 ≤ geti W v ∧ geti W v ≤ 1000) (h : Tr n near r o p) {rk : Int → Nat} (k1 : ∀ x ∈ o, rk x < n) (k2 : ∀ x ∈ o, x ≠ r → geti p x ∈ o ∧ rk (geti p x) < rk x ∧ x ∈ near (geti p x)) :
    ∀ (m : Nat) (v : Int) (s : WS) (k : Nat), v ∈ o → n ≤ m + rk v → WOk n s → s.cnt ≤ k → (∀ x, Dsc r o p v x → s.sn x = false) → (v ≠ r → s.sn (geti p v) = true) →
      Done n near W r o p (Dsc r o p v) s (visF W near k v s) ∧ ((visF W near k v s).l = true ↔ s.l = true ∨ ∃ x, Dsc r o p v x ∧ FG n near W p x = none)
  | 0, v, s, k, hv, hm, _, _, _, _ => by have := k1 v hv; omega
  | m + 1, v, s, 0, hv, hm, hok, hk, hs, _ => by
    have := cnt_pos hok.ls (h.rng v hv) (hs v (.refl hv)); omega
  | m + 1, v, s, k + 1, hv, hm, hok, hk, hs, hp => by
    have hvr := h.rng v hv
    have hvn := hs v (.refl hv)
    have hcm := cnt_mark hok.ls hvr hvn
    have hw := hW v
    have hvis : ∀ c ∈ chl near p v, ∀ t : WS, WOk n t → t.cnt ≤ k → (∀ x, Dsc r o p c x → t.sn x = false) → t.sn v = true →
        Done n near W r o p (Dsc r o p c) t (visF W near k c t) ∧ ((visF W near k c t).l = true ↔ t.l = true ∨ ∃ x, Dsc r o p c x ∧ FG n near W p x = none) := by
      intro c hc t ht htk hfr htv
      obtain ⟨_, _, c3, c4, c5⟩ := chl_mem h hv hc
      have hr := (k2 c c3 c4).2.1
      rw [c5] at hr
      exact vis_run hF hW h k1 k2 m c t k c3 (by omega) ht htk hfr fun _ => by rw [c5]; exact htv
    have hsn0 : ∀ x : Int, 0 ≤ x → ((s.mark v).sn x = true ↔ s.sn x = true ∨ x = v ∨ ∃ c ∈ ([] : List Int), c ≠ geti p v ∧ Dsc r o p c x) := fun x hx => by
      rw [sn_mark hok.ls hvr hx]
      by_cases e : x = v
      · simp [e]
      · simp [e]
    have hI := lp_run hF hW h hv hs hp (k := k) (by omega) hvis (near v) [] (s.mark v) 1 (-geti W v) rfl
      ⟨hsn0, fun x _ _ => ⟨rfl, rfl⟩, fun x hx => (by obtain ⟨c, hc, _⟩ := hx; cases hc), (by simp [fO, WS.mark]), fun x y hxy => (by simp [fO] at hxy; exact ⟨hxy.1, hxy.2⟩), ok_mark hok v, WLe.refl _, (by unfold inM; omega), (by unfold inM; omega)⟩
    have ech : ((near v).filter fun u => decide (u ≠ geti p v)) = chl near p v := rfl
    have hfg := FG_eq (W := W) h hv
    show Done n near W r o p (Dsc r o p v) s ((lpF (visF W near k) (near v) (s.mark v) 1 (-geti W v)).1.put v (lpF (visF W near k) (near v) (s.mark v) 1 (-geti W v)).2.1 (lpF (visF W near k) (near v) (s.mark v) 1 (-geti W v)).2.2) ∧ ((lpF (visF W near k) (near v) (s.mark v) 1 (-geti W v)).1.l = true ↔ _)
    generalize lpF (visF W near k) (near v) (s.mark v) 1 (-geti W v) = T at *
    obtain ⟨t, a, b⟩ := T
    dsimp only at hI ⊢
    have hex : ∀ x, (∃ c ∈ near v, c ≠ geti p v ∧ Dsc r o p c x) ↔ ∃ c ∈ chl near p v, Dsc r o p c x := fun x => by
      constructor
      · rintro ⟨c, hc, h1, h2⟩; exact ⟨c, List.mem_filter.2 ⟨hc, decide_eq_true h1⟩, h2⟩
      · rintro ⟨c, hc, h2⟩
        obtain ⟨h3, h4⟩ := List.mem_filter.1 hc
        exact ⟨c, h3, of_decide_eq_true h4, h2⟩
    have hd : ∀ x, Dsc r o p v x ↔ x = v ∨ ∃ c ∈ near v, c ≠ geti p v ∧ Dsc r o p c x := fun x => by
      rw [hex]
      constructor
      · exact Dsc.cases h
      · rintro (rfl | ⟨c, hc, h2⟩)
        · exact .refl hv
        · exact Dsc.child h hv hc h2
    have hne : ∀ x, (∃ c ∈ near v, c ≠ geti p v ∧ Dsc r o p c x) → x ≠ v := fun x hx e => by
      subst e
      obtain ⟨c, hc, h2⟩ := (hex x).1 hx
      exact Dsc.notup h hv hc h2
    have pf : ∀ x : Int, 0 ≤ x → geti (t.put v a b).f x = (if x = v then b else geti t.f x) ∧ geti (t.put v a b).g x = (if x = v then a else geti t.g x) := fun x hx =>
      ⟨geti_st' hvr hx hI.ok.lf, geti_st' hvr hx hI.ok.lg⟩
    refine ⟨⟨fun x hx => ?_, fun x hx hn => ?_, fun x hx a' b' hab => ?_⟩, ?_⟩
    · show t.sn x = true ↔ _
      rw [hI.sn x hx, hd]
    · rw [hd] at hn
      obtain ⟨q1, q2⟩ := pf x hx
      rw [q1, q2, if_neg fun e => hn (.inl e), if_neg fun e => hn (.inl e)]
      exact hI.fr x hx fun hh => hn (.inr hh)
    · have hx0 := (h.rng x hx.mem).1
      obtain ⟨q1, q2⟩ := pf x hx0
      rcases (hd x).1 hx with e | hx
      · subst e
        rw [q1, q2, if_pos rfl, if_pos rfl]
        rw [hfg] at hab
        obtain ⟨q3, q4⟩ := hI.pr a' b' hab
        exact ⟨q4, q3⟩
      · rw [q1, q2, if_neg (hne x hx), if_neg (hne x hx)]
        exact hI.vl x hx a' b' hab
    · rw [hI.lg, ech, ← hfg]
      constructor
      · rintro (h1 | ⟨x, h1, h2⟩ | h1)
        · exact .inl h1
        · exact .inr ⟨x, (hd x).2 (.inr h1), h2⟩
        · exact .inr ⟨v, .refl hv, h1⟩
      · rintro (h1 | ⟨x, h1, h2⟩)
        · exact .inl h1
        · rcases (hd x).1 h1 with e | h1
          · subst e; exact .inr (.inr h2)
          · exact .inr (.inl ⟨x, h1, h2⟩)
end

/-! ### All roots -/
noncomputable def trC (n : Nat) (near : Int → List Int) (r : Int) : List Int × List Int :=
  open Classical in if h : ∃ q : List Int × List Int, Tr n near r q.1 q.2 then h.choose else ([], [])
theorem trC_ok {n : Nat} {near : Int → List Int} {r : Int} (hF : Fst n near) (hr : 0 ≤ r ∧ r < n) : Tr n near r (trC n near r).1 (trC n near r).2 := by
  obtain ⟨o, p, h⟩ := tree_ex hF hr
  have he : ∃ q : List Int × List Int, Tr n near r q.1 q.2 := ⟨(o, p), h⟩
  unfold trC
  rw [dif_pos he]
  exact he.choose_spec
/-- The roots among the first i vertices. -/
noncomputable def rts (n : Nat) (near : Int → List Int) : Nat → List Int
  | 0 => []
  | i + 1 => open Classical in if ∃ r ∈ rts n near i, (i : Int) ∈ (trC n near r).1 then rts n near i else rts n near i ++ [(i : Int)]
theorem rts_rng (n : Nat) (near : Int → List Int) : ∀ i, ∀ r ∈ rts n near i, 0 ≤ r ∧ r < i
  | 0, r, h => by cases h
  | i + 1, r, h => by
    rw [rts] at h
    split at h
    · have := rts_rng n near i r h; omega
    · rcases List.mem_append.1 h with h | h
      · have := rts_rng n near i r h; omega
      · rw [List.mem_singleton.1 h]; omega
theorem rts_len (n : Nat) (near : Int → List Int) : ∀ i, (rts n near i).length ≤ i
  | 0 => Nat.le_refl _
  | i + 1 => by
    have := rts_len n near i
    rw [rts]; split
    · omega
    · simp; omega
theorem rts_cov {n : Nat} {near : Int → List Int} (hF : Fst n near) : ∀ i, i ≤ n → ∀ x : Int, 0 ≤ x → x < i → ∃ r ∈ rts n near i, x ∈ (trC n near r).1
  | 0, _, x, h0, h1 => by omega
  | i + 1, hi, x, h0, h1 => by
    rw [rts]
    by_cases hx : x < i
    · obtain ⟨r, hr, hm⟩ := rts_cov hF i (by omega) x h0 hx
      split
      · exact ⟨r, hr, hm⟩
      · exact ⟨r, by simp [hr], hm⟩
    · have e : x = i := by omega
      subst e
      split
      · assumption
      · exact ⟨(i : Int), by simp, (trC_ok hF (r := (i : Int)) ⟨by omega, by omega⟩).rt⟩
theorem rts_dis {n : Nat} {near : Int → List Int} (hF : Fst n near) : ∀ i, i ≤ n → (rts n near i).Pairwise fun r r' => ∀ x, x ∈ (trC n near r).1 → x ∉ (trC n near r').1
  | 0, _ => List.Pairwise.nil
  | i + 1, hi => by
    have ih := rts_dis hF i (by omega)
    rw [rts]; split
    · exact ih
    · rename_i hn
      rw [List.pairwise_append]
      refine ⟨ih, by simp, fun r hr r' hr' x hx hx' => ?_⟩
      rw [List.mem_singleton.1 hr'] at hx'
      have h1 := rts_rng n near i r hr
      exact Tr.disj (trC_ok hF ⟨h1.1, by omega⟩) (trC_ok hF (r := (i : Int)) ⟨by omega, by omega⟩) hF (fun hh => hn ⟨r, hr, hh⟩) x hx' hx
theorem rts_uniq {n : Nat} {near : Int → List Int} (hF : Fst n near) {r r' : Int} (hr : r ∈ rts n near n) (hr' : r' ∈ rts n near n) {x : Int} (hx : x ∈ (trC n near r).1) (hx' : x ∈ (trC n near r').1) : r = r' := by
  have hd := rts_dis hF n (Nat.le_refl _)
  apply Classical.byContradiction
  intro hne
  have key : ∀ l : List Int, (l.Pairwise fun r r' => ∀ x, x ∈ (trC n near r).1 → x ∉ (trC n near r').1) → r ∈ l → r' ∈ l → False := by
    intro l
    induction l with
    | nil => intro _ h _; cases h
    | cons a l ih =>
      intro hp h1 h2
      obtain ⟨p1, p2⟩ := List.pairwise_cons.1 hp
      rcases List.mem_cons.1 h1 with e1 | g1
      · rcases List.mem_cons.1 h2 with e2 | g2
        · exact hne (e1.trans e2.symm)
        · exact p1 r' g2 x (e1 ▸ hx) hx'
      · rcases List.mem_cons.1 h2 with e2 | g2
        · exact p1 r g1 x (e2 ▸ hx') hx
        · exact ih p2 g1 g2
  exact key _ hd hr hr'

/-! ### What all branches have -/
/-- No number is too large. -/
def bdOk (n : Nat) (near : Int → List Int) (W : List Int) : Prop := ∀ r ∈ rts n near n, ∀ x ∈ (trC n near r).1, FG n near W (trC n near r).2 x ≠ none
noncomputable def rootOf (n : Nat) (near : Int → List Int) (x : Int) : Int := open Classical in if h : ∃ r, r ∈ rts n near n ∧ x ∈ (trC n near r).1 then h.choose else 0
theorem rootOf_ok {n : Nat} {near : Int → List Int} (hF : Fst n near) {x : Int} (hx : 0 ≤ x ∧ x < n) : rootOf n near x ∈ rts n near n ∧ x ∈ (trC n near (rootOf n near x)).1 := by
  obtain ⟨r, h1, h2⟩ := rts_cov hF n (Nat.le_refl _) x hx.1 hx.2
  have he : ∃ r, r ∈ rts n near n ∧ x ∈ (trC n near r).1 := ⟨r, h1, h2⟩
  unfold rootOf
  rw [dif_pos he]
  exact he.choose_spec
noncomputable def bdV (n : Nat) (near : Int → List Int) (W : List Int) (x : Int) : Option (Int × Int) := FG n near W (trC n near (rootOf n near x)).2 x
theorem bdV_eq {n : Nat} {near : Int → List Int} {W : List Int} (hF : Fst n near) {r x : Int} (hr : r ∈ rts n near n) (hx : x ∈ (trC n near r).1) : bdV n near W x = FG n near W (trC n near r).2 x := by
  have h1 := rts_rng n near n r hr
  have h2 := (trC_ok hF h1).rng x hx
  obtain ⟨h3, h4⟩ := rootOf_ok hF h2
  have := rts_uniq hF h3 hr h4 hx
  unfold bdV
  rw [this]
noncomputable def bdF (n : Nat) (near : Int → List Int) (W : List Int) : List Int := (List.range n).map fun (x : Nat) => ((bdV n near W (x : Nat)).getD (0, 0)).2
noncomputable def bdG (n : Nat) (near : Int → List Int) (W : List Int) : List Int := (List.range n).map fun (x : Nat) => ((bdV n near W (x : Nat)).getD (0, 0)).1
theorem list_eq {n : Nat} {l : List Int} {F : Int → Int} (hl : l.length = n) (h : ∀ x : Int, 0 ≤ x → x < n → geti l x = F x) : l = (List.range n).map fun (x : Nat) => F (x : Nat) := by
  apply List.ext_getElem (by simp [hl])
  intro i h1 h2
  have := h (i : Nat) (by omega) (by omega)
  simp [geti, List.getD_eq_getElem?_getD, List.getElem?_eq_getElem h1] at this
  simp [this]

/-! ### The program's run -/
def WS.init (n : Nat) : WS := ⟨List.replicate n 0, List.replicate n 0, List.replicate n false, false⟩
def brF (n : Nat) (near : Int → List Int) (W : List Int) : Nat → WS × List Int
  | 0 => (WS.init n, [])
  | i + 1 => if (brF n near W i).1.sn (i : Nat) = true then brF n near W i else (visF W near n (i : Nat) (brF n near W i).1, (brF n near W i).2 ++ [(i : Int)])
structure BrI (n : Nat) (near : Int → List Int) (W : List Int) (i : Nat) (s : WS) (rs : List Int) : Prop where
  rs : rs = rts n near i
  sn : ∀ x : Int, 0 ≤ x → (s.sn x = true ↔ ∃ r ∈ rts n near i, x ∈ (trC n near r).1)
  vl : ∀ r ∈ rts n near i, ∀ x ∈ (trC n near r).1, ∀ a b, FG n near W (trC n near r).2 x = some (a, b) → geti s.f x = b ∧ geti s.g x = a
  lg : s.l = true ↔ ∃ r ∈ rts n near i, ∃ x ∈ (trC n near r).1, FG n near W (trC n near r).2 x = none
  ok : WOk n s
  cnt : s.cnt ≤ n
theorem br_init (n : Nat) (near : Int → List Int) (W : List Int) : BrI n near W 0 (WS.init n) [] := by
  refine ⟨rfl, fun x hx => ?_, fun r hr => (by cases hr), ?_, ⟨(by simp [WS.init]), (by simp [WS.init]), (by simp [WS.init]), fun x hx => ?_, fun x hx => ?_⟩, ?_⟩
  · simp only [WS.sn, WS.init, rts, List.getD_eq_getElem?_getD, List.getElem?_replicate]
    split <;> simp
  · simp [WS.init, rts]
  · simp [WS.init] at hx; rw [hx.2]; exact inM0
  · simp [WS.init] at hx; rw [hx.2]; exact inM0
  · simp [WS.cnt, WS.init]
theorem br_run {n : Nat} {near : Int → List Int} {W : List Int} (hF : Fst n near) (hW : ∀ v : Int, -1000 ≤ geti W v ∧ geti W v ≤ 1000) : ∀ i, i ≤ n → BrI n near W i (brF n near W i).1 (brF n near W i).2
  | 0, _ => br_init n near W
  | i + 1, hi => by
    have ih := br_run hF hW i (by omega)
    have hsi := ih.sn (i : Nat) (by omega)
    rw [brF]
    by_cases hs : (brF n near W i).1.sn (i : Nat) = true
    · rw [if_pos hs]
      have er : rts n near (i + 1) = rts n near i := by rw [rts, if_pos (hsi.1 hs)]
      exact ⟨by rw [er]; exact ih.rs, by rw [er]; exact ih.sn, by rw [er]; exact ih.vl, by rw [er]; exact ih.lg, ih.ok, ih.cnt⟩
    · rw [if_neg hs]
      have hno : ¬ ∃ r ∈ rts n near i, (i : Int) ∈ (trC n near r).1 := fun hh => hs (hsi.2 hh)
      have er : rts n near (i + 1) = rts n near i ++ [(i : Int)] := by rw [rts, if_neg hno]
      have hT := trC_ok hF (r := (i : Int)) ⟨by omega, by omega⟩
      have hfree : ∀ x, Dsc (i : Int) (trC n near (i : Nat)).1 (trC n near (i : Nat)).2 (i : Nat) x → (brF n near W i).1.sn x = false := by
        intro x hx
        have hx0 := (hT.rng x hx.mem).1
        cases hh : (brF n near W i).1.sn x with
        | false => rfl
        | true =>
          obtain ⟨r, hr, hxr⟩ := (ih.sn x hx0).1 hh
          have h1 := rts_rng n near i r hr
          exact absurd hxr (Tr.disj (trC_ok hF ⟨h1.1, by omega⟩) hT hF (fun h2 => hno ⟨r, hr, h2⟩) x hx.mem)
      obtain ⟨k, k1, k2⟩ := hT.rank
      obtain ⟨D, hl⟩ := vis_run hF hW hT k1 k2 n (i : Nat) (brF n near W i).1 n hT.rt (by omega) ih.ok ih.cnt hfree (fun h => absurd rfl h)
      obtain ⟨o1, o2⟩ := visF_ok hW hF n (i : Nat) (brF n near W i).1 ih.ok ih.cnt ⟨by omega, by omega⟩ (by simpa using hs)
      have hall : ∀ x, Dsc (i : Int) (trC n near (i : Nat)).1 (trC n near (i : Nat)).2 (i : Nat) x ↔ x ∈ (trC n near (i : Nat)).1 := fun x => ⟨Dsc.mem, Dsc.all hT⟩
      refine ⟨by rw [er, ih.rs], fun x hx => ?_, fun r hr x hx a b hab => ?_, ?_, o1, Nat.le_trans o2.cnt ih.cnt⟩
      · rw [D.sn x hx, ih.sn x hx, hall, er]
        simp only [List.mem_append, List.mem_singleton]
        constructor
        · rintro (⟨r, h1, h2⟩ | h1)
          · exact ⟨r, .inl h1, h2⟩
          · exact ⟨_, .inr rfl, h1⟩
        · rintro ⟨r, h1 | h1, h2⟩
          · exact .inl ⟨r, h1, h2⟩
          · rw [h1] at h2; exact .inr h2
      · rw [er] at hr
        rcases List.mem_append.1 hr with hr | hr
        · have h1 := rts_rng n near i r hr
          have hxT := trC_ok hF (r := r) ⟨h1.1, by omega⟩
          have hnd : ¬ Dsc (i : Int) (trC n near (i : Nat)).1 (trC n near (i : Nat)).2 (i : Nat) x := fun hh =>
            Tr.disj hxT hT hF (fun h2 => hno ⟨r, hr, h2⟩) x hh.mem hx
          obtain ⟨q1, q2⟩ := D.fr x (hxT.rng x hx).1 hnd
          obtain ⟨q3, q4⟩ := ih.vl r hr x hx a b hab
          exact ⟨q1.trans q3, q2.trans q4⟩
        · rw [List.mem_singleton.1 hr] at hx hab
          exact D.vl x ((hall x).2 hx) a b hab
      · rw [hl, ih.lg, er]
        simp only [List.mem_append, List.mem_singleton, hall]
        constructor
        · rintro (⟨r, h1, h2⟩ | h1)
          · exact ⟨r, .inl h1, h2⟩
          · exact ⟨_, .inr rfl, h1⟩
        · rintro ⟨r, h1 | h1, h2⟩
          · exact .inl ⟨r, h1, h2⟩
          · rw [h1] at h2; exact .inr h2
/-- What the program's run leaves. -/
theorem br_end {n : Nat} {near : Int → List Int} {W : List Int} (hF : Fst n near) (hW : ∀ v : Int, -1000 ≤ geti W v ∧ geti W v ≤ 1000) :
    (brF n near W n).2 = rts n near n ∧ ((brF n near W n).1.l = true ↔ ¬ bdOk n near W) ∧ (bdOk n near W → (brF n near W n).1.f = bdF n near W ∧ (brF n near W n).1.g = bdG n near W) := by
  have h := br_run hF hW n (Nat.le_refl _)
  refine ⟨h.rs, ?_, fun hok => ⟨?_, ?_⟩⟩
  · rw [h.lg]
    unfold bdOk
    constructor
    · rintro ⟨r, hr, x, hx, hn⟩ hh
      exact hh r hr x hx hn
    · intro hn
      apply Classical.byContradiction
      intro h2
      exact hn fun r hr x hx h3 => h2 ⟨r, hr, x, hx, h3⟩
  · refine list_eq (F := fun x => ((bdV n near W x).getD (0, 0)).2) h.ok.lf fun x h0 h1 => ?_
    obtain ⟨h3, h4⟩ := rootOf_ok hF ⟨h0, h1⟩
    rw [bdV_eq hF h3 h4]
    cases hc : FG n near W (trC n near (rootOf n near x)).2 x with
    | none => exact absurd hc (hok _ h3 x h4)
    | some ab => exact (h.vl _ h3 x h4 ab.1 ab.2 hc).1
  · refine list_eq (F := fun x => ((bdV n near W x).getD (0, 0)).1) h.ok.lg fun x h0 h1 => ?_
    obtain ⟨h3, h4⟩ := rootOf_ok hF ⟨h0, h1⟩
    rw [bdV_eq hF h3 h4]
    cases hc : FG n near W (trC n near (rootOf n near x)).2 x with
    | none => exact absurd hc (hok _ h3 x h4)
    | some ab => exact (h.vl _ h3 x h4 ab.1 ab.2 hc).2
end Go.Proofs.Ythjkpmjdkcainaa
/-
  The quadratic form of a forest: where all F are positive it is negative at all lists that are not 0. No condition.
-/
namespace Go.Proofs.Ythjkpmjdkcainaa
open Go Go.RowKit

/-! ### Sums over lists -/
def sI (F : Int → Int) : List Int → Int
  | [] => 0
  | a :: L => F a + sI F L
theorem sI_app (F : Int → Int) : ∀ A B, sI F (A ++ B) = sI F A + sI F B
  | [], B => by simp [sI]
  | a :: A, B => by rw [List.cons_append, sI, sI, sI_app F A B]; omega
theorem sI_perm (F : Int → Int) {A B : List Int} (h : A.Perm B) : sI F A = sI F B := by
  induction h with
  | nil => rfl
  | cons x _ ih => simp only [sI]; omega
  | swap x y l => simp only [sI]; omega
  | trans _ _ ih1 ih2 => omega
theorem sI_flat (F : Int → Int) (G : Int → List Int) : ∀ L : List Int, sI F (L.flatMap G) = sI (fun a => sI F (G a)) L
  | [] => rfl
  | a :: L => by rw [List.flatMap_cons, sI_app, sI, sI_flat F G L]
theorem sI_congr {F G : Int → Int} : ∀ {L : List Int}, (∀ a ∈ L, F a = G a) → sI F L = sI G L
  | [], _ => rfl
  | a :: L, h => by rw [sI, sI, h a (by simp), sI_congr fun b hb => h b (by simp [hb])]
theorem sI_add (F G : Int → Int) : ∀ L, sI (fun a => F a + G a) L = sI F L + sI G L
  | [] => rfl
  | a :: L => by rw [sI, sI, sI, sI_add F G L]; omega
theorem sI_neg (F : Int → Int) : ∀ L, sI (fun a => - F a) L = - sI F L
  | [] => rfl
  | a :: L => by rw [sI, sI, sI_neg F L]; omega
theorem sI_mul (c : Int) (F : Int → Int) : ∀ L, sI (fun a => c * F a) L = c * sI F L
  | [] => by simp [sI]
  | a :: L => by rw [sI, sI, sI_mul c F L, Int.mul_add]
theorem sI_nonneg {F : Int → Int} : ∀ {L : List Int}, (∀ a ∈ L, 0 ≤ F a) → 0 ≤ sI F L
  | [], _ => Int.le_refl _
  | a :: L, h => by
    have := h a (by simp)
    have := sI_nonneg (L := L) fun b hb => h b (by simp [hb])
    rw [sI]; omega
theorem sI_zero {F : Int → Int} : ∀ {L : List Int}, (∀ a ∈ L, 0 ≤ F a) → sI F L = 0 → ∀ a ∈ L, F a = 0
  | [], _, _, a, ha => by cases ha
  | b :: L, h, h0, a, ha => by
    have h1 := h b (by simp)
    have h2 := sI_nonneg (L := L) fun c hc => h c (by simp [hc])
    rw [sI] at h0
    rcases List.mem_cons.1 ha with rfl | ha
    · omega
    · exact sI_zero (L := L) (fun c hc => h c (by simp [hc])) (by omega) a ha
/-- One entry apart from the others. -/
theorem sI_out {F : Int → Int} {u : Int} : ∀ {L : List Int}, L.Nodup → u ∈ L → sI F L = sI F (L.filter fun c => decide (c ≠ u)) + F u
  | [], _, h => by cases h
  | a :: L, hn, h => by
    obtain ⟨h1, h2⟩ := List.nodup_cons.1 hn
    by_cases e : a = u
    · subst e
      have : (a :: L).filter (fun c => decide (c ≠ a)) = L := by
        rw [List.filter_cons, if_neg (by simp), List.filter_eq_self]
        intro c hc
        exact decide_eq_true fun e => h1 (e ▸ hc)
      rw [this, sI]; omega
    · have hu : u ∈ L := by
        rcases List.mem_cons.1 h with h | h
        · exact absurd h.symm e
        · exact h
      rw [List.filter_cons, if_pos (by simpa using e), sI, sI, sI_out h2 hu]; omega
theorem filter_all {u : Int} {L : List Int} (h : u ∉ L) : L.filter (fun c => decide (c ≠ u)) = L := by
  rw [List.filter_eq_self]
  intro c hc
  exact decide_eq_true fun e => h (e ▸ hc)

/-! ### Branches -/
section
variable {n : Nat} {near : Int → List Int} {r : Int} {o p W : List Int} {x : Int → Int}
/-- Less the form of a branch. -/
def bqV (W : List Int) (ch : Int → List Int) (x : Int → Int) : Nat → Int → Int
  | 0, _ => 0
  | k + 1, v => -(geti W v * (x v * x v)) + sI (fun c => bqV W ch x k c - 2 * (x v * x c)) (ch v)
/-- The vertices of a branch. -/
def brV (ch : Int → List Int) : Nat → Int → List Int
  | 0, _ => []
  | k + 1, v => v :: (ch v).flatMap (brV ch k)
theorem rk_ch (h : Tr n near r o p) {k : Int → Nat} (k2 : ∀ x ∈ o, x ≠ r → geti p x ∈ o ∧ k (geti p x) < k x ∧ x ∈ near (geti p x)) {v c : Int} (hv : v ∈ o) (hc : c ∈ chl near p v) : c ∈ o ∧ k v < k c := by
  obtain ⟨_, _, c3, c4, c5⟩ := chl_mem h hv hc
  have := (k2 c c3 c4).2.1
  rw [c5] at this
  exact ⟨c3, this⟩
theorem bqV_st (h : Tr n near r o p) {k : Int → Nat} (k1 : ∀ x ∈ o, k x < n) (k2 : ∀ x ∈ o, x ≠ r → geti p x ∈ o ∧ k (geti p x) < k x ∧ x ∈ near (geti p x)) :
    ∀ (m m' : Nat) (v : Int), v ∈ o → n ≤ m + k v → n ≤ m' + k v → bqV W (chl near p) x (m + 1) v = bqV W (chl near p) x (m' + 1) v
  | 0, m', v, hv, h1, _ => by have := k1 v hv; omega
  | m + 1, 0, v, hv, _, h2 => by have := k1 v hv; omega
  | m + 1, m' + 1, v, hv, h1, h2 => by
    rw [bqV, bqV]
    congr 1
    refine sI_congr fun c hc => ?_
    obtain ⟨c3, c4⟩ := rk_ch h k2 hv hc
    rw [bqV_st h k1 k2 m m' c c3 (by omega) (by omega)]
theorem brV_st (h : Tr n near r o p) {k : Int → Nat} (k1 : ∀ x ∈ o, k x < n) (k2 : ∀ x ∈ o, x ≠ r → geti p x ∈ o ∧ k (geti p x) < k x ∧ x ∈ near (geti p x)) :
    ∀ (m m' : Nat) (v : Int), v ∈ o → n ≤ m + k v → n ≤ m' + k v → brV (chl near p) (m + 1) v = brV (chl near p) (m' + 1) v
  | 0, m', v, hv, h1, _ => by have := k1 v hv; omega
  | m + 1, 0, v, hv, _, h2 => by have := k1 v hv; omega
  | m + 1, m' + 1, v, hv, h1, h2 => by
    rw [brV, brV]
    congr 1
    rw [List.flatMap_def, List.flatMap_def]
    congr 1
    refine List.map_congr_left fun c hc => ?_
    obtain ⟨c3, c4⟩ := rk_ch h k2 hv hc
    exact brV_st h k1 k2 m m' c c3 (by omega) (by omega)
def BQ (n : Nat) (near : Int → List Int) (W p : List Int) (x : Int → Int) (v : Int) : Int := bqV W (chl near p) x (n + 1) v
def BR (n : Nat) (near : Int → List Int) (p : List Int) (v : Int) : List Int := brV (chl near p) (n + 1) v
theorem BQ_eq (h : Tr n near r o p) {v : Int} (hv : v ∈ o) : BQ n near W p x v = -(geti W v * (x v * x v)) + sI (fun c => BQ n near W p x c - 2 * (x v * x c)) (chl near p v) := by
  obtain ⟨k, k1, k2⟩ := h.rank
  have hn := k1 v hv
  show bqV W (chl near p) x (n + 1) v = _
  rw [bqV]
  congr 1
  refine sI_congr fun c hc => ?_
  obtain ⟨c3, c4⟩ := rk_ch h k2 hv hc
  obtain ⟨m, rfl⟩ : ∃ m, n = m + 1 := ⟨n - 1, by omega⟩
  have := bqV_st (W := W) (x := x) h k1 k2 m (m + 1) c c3 (by omega) (by omega)
  rw [this]; rfl
theorem BR_eq (h : Tr n near r o p) {v : Int} (hv : v ∈ o) : BR n near p v = v :: (chl near p v).flatMap (BR n near p) := by
  obtain ⟨k, k1, k2⟩ := h.rank
  have hn := k1 v hv
  show brV (chl near p) (n + 1) v = _
  rw [brV]
  congr 1
  rw [List.flatMap_def, List.flatMap_def]
  congr 1
  refine List.map_congr_left fun c hc => ?_
  obtain ⟨c3, c4⟩ := rk_ch h k2 hv hc
  obtain ⟨m, rfl⟩ : ∃ m, n = m + 1 := ⟨n - 1, by omega⟩
  exact brV_st h k1 k2 m (m + 1) c c3 (by omega) (by omega)
/-- From the leaves to the root. -/
theorem Tr.up (h : Tr n near r o p) {C : Int → Prop} (step : ∀ v ∈ o, (∀ c ∈ chl near p v, C c) → C v) : ∀ v ∈ o, C v := by
  obtain ⟨k, k1, k2⟩ := h.rank
  have key : ∀ (m : Nat) v, v ∈ o → n ≤ m + k v → C v := by
    intro m
    induction m with
    | zero => intro v hv hm; have := k1 v hv; omega
    | succ m ih =>
      intro v hv hm
      refine step v hv fun c hc => ?_
      obtain ⟨c3, c4⟩ := rk_ch h k2 hv hc
      exact ih c c3 (by omega)
  exact fun v hv => key n v hv (by omega)
theorem one_step {P R B xv g f b xc : Int} (hP : 0 < P) (hB : R * (xv * xv) ≤ P * B) (hg : 0 < g) (hf : 0 < f) (hb : f * (xc * xc) ≤ g * b) :
    (R * f - P * g) * (xv * xv) ≤ (P * f) * (B + (b - 2 * (xv * xc))) := by
  have h1 : f * (R * (xv * xv)) ≤ f * (P * B) := Int.mul_le_mul_of_nonneg_left hB (by omega)
  have h2 : 0 ≤ f * b - 2 * (f * (xv * xc)) + g * (xv * xv) := by
    refine Int.not_lt.1 fun hn => ?_
    have k1 : g * (f * b - 2 * (f * (xv * xc)) + g * (xv * xv)) < 0 := Int.mul_neg_of_pos_of_neg hg hn
    have k2 : f * (f * (xc * xc)) ≤ f * (g * b) := Int.mul_le_mul_of_nonneg_left hb (by omega)
    have k3 : 0 ≤ (f * xc - g * xv) * (f * xc - g * xv) := by
      rcases Int.le_total 0 (f * xc - g * xv) with h | h
      · exact Int.mul_nonneg h h
      · exact Int.mul_nonneg_of_nonpos_of_nonpos h h
    have k4 : g * (f * b - 2 * (f * (xv * xc)) + g * (xv * xv)) = f * (g * b) - f * (f * (xc * xc)) + (f * xc - g * xv) * (f * xc - g * xv) := by grind
    omega
  have h3 : 0 ≤ P * (f * b - 2 * (f * (xv * xc)) + g * (xv * xv)) := Int.mul_nonneg (by omega) h2
  have h4 : (P * f) * (B + (b - 2 * (xv * xc))) - (R * f - P * g) * (xv * xv) = (f * (P * B) - f * (R * (xv * xv))) + P * (f * b - 2 * (f * (xv * xc)) + g * (xv * xv)) := by grind
  omega
theorem fO_pos {T : Int → Option (Int × Int)} {B : Int → Int} {xv : Int} : ∀ {cs : List Int} {P R P' R' Bp : Int}, fO T cs (P, R) = some (P', R') → 0 < P → R * (xv * xv) ≤ P * Bp →
    (∀ c ∈ cs, ∀ g f, T c = some (g, f) → 0 < g ∧ 0 < f ∧ f * (x c * x c) ≤ g * B c) → 0 < P' ∧ R' * (xv * xv) ≤ P' * (Bp + sI (fun c => B c - 2 * (xv * x c)) cs)
  | [], P, R, P', R', Bp, h, hP, hB, _ => by
    rw [fO] at h
    cases h
    rw [sI, Int.add_zero]
    exact ⟨hP, hB⟩
  | c :: cs, P, R, P', R', Bp, h, hP, hB, hc => by
    rw [fO] at h
    cases hT : T c with
    | none => rw [hT] at h; cases h
    | some gf =>
      obtain ⟨g, f⟩ := gf
      rw [hT] at h
      simp only at h
      split at h
      · obtain ⟨c1, c2, c3⟩ := hc c (by simp) g f hT
        have := fO_pos (cs := cs) h (Int.mul_pos hP c2) (one_step hP hB c1 c2 c3) fun d hd => hc d (by simp [hd])
        rw [sI, ← Int.add_assoc]
        exact this
      · cases h
/-- All F of the tree are there, and positive. -/
def AllPos (n : Nat) (near : Int → List Int) (W o p : List Int) : Prop := ∀ v ∈ o, ∃ g f, FG n near W p v = some (g, f) ∧ 0 < f
theorem bq_ge (h : Tr n near r o p) (ha : AllPos n near W o p) : ∀ v ∈ o, ∀ g f, FG n near W p v = some (g, f) → 0 < g ∧ 0 < f ∧ f * (x v * x v) ≤ g * BQ n near W p x v := by
  refine h.up fun v hv ih => ?_
  intro g f e
  have e0 := e
  rw [FG_eq h hv] at e
  rw [BQ_eq h hv]
  obtain ⟨g', f', e', hf⟩ := ha v hv
  rw [e0] at e'
  cases e'
  have := fO_pos (x := x) (B := BQ n near W p x) (xv := x v) (Bp := -(geti W v * (x v * x v))) e (by omega) (by grind) ih
  exact ⟨this.1, hf, this.2⟩
theorem sq_nn (a : Int) : 0 ≤ a * a := by
  rcases Int.le_total 0 a with h | h
  · exact Int.mul_nonneg h h
  · exact Int.mul_nonneg_of_nonpos_of_nonpos h h
theorem bq_nn (h : Tr n near r o p) (ha : AllPos n near W o p) {v : Int} (hv : v ∈ o) : 0 ≤ BQ n near W p x v := by
  obtain ⟨g, f, e, hf⟩ := ha v hv
  obtain ⟨h1, h2, h3⟩ := bq_ge (x := x) h ha v hv g f e
  have h4 : 0 ≤ f * (x v * x v) := Int.mul_nonneg (by omega) (sq_nn _)
  refine Int.not_lt.1 fun hn => ?_
  have := Int.mul_neg_of_pos_of_neg h1 hn
  omega
theorem bq_zero (h : Tr n near r o p) (ha : AllPos n near W o p) : ∀ v ∈ o, BQ n near W p x v = 0 → ∀ y, Dsc r o p v y → x y = 0 := by
  refine h.up fun v hv ih => ?_
  intro h0
  obtain ⟨g, f, e, hf⟩ := ha v hv
  obtain ⟨h1, h2, h3⟩ := bq_ge (x := x) h ha v hv g f e
  rw [h0, Int.mul_zero] at h3
  have hx : x v = 0 := by
    have h4 := sq_nn (x v)
    have h5 : x v * x v = 0 := by
      refine Classical.byContradiction fun hn => ?_
      have := Int.mul_pos h2 (show 0 < x v * x v by omega)
      omega
    rcases Int.mul_eq_zero.1 h5 with h | h <;> exact h
  rw [BQ_eq h hv, hx] at h0
  have hs : sI (fun c => BQ n near W p x c) (chl near p v) = 0 := by
    have : sI (fun c => BQ n near W p x c - 2 * (0 * x c)) (chl near p v) = sI (fun c => BQ n near W p x c) (chl near p v) := sI_congr fun c _ => by rw [Int.zero_mul, Int.mul_zero, Int.sub_zero]
    rw [this, Int.zero_mul, Int.mul_zero] at h0
    omega
  have hz := sI_zero (fun c hc => bq_nn h ha (chl_mem h hv hc).2.2.1) hs
  intro y hy
  rcases Dsc.cases h hy with rfl | ⟨c, hc, hd⟩
  · exact hx
  · exact ih c hc (hz c hc) y hd

/-! ### The form, vertex by vertex -/
def gQ (W : List Int) (near : Int → List Int) (x : Int → Int) (y : Int) : Int := x y * (geti W y * x y + sI x (near y))
theorem near_sum (hF : Fst n near) (h : Tr n near r o p) {v : Int} (hv : v ∈ o) : sI x (near v) = sI x (chl near p v) + (if v = r then 0 else x (geti p v)) := by
  obtain ⟨k, k1, k2⟩ := h.rank
  by_cases e : v = r
  · rw [if_pos e, e, Int.add_zero]
    unfold chl
    rw [filter_all]
    intro hm
    rw [h.pr] at hm
    have := (hF.bnd _ _ hm).1
    omega
  · rw [if_neg e]
    have hm := hF.sym _ _ (k2 v hv e).2.2
    exact sI_out (hF.nd v) hm
theorem br_sum (hF : Fst n near) (h : Tr n near r o p) : ∀ v ∈ o, sI (gQ W near x) (BR n near p v) = - BQ n near W p x v + (if v = r then 0 else x v * x (geti p v)) := by
  refine h.up fun v hv ih => ?_
  rw [BR_eq h hv, sI, sI_flat, BQ_eq h hv]
  have e1 : sI (fun c => sI (gQ W near x) (BR n near p c)) (chl near p v) = sI (fun c => x v * x c + - BQ n near W p x c) (chl near p v) := sI_congr fun c hc => by
    obtain ⟨_, _, c3, c4, c5⟩ := chl_mem h hv hc
    rw [ih c hc, if_neg c4, c5]
    grind
  have e2 : sI (fun c => BQ n near W p x c - 2 * (x v * x c)) (chl near p v) = sI (fun c => BQ n near W p x c) (chl near p v) + - (2 * (x v * sI x (chl near p v))) := by
    rw [← sI_mul, ← sI_mul, ← sI_neg, ← sI_add]
    exact sI_congr fun c _ => by omega
  rw [e1, e2, sI_add, sI_mul, sI_neg, gQ, near_sum hF h hv]
  split <;> grind
end
end Go.Proofs.Ythjkpmjdkcainaa
