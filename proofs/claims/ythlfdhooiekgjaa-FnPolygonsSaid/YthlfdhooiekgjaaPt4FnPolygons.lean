/-
  Parts of the proof, one behind the other: contracts of functions and plain laws. No condition.
-/
import Derived.Shelf.SlSortCmp.Whole1
import Derived.Test.YthlfdhooiekgjaaProg
import Derived.Test.YthlfdhooiekgjaaPt3FnPolygons
/-
  All rows of one own slice of rows are appended to another one, which takes them over. No condition.
-/
namespace Go.Proofs.Ythlfdhooiekgjaa
open Go Go.RowKit

section
variable {P : Program} {env : Env} {os : List AO} {d : Option Tmp} {ty : TypeId} {pos : String} {af : Array Edge} {g : Option (Nat × Bool)}
set_option maxHeartbeats 1000000 in
theorem l_append_rows {t e : TypeId} {bytes : Nat} [ht : TSlice P t e] [he : TElem P e (.slice none 0 0) bytes] {x y : Operand} {h k : Nat} {e' e2 e4 : TypeId} {xss yss : List (List Int)}
    (hx : AV.ev env x = .own h) (hs : os[h]? = some (.sls e' e2 xss)) (hee : e' = e) (hy : AV.ev env y = .own k) (hk : os[k]? = some (.sls e4 e2 yss)) (hne : (h == k) = false)
    (hb : (xss.length + yss.length) * bytes ≤ 140737488355328) :
    LOp P ⟨d, .call { callee := .builtin .append, args := #[x, y], argTypes := #[t, t] }, ty, pos, af, g⟩ env os (.own h) (env.mp (AV.lose h)) (((os.map (AO.via (AV.lose h) h)).set h (.sls e e2 (xss ++ yss))).set k .dead) := by
  subst hee
  have hne : h ≠ k := fun e => by subst e; simp at hne
  intro base w gs tm hr
  have hxv := hr.ev x
  rw [hx] at hxv
  have hyv := hr.ev y
  rw [hy] at hyv
  generalize hv : Act.eval ⟨tm, []⟩ x = v at hxv
  generalize hu : Act.eval ⟨tm, []⟩ y = u at hyv
  cases hxv with
  | @own _ gh hg =>
  cases hyv with
  | @own _ gk hgk =>
    have hro2 := hr.ho _ _ _ hgk hk
    obtain ⟨pa, cap, eu, _, _, hpa, hkl, hcells⟩ := sls_slice hro2
    obtain ⟨vs, bs, mb, a1, a2, a3, a4, a5, a6, a7, a8⟩ := hr.ho _ _ _ hg hs
    obtain ⟨us, cs, mk, b1, b2, b3, b4, b5, b6, b7, b8⟩ := hro2
    obtain ⟨ii, hi, hsz, hz, hby⟩ := he.info
    have hul : us.length = yss.length := b2
    have key : ∃ v' w', (Builtin.append_ #[t, t] ty #[gh.v, .slice pa yss.length cap]).run P w = .ok v' w' ∧ w'.ownsRow base e' 1 v' (vs.length + us.length) (vs ++ us) ∧ w.grownBy w' gh.v.ownBlock ∧
        (v'.ownBlock = gh.v.ownBlock ∨ v'.ownBlock = some w.heap.size) := by
      by_cases h0 : yss.length = 0
      · have e0 : us = [] := List.length_eq_zero_iff.1 (by omega)
        rw [h0, e0]
        exact ⟨gh.v, w, run_append_none ht.und hi a1 pa cap, by simpa using a1, ⟨rfl, rfl, rfl, Nat.le_refl _, fun _ _ _ => rfl⟩, .inl rfl⟩
      · have epa := hpa (by omega)
        subst epa
        have h64 : vs.length + yss.length ≤ maxLen := by
          have hb0 := he.pos
          have : xss.length + yss.length ≤ (xss.length + yss.length) * bytes := Nat.le_mul_of_pos_right _ hb0
          simp only [maxLen]; omega
        obtain ⟨v', w', r1, r2, r3, _, r5⟩ := run_append_own_at (P := P) w base t ty e' ii _ 1 bytes ht.und hi hz hsz hby rfl (by omega) gh.v vs.length vs a1 ⟨gk.b, 0, none⟩ yss.length cap us (by omega)
          (fun j u hj => by rw [add_none]; rw [Nat.zero_add]; exact (hcells j u (by rw [b4]; exact hj)).1)
          (fun u hu => by obtain ⟨j, hj⟩ := List.getElem?_of_mem hu; obtain ⟨_, ua, n, c, rfl⟩ := hcells j u (by rw [b4]; exact hj); rfl) h64 (by rw [a2]; exact hb) hr.hb
        exact ⟨v', w', r1, by rw [hul]; exact r2, r3, r5⟩
    obtain ⟨v', w', r1, r2, r3, r5⟩ := key
    have emb : gh.v.ownBlock.toList = mb := by
      rcases a6 with ⟨c1, c2⟩ | ⟨c1, c2⟩
      · rw [c1, c2]; rfl
      · rw [c1, c2]; rfl
    have hgb : ∀ b, b ∉ gh.bl → some b ≠ gh.v.ownBlock := fun b hb e => hb (by rw [a7, ← emb, ← e]; simp)
    have hnotmb : ∀ b, b ∉ mb → some b ≠ gh.v.ownBlock := fun b hb e => hb (by rw [← emb, ← e]; simp)
    have hdis : ∀ c, c ∈ gk.bl → c ∉ gh.bl := hr.hd k h gk gh _ _ (fun e => hne e.symm) hgk hg hk hs (by simp) (by simp)
    have hcsk : ∀ c, c ∈ cs.flatten → c ∈ gk.bl := fun c hc => by rw [b7]; exact List.mem_append.2 (.inr hc)
    have hlt : ∀ b, v'.ownBlock = some b → b < w'.heap.size := by
      intro b hb
      rcases r2.2 with ⟨e1, _⟩ | ⟨gg, cc, cur, e1, _, hgg, _⟩
      · rw [e1] at hb; cases hb
      · rw [e1] at hb; cases hb; exact (Array.getElem?_eq_some_iff.1 hgg).1
    have hhg : h < gs.length := (List.getElem?_eq_some_iff.1 hg).1
    have hbl0 : ∀ b, b ∈ gh.bl → b < w.heap.size := fun b hb => (hr.hn _ _ _ hg hs (by simp) b hb).2
    have hblk : ∀ b, b ∈ gk.bl → b < w.heap.size := fun b hb => (hr.hn _ _ _ hgk hk (by simp) b hb).2
    let g' : Gh := ⟨v', v'.ownBlock.getD 0, v'.ownBlock.toList ++ (bs ++ cs).flatten, vs ++ us⟩
    have efl : (bs ++ cs).flatten = bs.flatten ++ cs.flatten := by simp
    have hv'b : ∀ b, b ∈ v'.ownBlock.toList → v'.ownBlock = some b := fun b hb => by
      cases hvb : v'.ownBlock with
      | none => rw [hvb] at hb; simp at hb
      | some c => rw [hvb] at hb; simp at hb; rw [hb]
    have rowblk : ∀ (j : Nat) u, vs[j]? = some u → ∀ c, u.ownBlock = some c → c ∈ bs.flatten := by
      intro j u hj c hc
      have hjb : j < bs.length := by
        have := (List.getElem?_eq_some_iff.1 hj).1
        omega
      exact List.mem_flatten.2 ⟨bs.getD j [], by rw [List.getD_eq_getElem?_getD, List.getElem?_eq_getElem hjb]; simp, by rw [← (a5 j u hj).2.2, hc]; simp⟩
    have rowblk2 : ∀ (j : Nat) u, us[j]? = some u → ∀ c, u.ownBlock = some c → c ∈ cs.flatten := by
      intro j u hj c hc
      have hjb : j < cs.length := by
        have := (List.getElem?_eq_some_iff.1 hj).1
        omega
      exact List.mem_flatten.2 ⟨cs.getD j [], by rw [List.getD_eq_getElem?_getD, List.getElem?_eq_getElem hjb]; simp, by rw [← (b5 j u hj).2.2, hc]; simp⟩
    have a8' : (mb ++ bs.flatten).Nodup := by rw [← a7]; exact a8
    have b8' : (mk ++ cs.flatten).Nodup := by rw [← b7]; exact b8
    have mbfl : ∀ b, b ∈ mb → b ∉ bs.flatten := fun b hb hb2 => (List.nodup_append.1 a8').2.2 b hb b hb2 rfl
    have keep : ∀ c, c < w.heap.size → c ∉ mb → w'.heap[c]? = w.heap[c]? := fun c hc hcm => r3.block c hc (hnotmb c hcm)
    refine ⟨v', w', gs.set h g', .inl ?_, hr.absorb hg hs trivial hgk hk trivial hne g' _ (AV.lose h) rfl (fun b hb hn => r3.block b hb (hgb b hn)) r3.size ?_ (fun kp hv => hv.lose kp) ?_, ?_, ?_⟩
    · have eu' : gk.v = .slice pa yss.length cap := eu
      simp only [execOp, resolve, invoke, builtin, Sem.run_bind, Sem.run_pure, Result.andThen_ok, List.map_toArray, List.map_cons, List.map_nil, hv, hu, eu', r1]
    · intro b hb
      rcases List.mem_append.1 hb with hb | hb
      · have hb' := hv'b b hb
        refine ⟨?_, hlt b hb'⟩
        rcases r5 with r5 | r5
        · left
          rw [hb'] at r5
          exact Classical.byContradiction fun hn => hgb b hn r5
        · right; right
          rw [hb'] at r5; cases r5; exact Nat.le_refl _
      · rw [efl] at hb
        rcases List.mem_append.1 hb with hb | hb
        · have : b ∈ gh.bl := by rw [a7]; exact List.mem_append.2 (.inr hb)
          exact ⟨.inl this, Nat.lt_of_lt_of_le (hbl0 b this) r3.size⟩
        · exact ⟨.inr (.inl (hcsk b hb)), Nat.lt_of_lt_of_le (hblk b (hcsk b hb)) r3.size⟩
    · intro kp
      refine ⟨vs ++ us, bs ++ cs, v'.ownBlock.toList, by rw [List.length_append]; exact r2, by simp [a2, b2], by simp [a3, b3], rfl, fun j u hj => ?_, ?_, rfl, ?_⟩
      · rw [List.getElem?_append] at hj
        split at hj
        · rename_i hjl
          obtain ⟨q1, q2, q3⟩ := a5 j u hj
          have g1 : (xss ++ yss).getD j [] = xss.getD j [] := by
            simp only [List.getD_eq_getElem?_getD]; rw [List.getElem?_append_left (by omega)]
          have g2 : (bs ++ cs).getD j [] = bs.getD j [] := by
            simp only [List.getD_eq_getElem?_getD]; rw [List.getElem?_append_left (by omega)]
          rw [g1, g2]
          refine ⟨ownsRow_of_block q1 fun c hc => ?_, q2, q3⟩
          have hcf := rowblk j u hj c hc
          exact keep c (hbl0 c (by rw [a7]; exact List.mem_append.2 (.inr hcf))) fun hm => mbfl c hm hcf
        · rename_i hjl
          obtain ⟨q1, q2, q3⟩ := b5 _ u hj
          have g1 : (xss ++ yss).getD j [] = yss.getD (j - vs.length) [] := by
            simp only [List.getD_eq_getElem?_getD]; rw [List.getElem?_append_right (by omega), a2]
          have g2 : (bs ++ cs).getD j [] = cs.getD (j - vs.length) [] := by
            simp only [List.getD_eq_getElem?_getD]; rw [List.getElem?_append_right (by omega), a2, ← a3]
          rw [g1, g2]
          refine ⟨ownsRow_of_block q1 fun c hc => ?_, q2, q3⟩
          have hcm := hcsk c (rowblk2 _ u hj c hc)
          exact keep c (hblk c hcm) fun hm => hdis c hcm (by rw [a7]; exact List.mem_append.2 (.inl hm))
      · show (v'.ownBlock = none ∧ v'.ownBlock.toList = []) ∨ (v'.ownBlock = some (v'.ownBlock.getD 0) ∧ v'.ownBlock.toList = [v'.ownBlock.getD 0])
        cases v'.ownBlock with
        | none => exact .inl ⟨rfl, rfl⟩
        | some b => exact .inr ⟨rfl, rfl⟩
      · show (v'.ownBlock.toList ++ (bs ++ cs).flatten).Nodup
        rw [efl]
        refine nodup_rows a8' ?_ ?_ (List.nodup_append.1 b8').2.1 (fun b hb => by rw [← a7]; exact hdis b (hcsk b hb))
        · cases v'.ownBlock <;> simp
        · intro b hb
          have hb' := hv'b b hb
          rcases r5 with r5 | r5
          · rw [hb'] at r5
            have hm : b ∈ mb := by rw [← emb, ← r5]; simp
            exact ⟨mbfl b hm, fun hc => hdis b (hcsk b hc) (by rw [a7]; exact List.mem_append.2 (.inl hm))⟩
          · rw [hb'] at r5
            cases r5
            refine ⟨fun hc => ?_, fun hc => ?_⟩
            · have := hbl0 w.heap.size (by rw [a7]; exact List.mem_append.2 (.inr hc)); omega
            · have := hblk w.heap.size (hcsk _ hc); omega
    · exact RV.own (g := g') (by simp [hhg])
    · refine ⟨r3.os, r3.tape, r3.output, r3.size, fun b hb => r3.block b (by have := hr.hb; omega) (hgb b fun hm => ?_)⟩
      have := (hr.hn _ _ _ hg hs (by simp) b hm).1
      omega
end

section
variable {P : Program} {env : Env} {os : List AO} {d : Tmp} {ty : TypeId} {pos : String} {af : Array Edge} {l rest : List Oper} {K : APost}
theorem w_apprs {t e : TypeId} {bytes : Nat} [TSlice P t e] [TElem P e (.slice none 0 0) bytes] {x y : Operand} {h k : Nat} {e' e2 e4 : TypeId} {xss yss : List (List Int)}
    (hx : evo env x = some (.own h)) (hs : os[h]? = some (.sls e' e2 xss)) (hee : e' = e) (hy : evo env y = some (.own k)) (hk : os[k]? = some (.sls e4 e2 yss)) (hne : (h == k) = false)
    (hb : (xss.length + yss.length) * bytes ≤ 140737488355328) (h' : AOps P .seq l rest K (Env.up (env.mp (AV.lose h)) d (.own h)) (((os.map (AO.via (AV.lose h) h)).set h (.sls e e2 (xss ++ yss))).set k .dead)) :
    AOps P .seq l (⟨some d, .call { callee := .builtin .append, args := #[x, y], argTypes := #[t, t] }, ty, pos, af, none⟩ :: rest) K env os :=
  AOps.lo (l_append_rows (ev_of hx) hs hee (ev_of hy) hk hne hb) h'
end
end Go.Proofs.Ythlfdhooiekgjaa
/-
  A literal slice of two own rows, as an own slice of rows. No condition.
-/
namespace Go.Proofs.Ythlfdhooiekgjaa
open Go Go.RowKit
theorem ar2r : Array.range 2 = #[0, 1] := by apply Array.ext'; simp [List.range_succ]
section
variable {P : Program} {env : Env} {os : List AO} {d : Option Tmp} {ty : TypeId} {pos : String} {af : Array Edge} {g : Option (Nat × Bool)}
set_option maxHeartbeats 1000000 in
theorem l_bsr2s {t e e2 : TypeId} {bytes : Nat} [ht : TSlice P t e] [he : TElem P e (.slice none 0 0) bytes] [ht2 : TSlice P e e2] {x y : Operand} {k j : Nat} {e3 e4 : TypeId} {ys zs : List Int}
    (hx : AV.ev env x = .own k) (hk : os[k]? = some (.sli e3 ys)) (he3 : e3 = e2) (hy : AV.ev env y = .own j) (hj : os[j]? = some (.sli e4 zs)) (he4 : e4 = e2) (hkj : (k == j) = false) :
    LOp P ⟨d, .buildSlice t 2 #[(0, x), (1, y)], ty, pos, af, g⟩ env os (.own os.length) (env.mp (AV.lose os.length))
      ((((((os ++ [AO.sls e e2 []]).map (AO.via (AV.lose os.length) os.length)).set os.length (.sls e e2 [ys, zs])).set k .dead)).set j .dead) := by
  subst he3 he4
  have hkj : k ≠ j := fun e => by subst e; simp at hkj
  intro base w gs tm hr
  have hxv := hr.ev x
  rw [hx] at hxv
  have hyv := hr.ev y
  rw [hy] at hyv
  generalize hv : Act.eval ⟨tm, []⟩ x = v at hxv
  generalize hu : Act.eval ⟨tm, []⟩ y = u at hyv
  cases hxv with
  | @own _ gk hgk =>
  cases hyv with
  | @own _ gj hgj =>
    obtain ⟨b1, b2, b3⟩ := hr.ho _ _ _ hgk hk
    obtain ⟨c1, c2, c3⟩ := hr.ho _ _ _ hgj hj
    obtain ⟨ua, uc, eu⟩ := ownsRow_slice b1
    obtain ⟨va, vc, ev⟩ := ownsRow_slice c1
    obtain ⟨ii, hi, hs, hz, hby⟩ := he.info
    have hkl : k < os.length := (List.getElem?_eq_some_iff.1 hk).1
    have hjl : j < os.length := (List.getElem?_eq_some_iff.1 hj).1
    let g0 : Gh := ⟨.slice none 0 0, 0, [], []⟩
    have hr1 : Rel base w (gs ++ [g0]) env (os ++ [.sls e e4 []]) tm := hr.new (Below.refl _ _) _ g0 (fun _ b hb => by simp [g0] at hb) ⟨[], [], [], World.ownsRow_nil w base e 1, rfl, rfl, rfl, fun i u h => (by simp at h), .inl ⟨rfl, rfl⟩, rfl, by simp [g0]⟩
    have hl := hr.hl
    have hgp : (gs ++ [g0])[os.length]? = some g0 := by rw [← hl]; simp
    have hop : (os ++ [AO.sls e e4 []])[os.length]? = some (.sls e e4 []) := by simp
    have hgk' : (gs ++ [g0])[k]? = some gk := by rw [List.getElem?_append_left (by omega)]; exact hgk
    have hok' : (os ++ [AO.sls e e4 []])[k]? = some (.sli e4 ys) := by rw [List.getElem?_append_left hkl]; exact hk
    have hgj' : (gs ++ [g0])[j]? = some gj := by rw [List.getElem?_append_left (by omega)]; exact hgj
    have hoj' : (os ++ [AO.sls e e4 []])[j]? = some (.sli e4 zs) := by rw [List.getElem?_append_left hjl]; exact hj
    have hpl : os.length < (gs ++ [g0]).length := by simp; omega
    let w' := w.alloc (.cells [gk.v, gj.v].toArray e)
    let g' : Gh := ⟨.slice (some ⟨w.heap.size, 0, none⟩) 2 2, w.heap.size, [w.heap.size] ++ (gk.bl ++ gj.bl), [gk.v, gj.v]⟩
    have hbel : Below w.heap.size w w' := below_alloc w _
    have hblk : ∀ b, b ∈ gk.bl → b < w.heap.size := fun b hb => (hr.hn _ _ _ hgk hk (by simp) b hb).2
    have hblj : ∀ b, b ∈ gj.bl → b < w.heap.size := fun b hb => (hr.hn _ _ _ hgj hj (by simp) b hb).2
    have hdis : ∀ b, b ∈ gk.bl → b ∉ gj.bl := hr.hd k j gk gj _ _ hkj hgk hgj hk hj (by simp) (by simp)
    refine ⟨.slice (some ⟨w.heap.size, 0, none⟩) 2 2, w', (gs ++ [g0]).set os.length g', .inl ?_,
      hr1.absorb2 hgp hop trivial hgk' hok' trivial (by omega) hgj' hoj' trivial (by omega) g' (.sls e e4 [ys, zs]) (AV.lose os.length) rfl (fun b hb _ => hbel.block b hb) hbel.size ?_ (fun kp hv => hv.lose kp) ?_, ?_, hbel.mono hr.hb⟩
    · simp [execOp, Instr.buildSlice, run_underlying ht.und, sizeOf, typeInfo, zeroValue, hi, hs, hz, Instr.fill, newRow, hv, hu, eu, ev, Value.cells, ar2r, w']
    · intro b hb
      have hsz : w'.heap.size = w.heap.size + 1 := by simp [w']
      rcases List.mem_append.1 hb with hb | hb
      · simp at hb
        exact ⟨.inr (.inr (.inr (by omega))), by omega⟩
      · rcases List.mem_append.1 hb with hb | hb
        · have := hblk b hb
          exact ⟨.inr (.inl hb), by omega⟩
        · have := hblj b hb
          exact ⟨.inr (.inr (.inl hb)), by omega⟩
    · intro kp
      refine ⟨[gk.v, gj.v], [gk.bl, gj.bl], [w.heap.size], ⟨rfl, .inr ⟨w.heap.size, 2, _, rfl, hr.hb, heap_alloc_new w _, Nat.le_refl _, by simp [maxLen], by simp, by simp⟩⟩, rfl, rfl, rfl, fun i u hi => ?_, .inr ⟨rfl, rfl⟩, by simp [g'], ?_⟩
      · match i with
        | 0 =>
          simp at hi
          subst hi
          exact ⟨ownsRow_of_block b1 fun c hc => hbel.block c (hblk c (b3.mem hc)), b2, b3.list⟩
        | 1 =>
          simp at hi
          subst hi
          exact ⟨ownsRow_of_block c1 fun c hc => hbel.block c (hblj c (c3.mem hc)), c2, c3.list⟩
        | i + 2 => simp at hi
      · exact nodup_append3 (by simp) b3.nodup c3.nodup (fun b hb hb2 => by simp at hb; have := hblk b hb2; omega) (fun b hb hb2 => by simp at hb; have := hblj b hb2; omega) hdis
    · exact RV.own (g := g') (by rw [List.getElem?_set_self hpl])
end
section
variable {P : Program} {env : Env} {os : List AO} {d : Tmp} {ty : TypeId} {pos : String} {af : Array Edge} {l rest : List Oper} {K : APost}
theorem w_bsr2s {t e e2 e3 e4 : TypeId} {bytes : Nat} [TSlice P t e] [TElem P e (.slice none 0 0) bytes] [TSlice P e e2] {x y : Operand} {k j m : Nat} {ys zs : List Int} (hx : evo env x = some (.own k)) (hk : os[k]? = some (.sli e3 ys)) (he3 : e3 = e2)
    (hy : evo env y = some (.own j)) (hj : os[j]? = some (.sli e4 zs)) (he4 : e4 = e2) (hkj : (k == j) = false) (hm : os.length = m)
    (h' : AOps P .seq l rest K (Env.up (env.mp (AV.lose m)) d (.own m)) ((((((os ++ [AO.sls e e2 []]).map (AO.via (AV.lose m) m)).set m (.sls e e2 [ys, zs])).set k .dead)).set j .dead)) :
    AOps P .seq l (⟨some d, .buildSlice t 2 #[(0, x), (1, y)], ty, pos, af, none⟩ :: rest) K env os := by
  subst hm
  exact AOps.lo (l_bsr2s (ev_of hx) hk he3 (ev_of hy) hj he4 hkj) h'
end
theorem ar8 : Array.range 8 = #[0, 1, 2, 3, 4, 5, 6, 7] := by apply Array.ext'; simp [List.range_succ]
section
variable {P : Program} {env : Env} {os : List AO} {d : Tmp} {ty : TypeId} {pos : String} {af : Array Edge} {l rest : List Oper} {K : APost}
theorem w_bs8 {t e : TypeId} {bytes : Nat} [ht : TSlice P t e] [he : TElem P e (.int .i64 0) bytes] {x0 x1 x2 x3 x4 x5 x6 x7 : Operand} {a0 a1 a2 a3 a4 a5 a6 a7 : Int} {m : Nat} (h0 : evo env x0 = some (.i a0)) (h1 : evo env x1 = some (.i a1)) (h2 : evo env x2 = some (.i a2)) (h3 : evo env x3 = some (.i a3)) (h4 : evo env x4 = some (.i a4)) (h5 : evo env x5 = some (.i a5)) (h6 : evo env x6 = some (.i a6)) (h7 : evo env x7 = some (.i a7)) (hm : os.length = m)
    (i0 : inI a0) (i1 : inI a1) (i2 : inI a2) (i3 : inI a3) (i4 : inI a4) (i5 : inI a5) (i6 : inI a6) (i7 : inI a7) (h' : AOps P .seq l rest K (env.up d (.own m)) (os ++ [.sli e [a0, a1, a2, a3, a4, a5, a6, a7]])) : AOps P .seq l (⟨some d, .buildSlice t 8 #[(0, x0), (1, x1), (2, x2), (3, x3), (4, x4), (5, x5), (6, x6), (7, x7)], ty, pos, af, none⟩ :: rest) K env os :=
  AOps.lo (hm ▸ (show LOp P ⟨some d, .buildSlice t 8 #[(0, x0), (1, x1), (2, x2), (3, x3), (4, x4), (5, x5), (6, x6), (7, x7)], ty, pos, af, none⟩ env os (.own os.length) env (os ++ [.sli e [a0, a1, a2, a3, a4, a5, a6, a7]]) from by
    refine l_laid (zs := [a0, a1, a2, a3, a4, a5, a6, a7]) (by simp; exact ⟨i0, i1, i2, i3, i4, i5, i6, i7⟩) (by simp [maxLen]) fun base w gs tm hr => ?_
    obtain ⟨ii, hi, hs, hz, hby⟩ := he.info
    simp [execOp, Instr.buildSlice, run_underlying ht.und, sizeOf, typeInfo, zeroValue, hi, hs, hz, Instr.fill, newRow, hr.evv (ev_of h0), hr.evv (ev_of h1), hr.evv (ev_of h2), hr.evv (ev_of h3), hr.evv (ev_of h4), hr.evv (ev_of h5), hr.evv (ev_of h6), hr.evv (ev_of h7), Value.cells, ar8])) h'
end
end Go.Proofs.Ythlfdhooiekgjaa
/-
  Draws of supports. Condition: not too many bytes.
-/
namespace Go.Proofs.Ythlfdhooiekgjaa
open Go Go.RowKit
attribute [local irreducible] AWp AOps ResIs Ret1 QOp LOp COp AFnV AFn Imms LeE LeO
set_option maxHeartbeats 1000000
set_option linter.unusedSimpArgs false
set_option linter.unusedVariables false

/-- Some rows. -/
def IsXn (n : Nat) (T T2 : TypeId) (r : AV) (os : List AO) : Prop := ∃ xss : List (List Int), r = .own 0 ∧ os = [.sls T T2 xss] ∧ xss.length ≤ n
abbrev IsXss := IsXn 20
set_option maxHeartbeats 8000000 in
theorem l15Draw_c (bs : List Int) (hl : bs.length ≤ 1048576) (hbs : ∀ i, 0 ≤ geti bs i ∧ geti bs i ≤ 255) (most : Int) (hm : 0 ≤ most ∧ most ≤ 1000) :
    AFnZ Try.prog 77 72 bs [.int .i64 most] (IsXn 9 38 2) := by
  have h7 := l01Next_c bs hl hbs 7 (by omega)
  have h4 := l01Next_c bs hl hbs 4 (by omega)
  have hm1 := l01Next_c bs hl hbs (most + 1) (by omega)
  have hm0 := l01Next_c bs hl hbs most (by omega)
  (refine AFnZ.start Try.func77 Try.ntmps77 rfl (by kernel_rfl) fun K vC => ?_; simp only [Env.start, enumF, List.map_cons, List.map_nil, List.length_cons, List.length_nil, Nat.reduceAdd, Nat.reduceSub, Nat.zero_add, List.cons_append, List.nil_append])
  repeat' (first
  | (apply AOps.nil; try simp only [List.nil_append, List.cons_append, List.set_cons_zero, List.set_cons_succ, List.length_cons, List.length_nil, Nat.reduceAdd, AV.sh, AV.sh1, AV.sh0, AO.sh, List.map_cons, List.map_nil, Nat.zero_add, Nat.add_zero, setAll])
  | ((apply AOps.splitP; exact rfl; exact rfl) <;> intro h)
  | ((apply AOps.splitN; exact rfl; exact rfl) <;> intro h)
  | (apply w_move; exact rfl; exact rfl)
  | (apply w_assign; exact rfl; exact rfl)
  | apply AWp.seq
  | apply AWp.region
  | ((apply AWp.condP; exact rfl) <;> intro h)
  | ((apply AWp.condN; exact rfl) <;> intro h)
  | (apply AWp.condT; exact rfl)
  | (apply AWp.condF; exact rfl)
  | ((apply AWp.condB; exact rfl) <;> intro h)
  | apply AWp.block
  | apply AWp.ret
  | apply AWp.exit
  | apply AWp.skip
  | (apply if_pos'; exact rfl)
  | (apply if_neg'; decide)
  | (apply w_skip; exact rfl)
  | (apply w_pickT; exact rfl; exact rfl; exact rfl)
  | (apply w_pickF; exact rfl; exact rfl; exact rfl)
  | (apply w_len; exact rfl; exact rfl; first | exact .ints _ | exact .intss _ | exact .sli rfl | exact .sls rfl | exact .slr rfl | exact .orow rfl | exact .nil)
  | ((first | apply w_bsr0 | apply w_bs0); iterate 1 exact rfl)
  | ((first | apply w_bsr1 | apply w_lss | apply w_leq | apply w_gtr | apply w_geq | apply w_eql | apply w_neq | apply w_add | apply w_sub | apply w_mul | apply w_idx | apply w_ld | apply w_fld | apply w_fa | apply w_extv | apply w_min | apply w_max | apply w_slhi | apply w_sllo | apply w_bs2); iterate 3 exact rfl)
  | (apply w_appr; exact rfl; exact rfl; exact rfl; exact rfl; exact rfl; exact rfl; exact rfl; rotate_left 1; simp only [Env.mp, List.map_cons, List.map_nil, List.set_cons_zero, List.set_cons_succ, AV.kill, AV.kill1, AO.kill, AV.rin, AV.rin1, AV.noRow, AV.noRow1, AO.via, reduceIte, Nat.reduceEqDiff, Nat.reduceLT, Env.up, Nat.zero_ne_one, Nat.one_ne_zero, Nat.reduceAdd, List.cons_append, List.nil_append]; rotate_left 1)
  | ((first | apply w_nilck | apply w_convu | apply w_convi | apply w_not | apply w_neg | apply w_conv | apply w_build0 | apply w_bs1 | apply w_boxa); iterate 2 exact rfl)
  | (apply w_lenby; exact rfl; exact rfl; (first | exact rdB_by _ | exact rdB_ro _ _))
  | (apply w_idxby; exact rfl; exact rfl; (first | exact rdB_by _ | exact rdB_ro _ _); exact rfl)
  | (apply w_ldby; exact rfl; exact rfl; (focus exact rfl))
  | (apply w_umul; exact rfl; exact rfl; exact rfl; intro cU hU)
  | (apply w_uadd; exact rfl; exact rfl; exact rfl; intro cU hU)
  | (apply w_ushr; exact rfl; exact rfl; exact rfl; (focus (first | assumption | omega)); intro cU hU)
  | (apply w_uand; exact rfl; exact rfl; exact rfl; (focus (first | assumption | omega)); intro cU hU)
  | (apply w_convbi; exact rfl; exact rfl; exact hbs _)
  | (apply w_convbu; exact rfl; exact rfl; exact hbs _)
  | (apply w_build23; exact rfl; exact rfl; exact rfl; exact rfl; (first | exact one_by | exact one_rb); exact one_val rfl rfl)
  | (apply w_callso (h7); exact rfl; exact rfl; exact rfl; exact rfl; (first | exact rdB_by _ | exact rdB_ro _ _); (rintro _ ⟨x, rfl, hx⟩))
  | omega
  | ((first | apply w_eqlb | apply w_neqb | apply w_idxs | apply w_lds | apply w_ext); iterate 3 exact rfl)
  | (apply w_rem; exact rfl; exact rfl; exact rfl; (focus (omega; done)); (focus (omega; done)))
  | (apply w_quo; exact rfl; exact rfl; exact rfl; (focus (omega; done)); (focus (omega; done)))
  | (apply w_remT; exact rfl; exact rfl; exact rfl)
  | (apply w_quoT; exact rfl; exact rfl; exact rfl)
  | (apply w_idxo; exact rfl; exact rfl; (first | exact .sli rfl | exact .sls rfl | exact .slr rfl); exact rfl)
  | ((first | apply w_idxr | apply w_ldr); iterate 4 exact rfl)
  | (apply w_ldo; iterate 4 exact rfl)
  | (apply w_ldls; iterate 4 exact rfl)
  | (apply w_ldrp; iterate 4 exact rfl)
  | (apply w_ldb; iterate 5 exact rfl)
  | (apply w_ldst; iterate 5 exact rfl)
  | ((first | apply w_sllh | apply w_stbi); iterate 4 exact rfl)
  | ((first | apply w_oslo | apply w_oshi | apply w_stbii); iterate 4 exact rfl)
  | (apply w_build1; exact rfl; exact rfl; (first | exact one_val rfl rfl | exact one_ints | exact one_intss | exact one_own rfl True.intro))
  | (apply w_build2; exact rfl; exact rfl; exact rfl; (first | exact one_val rfl rfl | exact one_ints | exact one_intss | exact one_own rfl True.intro); (first | exact one_val rfl rfl | exact one_ints | exact one_intss | exact one_own rfl True.intro))
  | (apply w_appn; exact rfl; exact rfl; (first | exact .ints _ | exact .sli rfl | exact .orow rfl | exact .nil | exact .osub rfl (by simp; omega)); exact rfl)
  | (apply w_app; exact rfl; exact rfl; exact rfl; exact rfl; (first | exact .ints _ | exact .sli rfl | exact .orow rfl | exact .nil | exact .osub rfl (by simp; omega)); rotate_left 1; simp only [Env.mp, List.map_cons, List.map_nil, List.set_cons_zero, List.set_cons_succ, AV.kill, AV.kill1, AO.kill, AV.noRow, AV.noRow1, AO.via, reduceIte, Nat.reduceEqDiff, Nat.reduceLT, Env.up, Nat.zero_ne_one, Nat.one_ne_zero, Nat.reduceAdd, List.cons_append, List.nil_append]; rotate_left 1)
  | (apply w_alst; iterate 2 exact rfl)
  | (apply w_alone; iterate 3 exact rfl)
  | (apply w_mki; exact rfl; exact rfl; rotate_left 3; exact rfl; rotate_left 1)
  | (apply w_mkr; exact rfl; exact rfl; rotate_left 3; exact rfl; rotate_left 1)
  | (apply w_sti; exact rfl; exact rfl; rotate_left 1; exact rfl; rotate_left 2)
  | (apply w_stst; iterate 5 exact rfl)
  | (apply w_stbv; iterate 6 exact rfl)
  | (apply w_stbo; exact rfl; exact rfl; exact rfl; exact rfl; exact rfl; exact True.intro)
  | ((apply AOps.splitB; exact rfl; exact rfl) <;> intro h)
  | apply AllOf.nil
  | (apply AllOf.cons; exact rfl)
  | (apply AAny.take; exact rfl; exact rfl; kernel_rfl; kernel_rfl)
  | (apply AAny.all; exact rfl)
  | (apply AAny.done; exact rfl)
  | (apply inI_of <;> omega)
  | omega
  | (simp <;> omega))
  refine AWp.loop (ι := Int × List (List Int)) (fun s => ⟨44, [(0, .optr 1 0), (1, .i most), (5, .own 2), (6, .i s.1)]⟩) (fun s => [.keep 2 K, skO 72 bs (.ro (roB vC bs)), .sls 38 2 s.2]) (fun s => 0 ≤ s.1 ∧ s.1 + s.2.length ≤ 7) (fun s => s.1.toNat) (1 + x, []) ⟨by simp only; omega, by simp; omega⟩ ⟨lee rfl (by (repeat (first | exact le_nil | refine le_eq rfl rfl ?_ | refine le_eq rfl (congrArg AV.i (by omega)) ?_))), by (repeat (first | exact lo_nil | refine lo_dead ?_ | refine lo_eq rfl ?_)), rfl, rfl⟩ ?_
  rintro ⟨k, xss⟩ ⟨k0, k1⟩
  simp only at k0 k1
  by_cases hk : 0 < k
  · repeat' (first
  | (apply AOps.nil; try simp only [List.nil_append, List.cons_append, List.set_cons_zero, List.set_cons_succ, List.length_cons, List.length_nil, Nat.reduceAdd, AV.sh, AV.sh1, AV.sh0, AO.sh, List.map_cons, List.map_nil, Nat.zero_add, Nat.add_zero, setAll])
  | ((apply AOps.splitP; exact rfl; exact rfl) <;> intro h)
  | ((apply AOps.splitN; exact rfl; exact rfl) <;> intro h)
  | (apply w_move; exact rfl; exact rfl)
  | (apply w_assign; exact rfl; exact rfl)
  | apply AWp.seq
  | apply AWp.region
  | ((apply AWp.condP; exact rfl) <;> intro h)
  | ((apply AWp.condN; exact rfl) <;> intro h)
  | (apply AWp.condT; exact rfl)
  | (apply AWp.condF; exact rfl)
  | ((apply AWp.condB; exact rfl) <;> intro h)
  | apply AWp.block
  | apply AWp.ret
  | apply AWp.exit
  | apply AWp.skip
  | (apply if_pos'; exact rfl)
  | (apply if_neg'; decide)
  | (apply w_skip; exact rfl)
  | (apply w_pickT; exact rfl; exact rfl; exact rfl)
  | (apply w_pickF; exact rfl; exact rfl; exact rfl)
  | (apply w_len; exact rfl; exact rfl; first | exact .ints _ | exact .intss _ | exact .sli rfl | exact .sls rfl | exact .slr rfl | exact .orow rfl | exact .nil)
  | ((first | apply w_bsr0 | apply w_bs0); iterate 1 exact rfl)
  | ((first | apply w_bsr1 | apply w_lss | apply w_leq | apply w_gtr | apply w_geq | apply w_eql | apply w_neq | apply w_add | apply w_sub | apply w_mul | apply w_idx | apply w_ld | apply w_fld | apply w_fa | apply w_extv | apply w_min | apply w_max | apply w_slhi | apply w_sllo | apply w_bs2); iterate 3 exact rfl)
  | (apply w_appr; exact rfl; exact rfl; exact rfl; exact rfl; exact rfl; exact rfl; exact rfl; rotate_left 1; simp only [Env.mp, List.map_cons, List.map_nil, List.set_cons_zero, List.set_cons_succ, AV.kill, AV.kill1, AO.kill, AV.rin, AV.rin1, AV.noRow, AV.noRow1, AO.via, reduceIte, Nat.reduceEqDiff, Nat.reduceLT, Env.up, Nat.zero_ne_one, Nat.one_ne_zero, Nat.reduceAdd, List.cons_append, List.nil_append]; rotate_left 1)
  | ((first | apply w_nilck | apply w_convu | apply w_convi | apply w_not | apply w_neg | apply w_conv | apply w_build0 | apply w_bs1 | apply w_boxa); iterate 2 exact rfl)
  | (apply w_lenby; exact rfl; exact rfl; (first | exact rdB_by _ | exact rdB_ro _ _))
  | (apply w_idxby; exact rfl; exact rfl; (first | exact rdB_by _ | exact rdB_ro _ _); exact rfl)
  | (apply w_ldby; exact rfl; exact rfl; (focus exact rfl))
  | (apply w_umul; exact rfl; exact rfl; exact rfl; intro cU hU)
  | (apply w_uadd; exact rfl; exact rfl; exact rfl; intro cU hU)
  | (apply w_ushr; exact rfl; exact rfl; exact rfl; (focus (first | assumption | omega)); intro cU hU)
  | (apply w_uand; exact rfl; exact rfl; exact rfl; (focus (first | assumption | omega)); intro cU hU)
  | (apply w_convbi; exact rfl; exact rfl; exact hbs _)
  | (apply w_convbu; exact rfl; exact rfl; exact hbs _)
  | (apply w_build23; exact rfl; exact rfl; exact rfl; exact rfl; (first | exact one_by | exact one_rb); exact one_val rfl rfl)
  | (apply w_callso (hm1); exact rfl; exact rfl; exact rfl; exact rfl; (first | exact rdB_by _ | exact rdB_ro _ _); (rintro _ ⟨x, rfl, hx⟩))
  | omega
  | ((first | apply w_eqlb | apply w_neqb | apply w_idxs | apply w_lds | apply w_ext); iterate 3 exact rfl)
  | (apply w_rem; exact rfl; exact rfl; exact rfl; (focus (omega; done)); (focus (omega; done)))
  | (apply w_quo; exact rfl; exact rfl; exact rfl; (focus (omega; done)); (focus (omega; done)))
  | (apply w_remT; exact rfl; exact rfl; exact rfl)
  | (apply w_quoT; exact rfl; exact rfl; exact rfl)
  | (apply w_idxo; exact rfl; exact rfl; (first | exact .sli rfl | exact .sls rfl | exact .slr rfl); exact rfl)
  | ((first | apply w_idxr | apply w_ldr); iterate 4 exact rfl)
  | (apply w_ldo; iterate 4 exact rfl)
  | (apply w_ldls; iterate 4 exact rfl)
  | (apply w_ldrp; iterate 4 exact rfl)
  | (apply w_ldb; iterate 5 exact rfl)
  | (apply w_ldst; iterate 5 exact rfl)
  | ((first | apply w_sllh | apply w_stbi); iterate 4 exact rfl)
  | ((first | apply w_oslo | apply w_oshi | apply w_stbii); iterate 4 exact rfl)
  | (apply w_build1; exact rfl; exact rfl; (first | exact one_val rfl rfl | exact one_ints | exact one_intss | exact one_own rfl True.intro))
  | (apply w_build2; exact rfl; exact rfl; exact rfl; (first | exact one_val rfl rfl | exact one_ints | exact one_intss | exact one_own rfl True.intro); (first | exact one_val rfl rfl | exact one_ints | exact one_intss | exact one_own rfl True.intro))
  | (apply w_appn; exact rfl; exact rfl; (first | exact .ints _ | exact .sli rfl | exact .orow rfl | exact .nil | exact .osub rfl (by simp; omega)); exact rfl)
  | (apply w_app; exact rfl; exact rfl; exact rfl; exact rfl; (first | exact .ints _ | exact .sli rfl | exact .orow rfl | exact .nil | exact .osub rfl (by simp; omega)); rotate_left 1; simp only [Env.mp, List.map_cons, List.map_nil, List.set_cons_zero, List.set_cons_succ, AV.kill, AV.kill1, AO.kill, AV.noRow, AV.noRow1, AO.via, reduceIte, Nat.reduceEqDiff, Nat.reduceLT, Env.up, Nat.zero_ne_one, Nat.one_ne_zero, Nat.reduceAdd, List.cons_append, List.nil_append]; rotate_left 1)
  | (apply w_alst; iterate 2 exact rfl)
  | (apply w_alone; iterate 3 exact rfl)
  | (apply w_mki; exact rfl; exact rfl; rotate_left 3; exact rfl; rotate_left 1)
  | (apply w_mkr; exact rfl; exact rfl; rotate_left 3; exact rfl; rotate_left 1)
  | (apply w_sti; exact rfl; exact rfl; rotate_left 1; exact rfl; rotate_left 2)
  | (apply w_stst; iterate 5 exact rfl)
  | (apply w_stbv; iterate 6 exact rfl)
  | (apply w_stbo; exact rfl; exact rfl; exact rfl; exact rfl; exact rfl; exact True.intro)
  | ((apply AOps.splitB; exact rfl; exact rfl) <;> intro h)
  | apply AllOf.nil
  | (apply AllOf.cons; exact rfl)
  | (apply AAny.take; exact rfl; exact rfl; kernel_rfl; kernel_rfl)
  | (apply AAny.all; exact rfl)
  | (apply AAny.done; exact rfl)
  | (apply inI_of <;> omega)
  | omega
  | (simp <;> omega))
    exact ⟨(k - 1, xss ++ [[_, _]]), ⟨by simp only; omega, by simp only [List.length_append, List.length_cons, List.length_nil]; omega⟩, by simp only; omega, ⟨lee rfl (by (repeat (first | exact le_nil | refine le_eq rfl rfl ?_ | refine le_eq rfl (congrArg AV.i (by omega)) ?_))), by (repeat (first | exact lo_nil | refine lo_dead ?_ | refine lo_eq rfl ?_)), rfl, rfl⟩⟩
  · repeat' (first
  | (apply AOps.nil; try simp only [List.nil_append, List.cons_append, List.set_cons_zero, List.set_cons_succ, List.length_cons, List.length_nil, Nat.reduceAdd, AV.sh, AV.sh1, AV.sh0, AO.sh, List.map_cons, List.map_nil, Nat.zero_add, Nat.add_zero, setAll])
  | ((apply AOps.splitP; exact rfl; exact rfl) <;> intro h)
  | ((apply AOps.splitN; exact rfl; exact rfl) <;> intro h)
  | (apply w_move; exact rfl; exact rfl)
  | (apply w_assign; exact rfl; exact rfl)
  | apply AWp.seq
  | apply AWp.region
  | ((apply AWp.condP; exact rfl) <;> intro h)
  | ((apply AWp.condN; exact rfl) <;> intro h)
  | (apply AWp.condT; exact rfl)
  | (apply AWp.condF; exact rfl)
  | ((apply AWp.condB; exact rfl) <;> intro h)
  | apply AWp.block
  | apply AWp.ret
  | apply AWp.exit
  | apply AWp.skip
  | (apply if_pos'; exact rfl)
  | (apply if_neg'; decide)
  | (apply w_skip; exact rfl)
  | (apply w_pickT; exact rfl; exact rfl; exact rfl)
  | (apply w_pickF; exact rfl; exact rfl; exact rfl)
  | (apply w_len; exact rfl; exact rfl; first | exact .ints _ | exact .intss _ | exact .sli rfl | exact .sls rfl | exact .slr rfl | exact .orow rfl | exact .nil)
  | ((first | apply w_nilck | apply w_convu | apply w_convi | apply w_not | apply w_neg | apply w_conv | apply w_build0 | apply w_bs1 | apply w_boxa); iterate 2 exact rfl)
  | (apply w_lenby; exact rfl; exact rfl; (first | exact rdB_by _ | exact rdB_ro _ _))
  | (apply w_idxby; exact rfl; exact rfl; (first | exact rdB_by _ | exact rdB_ro _ _); exact rfl)
  | (apply w_ldby; exact rfl; exact rfl; (focus exact rfl))
  | (apply w_umul; exact rfl; exact rfl; exact rfl; intro cU hU)
  | (apply w_uadd; exact rfl; exact rfl; exact rfl; intro cU hU)
  | (apply w_ushr; exact rfl; exact rfl; exact rfl; (focus (first | assumption | omega)); intro cU hU)
  | (apply w_uand; exact rfl; exact rfl; exact rfl; (focus (first | assumption | omega)); intro cU hU)
  | (apply w_convbi; exact rfl; exact rfl; exact hbs _)
  | (apply w_convbu; exact rfl; exact rfl; exact hbs _)
  | (apply w_build23; exact rfl; exact rfl; exact rfl; exact rfl; (first | exact one_by | exact one_rb); exact one_val rfl rfl)
  | (apply w_bsr2s; exact rfl; exact rfl; exact rfl; exact rfl; exact rfl; exact rfl; exact rfl; exact rfl; simp only [Env.mp, List.map_cons, List.map_nil, List.set_cons_zero, List.set_cons_succ, AV.kill, AV.kill1, AO.kill, AV.lose, AV.lose1, List.map_append, map_orow_kill, AV.noRow, AV.noRow1, AO.via, reduceIte, Nat.reduceEqDiff, Nat.reduceLT, Env.up, Nat.zero_ne_one, Nat.one_ne_zero, Nat.reduceAdd, List.cons_append, List.nil_append])
  | (apply w_apprs; exact rfl; exact rfl; exact rfl; exact rfl; exact rfl; exact rfl; rotate_left 1; simp only [Env.mp, List.map_cons, List.map_nil, List.set_cons_zero, List.set_cons_succ, AV.kill, AV.kill1, AO.kill, AV.lose, AV.lose1, List.map_append, map_orow_kill, AV.noRow, AV.noRow1, AO.via, reduceIte, Nat.reduceEqDiff, Nat.reduceLT, Env.up, Nat.zero_ne_one, Nat.one_ne_zero, Nat.reduceAdd, List.cons_append, List.nil_append]; rotate_left 1)
  | (apply w_callso (h4); exact rfl; exact rfl; exact rfl; exact rfl; (first | exact rdB_by _ | exact rdB_ro _ _); (rintro _ ⟨x, rfl, hx⟩))
  | (apply w_callso (hm0); exact rfl; exact rfl; exact rfl; exact rfl; (first | exact rdB_by _ | exact rdB_ro _ _); (rintro _ ⟨y, rfl, hy⟩))
  | omega
  | ((first | apply w_lss | apply w_leq | apply w_gtr | apply w_geq | apply w_eql | apply w_neq | apply w_add | apply w_sub | apply w_mul | apply w_idx | apply w_ld | apply w_fld | apply w_fa | apply w_extv | apply w_min | apply w_max | apply w_slhi | apply w_sllo | apply w_bs2); iterate 3 exact rfl)
  | ((first | apply w_eqlb | apply w_neqb | apply w_idxs | apply w_lds | apply w_ext); iterate 3 exact rfl)
  | (apply w_rem; exact rfl; exact rfl; exact rfl; (focus (omega; done)); (focus (omega; done)))
  | (apply w_quo; exact rfl; exact rfl; exact rfl; (focus (omega; done)); (focus (omega; done)))
  | (apply w_remT; exact rfl; exact rfl; exact rfl)
  | (apply w_quoT; exact rfl; exact rfl; exact rfl)
  | (apply w_idxo; exact rfl; exact rfl; (first | exact .sli rfl | exact .sls rfl | exact .slr rfl); exact rfl)
  | ((first | apply w_idxr | apply w_ldr); iterate 4 exact rfl)
  | (apply w_ldo; iterate 4 exact rfl)
  | (apply w_ldls; iterate 4 exact rfl)
  | (apply w_ldrp; iterate 4 exact rfl)
  | (apply w_ldb; iterate 5 exact rfl)
  | (apply w_ldst; iterate 5 exact rfl)
  | ((first | apply w_sllh | apply w_stbi); iterate 4 exact rfl)
  | ((first | apply w_oslo | apply w_oshi | apply w_stbii); iterate 4 exact rfl)
  | (apply w_build1; exact rfl; exact rfl; (first | exact one_val rfl rfl | exact one_ints | exact one_intss | exact one_own rfl True.intro))
  | (apply w_build2; exact rfl; exact rfl; exact rfl; (first | exact one_val rfl rfl | exact one_ints | exact one_intss | exact one_own rfl True.intro); (first | exact one_val rfl rfl | exact one_ints | exact one_intss | exact one_own rfl True.intro))
  | (apply w_bs0; iterate 1 exact rfl)
  | (apply w_appn; exact rfl; exact rfl; (first | exact .ints _ | exact .sli rfl | exact .orow rfl | exact .nil | exact .osub rfl (by simp; omega)); exact rfl)
  | (apply w_app; exact rfl; exact rfl; exact rfl; exact rfl; (first | exact .ints _ | exact .sli rfl | exact .orow rfl | exact .nil | exact .osub rfl (by simp; omega)); rotate_left 1; simp only [Env.mp, List.map_cons, List.map_nil, List.set_cons_zero, List.set_cons_succ, AV.kill, AV.kill1, AO.kill, AV.noRow, AV.noRow1, AO.via, reduceIte, Nat.reduceEqDiff, Nat.reduceLT, Env.up, Nat.zero_ne_one, Nat.one_ne_zero, Nat.reduceAdd, List.cons_append, List.nil_append]; rotate_left 1)
  | (apply w_alst; iterate 2 exact rfl)
  | (apply w_alone; iterate 3 exact rfl)
  | (apply w_mki; exact rfl; exact rfl; rotate_left 3; exact rfl; rotate_left 1)
  | (apply w_mkr; exact rfl; exact rfl; rotate_left 3; exact rfl; rotate_left 1)
  | (apply w_sti; exact rfl; exact rfl; rotate_left 1; exact rfl; rotate_left 2)
  | (apply w_stst; iterate 5 exact rfl)
  | (apply w_stbv; iterate 6 exact rfl)
  | (apply w_stbo; exact rfl; exact rfl; exact rfl; exact rfl; exact rfl; exact True.intro)
  | ((apply AOps.splitB; exact rfl; exact rfl) <;> intro h)
  | apply AllOf.nil
  | (apply AllOf.cons; exact rfl)
  | (apply AAny.take; exact rfl; exact rfl; kernel_rfl; kernel_rfl)
  | (apply AAny.all; exact rfl)
  | (apply AAny.done; exact rfl)
  | (apply inI_of <;> omega)
  | omega
  | (simp <;> omega))
    all_goals exact ⟨_, _, _, _, .v1 Try.results77 rfl, rfl, .sls rfl, _, rfl, rfl, by (try simp only [List.length_append, List.length_cons, List.length_nil]); omega⟩
set_option maxHeartbeats 8000000 in
theorem l15DrawAny_c (bs : List Int) (hl : bs.length ≤ 1048576) (hbs : ∀ i, 0 ≤ geti bs i ∧ geti bs i ≤ 255) (most : Int) (hm : 0 ≤ most ∧ most ≤ 1000) :
    AFnZ Try.prog 64 72 bs [.int .i64 most] (IsXss 38 2) := by
  have hd := l15Draw_c bs hl hbs most hm
  have h24 := l01Next_c bs hl hbs 24 (by omega)
  have hp : AFnL Try.prog 48 72 bs [-1, 61] (fun rv => ∃ y, rv = .int .i64 y ∧ (y = -1 ∨ y = 61)) :=
    (l01Pick_c bs hl hbs [-1, 61] ⟨by simp, by simp⟩).mono fun _ ⟨y, e, hy⟩ => ⟨y, e, by simp at hy; omega⟩
  (refine AFnZ.start Try.func64 Try.ntmps64 rfl (by kernel_rfl) fun K vC => ?_; simp only [Env.start, enumF, List.map_cons, List.map_nil, List.length_cons, List.length_nil, Nat.reduceAdd, Nat.reduceSub, Nat.zero_add, List.cons_append, List.nil_append])
  repeat' (first
  | (apply AOps.nil; try simp only [List.nil_append, List.cons_append, List.set_cons_zero, List.set_cons_succ, List.length_cons, List.length_nil, Nat.reduceAdd, AV.sh, AV.sh1, AV.sh0, AO.sh, List.map_cons, List.map_nil, Nat.zero_add, Nat.add_zero, setAll])
  | ((apply AOps.splitP; exact rfl; exact rfl) <;> intro h)
  | ((apply AOps.splitN; exact rfl; exact rfl) <;> intro h)
  | (apply w_move; exact rfl; exact rfl)
  | (apply w_assign; exact rfl; exact rfl)
  | apply AWp.seq
  | apply AWp.region
  | ((apply AWp.condP; exact rfl) <;> intro h)
  | ((apply AWp.condN; exact rfl) <;> intro h)
  | (apply AWp.condT; exact rfl)
  | (apply AWp.condF; exact rfl)
  | ((apply AWp.condB; exact rfl) <;> intro h)
  | apply AWp.block
  | apply AWp.ret
  | apply AWp.exit
  | apply AWp.skip
  | (apply if_pos'; exact rfl)
  | (apply if_neg'; decide)
  | (apply w_skip; exact rfl)
  | (apply w_pickT; exact rfl; exact rfl; exact rfl)
  | (apply w_pickF; exact rfl; exact rfl; exact rfl)
  | (apply w_len; exact rfl; exact rfl; first | exact .ints _ | exact .intss _ | exact .sli rfl | exact .sls rfl | exact .slr rfl | exact .orow rfl | exact .nil)
  | ((first | apply w_bsr0 | apply w_bs0); iterate 1 exact rfl)
  | ((first | apply w_bsr1 | apply w_lss | apply w_leq | apply w_gtr | apply w_geq | apply w_eql | apply w_neq | apply w_add | apply w_sub | apply w_mul | apply w_idx | apply w_ld | apply w_fld | apply w_fa | apply w_extv | apply w_min | apply w_max | apply w_slhi | apply w_sllo | apply w_bs2); iterate 3 exact rfl)
  | (apply w_appr; exact rfl; exact rfl; exact rfl; exact rfl; exact rfl; exact rfl; exact rfl; rotate_left 1; simp only [Env.mp, List.map_cons, List.map_nil, List.set_cons_zero, List.set_cons_succ, AV.kill, AV.kill1, AO.kill, AV.rin, AV.rin1, AV.noRow, AV.noRow1, AO.via, reduceIte, Nat.reduceEqDiff, Nat.reduceLT, Env.up, Nat.zero_ne_one, Nat.one_ne_zero, Nat.reduceAdd, List.cons_append, List.nil_append]; rotate_left 1)
  | ((first | apply w_nilck | apply w_convu | apply w_convi | apply w_not | apply w_neg | apply w_conv | apply w_build0 | apply w_bs1 | apply w_boxa); iterate 2 exact rfl)
  | (apply w_lenby; exact rfl; exact rfl; (first | exact rdB_by _ | exact rdB_ro _ _))
  | (apply w_idxby; exact rfl; exact rfl; (first | exact rdB_by _ | exact rdB_ro _ _); exact rfl)
  | (apply w_ldby; exact rfl; exact rfl; (focus exact rfl))
  | (apply w_umul; exact rfl; exact rfl; exact rfl; intro cU hU)
  | (apply w_uadd; exact rfl; exact rfl; exact rfl; intro cU hU)
  | (apply w_ushr; exact rfl; exact rfl; exact rfl; (focus (first | assumption | omega)); intro cU hU)
  | (apply w_uand; exact rfl; exact rfl; exact rfl; (focus (first | assumption | omega)); intro cU hU)
  | (apply w_convbi; exact rfl; exact rfl; exact hbs _)
  | (apply w_convbu; exact rfl; exact rfl; exact hbs _)
  | (apply w_build23; exact rfl; exact rfl; exact rfl; exact rfl; (first | exact one_by | exact one_rb); exact one_val rfl rfl)
  | (apply w_callsoo (hd); exact rfl; exact rfl; exact rfl; exact rfl; (first | exact rdB_by _ | exact rdB_ro _ _); exact rfl; (rintro r os0 ⟨xss, rfl, rfl, hx⟩; try simp only [List.nil_append, List.cons_append, List.set_cons_zero, List.set_cons_succ, List.length_cons, List.length_nil, Nat.reduceAdd, AV.sh, AV.sh1, AV.sh0, AO.sh, List.map_cons, List.map_nil, Nat.zero_add, Nat.add_zero, setAll]))
  | (apply w_callso (h24); exact rfl; exact rfl; exact rfl; exact rfl; (first | exact rdB_by _ | exact rdB_ro _ _); (rintro _ ⟨x, rfl, hx2⟩))
  | (apply w_callsol (hp); exact rfl; exact rfl; exact rfl; exact rfl; (first | exact rdB_by _ | exact rdB_ro _ _); exact rfl; (rintro _ ⟨y, rfl, hy⟩))
  | omega
  | ((first | apply w_eqlb | apply w_neqb | apply w_idxs | apply w_lds | apply w_ext); iterate 3 exact rfl)
  | (apply w_rem; exact rfl; exact rfl; exact rfl; (focus (omega; done)); (focus (omega; done)))
  | (apply w_quo; exact rfl; exact rfl; exact rfl; (focus (omega; done)); (focus (omega; done)))
  | (apply w_remT; exact rfl; exact rfl; exact rfl)
  | (apply w_quoT; exact rfl; exact rfl; exact rfl)
  | (apply w_idxo; exact rfl; exact rfl; (first | exact .sli rfl | exact .sls rfl | exact .slr rfl); exact rfl)
  | ((first | apply w_idxr | apply w_ldr); iterate 4 exact rfl)
  | (apply w_ldo; iterate 4 exact rfl)
  | (apply w_ldls; iterate 4 exact rfl)
  | (apply w_ldrp; iterate 4 exact rfl)
  | (apply w_ldb; iterate 5 exact rfl)
  | (apply w_ldst; iterate 5 exact rfl)
  | ((first | apply w_sllh | apply w_stbi); iterate 4 exact rfl)
  | ((first | apply w_oslo | apply w_oshi | apply w_stbii); iterate 4 exact rfl)
  | (apply w_build1; exact rfl; exact rfl; (first | exact one_val rfl rfl | exact one_ints | exact one_intss | exact one_own rfl True.intro))
  | (apply w_build2; exact rfl; exact rfl; exact rfl; (first | exact one_val rfl rfl | exact one_ints | exact one_intss | exact one_own rfl True.intro); (first | exact one_val rfl rfl | exact one_ints | exact one_intss | exact one_own rfl True.intro))
  | (apply w_appn; exact rfl; exact rfl; (first | exact .ints _ | exact .sli rfl | exact .orow rfl | exact .nil | exact .osub rfl (by simp; omega)); exact rfl)
  | (apply w_app; exact rfl; exact rfl; exact rfl; exact rfl; (first | exact .ints _ | exact .sli rfl | exact .orow rfl | exact .nil | exact .osub rfl (by simp; omega)); rotate_left 1; simp only [Env.mp, List.map_cons, List.map_nil, List.set_cons_zero, List.set_cons_succ, AV.kill, AV.kill1, AO.kill, AV.noRow, AV.noRow1, AO.via, reduceIte, Nat.reduceEqDiff, Nat.reduceLT, Env.up, Nat.zero_ne_one, Nat.one_ne_zero, Nat.reduceAdd, List.cons_append, List.nil_append]; rotate_left 1)
  | (apply w_alst; iterate 2 exact rfl)
  | (apply w_alone; iterate 3 exact rfl)
  | (apply w_mki; exact rfl; exact rfl; rotate_left 3; exact rfl; rotate_left 1)
  | (apply w_mkr; exact rfl; exact rfl; rotate_left 3; exact rfl; rotate_left 1)
  | (apply w_sti; exact rfl; exact rfl; rotate_left 1; exact rfl; rotate_left 2)
  | (apply w_stst; iterate 5 exact rfl)
  | (apply w_stbv; iterate 6 exact rfl)
  | (apply w_stbo; exact rfl; exact rfl; exact rfl; exact rfl; exact rfl; exact True.intro)
  | ((apply AOps.splitB; exact rfl; exact rfl) <;> intro h)
  | apply AllOf.nil
  | (apply AllOf.cons; exact rfl)
  | (apply AAny.take; exact rfl; exact rfl; kernel_rfl; kernel_rfl)
  | (apply AAny.all; exact rfl)
  | (apply AAny.done; exact rfl)
  | (apply inI_of <;> omega)
  | omega
  | (simp <;> omega))
  all_goals first
    | exact ⟨_, _, _, _, .v1 Try.results64 rfl, rfl, .sls rfl, _, rfl, rfl, by (try simp only [List.length_append, List.length_cons, List.length_nil]); omega⟩
    | exact ⟨_, _, _, _, .v1 Try.results64 rfl, rfl, .nils _ _, _, rfl, rfl, by simp⟩
end Go.Proofs.Ythlfdhooiekgjaa
/-
  Draws of supports, handed on; a state with less in it. Condition: not too many bytes.
-/
namespace Go.Proofs.Ythlfdhooiekgjaa
open Go Go.RowKit
/-- A state with less in it. -/
theorem AWp.cut {P : Program} {c : Code} {N : APost} {X : Nat → APost} {Rt : APost} {env env' : Env} {os os' : List AO} (f : Fit env os env' os' ∨ ∃ σ, FitS σ env os env' os') (h : AWp P c N X Rt env' os') : AWp P c N X Rt env os := by
  intro base w0 w gs tm hr hb
  rcases f with f | ⟨σ, f⟩
  · obtain ⟨gs2, r2⟩ := hr.fit f
    exact h base w0 w gs2 tm r2 hb
  · obtain ⟨gs2, r2⟩ := hr.fits f
    exact h base w0 w gs2 tm r2 hb
attribute [local irreducible] AWp AOps ResIs Ret1 QOp LOp COp AFnV AFn Imms LeE LeO
set_option maxHeartbeats 1000000
set_option linter.unusedSimpArgs false
set_option linter.unusedVariables false

theorem drawIs_c (bs : List Int) (hl : bs.length ≤ 1048576) (hbs : ∀ i, 0 ≤ geti bs i ∧ geti bs i ≤ 255) : AFn Try.prog 36 [.ro (byR bs)] (IsXss 38 2) := by
  have hf := l01From_c bs hl hbs
  have hp : AFnL Try.prog 48 72 bs [4, 12, 60] (fun rv => ∃ y, rv = .int .i64 y ∧ (y = 4 ∨ y = 12 ∨ y = 60)) :=
    (l01Pick_c bs hl hbs [4, 12, 60] ⟨by simp, by simp⟩).mono fun _ ⟨y, e, hy⟩ => ⟨y, e, by simp at hy; omega⟩
  have hd : ∀ y : Int, y = 4 ∨ y = 12 ∨ y = 60 → AFnZ Try.prog 64 72 bs [.int .i64 y] (IsXss 38 2) := fun y hy => l15DrawAny_c bs hl hbs y (by omega)
  (refine AFn.start Try.func36 Try.ntmps36 rfl (by kernel_rfl) fun hk => ?_; simp only [Env.start, enumF, List.length_cons, List.length_nil, Nat.reduceAdd, Nat.reduceSub, List.cons_append, List.nil_append])
  repeat' (first
  | (apply AOps.nil; try simp only [List.nil_append, List.cons_append, List.set_cons_zero, List.set_cons_succ, List.length_cons, List.length_nil, Nat.reduceAdd, AV.sh, AV.sh1, AV.sh0, AO.sh, List.map_cons, List.map_nil, Nat.zero_add, Nat.add_zero, setAll])
  | ((apply AOps.splitP; exact rfl; exact rfl) <;> intro h)
  | ((apply AOps.splitN; exact rfl; exact rfl) <;> intro h)
  | (apply w_move; exact rfl; exact rfl)
  | (apply w_assign; exact rfl; exact rfl)
  | apply AWp.seq
  | apply AWp.region
  | ((apply AWp.condP; exact rfl) <;> intro h)
  | ((apply AWp.condN; exact rfl) <;> intro h)
  | (apply AWp.condT; exact rfl)
  | (apply AWp.condF; exact rfl)
  | ((apply AWp.condB; exact rfl) <;> intro h)
  | apply AWp.block
  | apply AWp.ret
  | apply AWp.exit
  | apply AWp.skip
  | (apply if_pos'; exact rfl)
  | (apply if_neg'; decide)
  | (apply w_skip; exact rfl)
  | (apply w_pickT; exact rfl; exact rfl; exact rfl)
  | (apply w_pickF; exact rfl; exact rfl; exact rfl)
  | (apply w_len; exact rfl; exact rfl; first | exact .ints _ | exact .intss _ | exact .sli rfl | exact .sls rfl | exact .slr rfl | exact .orow rfl | exact .nil)
  | ((first | apply w_nilck | apply w_convu | apply w_convi | apply w_not | apply w_neg | apply w_conv | apply w_build0 | apply w_bs1 | apply w_boxa); iterate 2 exact rfl)
  | (apply w_lenby; exact rfl; exact rfl; (first | exact rdB_by _ | exact rdB_ro _ _))
  | (apply w_idxby; exact rfl; exact rfl; (first | exact rdB_by _ | exact rdB_ro _ _); exact rfl)
  | (apply w_ldby; exact rfl; exact rfl; (focus exact rfl))
  | (apply w_umul; exact rfl; exact rfl; exact rfl; intro cU hU)
  | (apply w_uadd; exact rfl; exact rfl; exact rfl; intro cU hU)
  | (apply w_ushr; exact rfl; exact rfl; exact rfl; (focus (first | assumption | omega)); intro cU hU)
  | (apply w_uand; exact rfl; exact rfl; exact rfl; (focus (first | assumption | omega)); intro cU hU)
  | (apply w_convbi; exact rfl; exact rfl; exact hbs _)
  | (apply w_convbu; exact rfl; exact rfl; exact hbs _)
  | (apply w_build23; exact rfl; exact rfl; exact rfl; exact rfl; (first | exact one_by | exact one_rb); exact one_val rfl rfl)
  | ((first | apply w_slshi | apply w_slslo | apply w_bs3 | apply w_sllh | apply w_stbi); iterate 4 exact rfl)
  | (apply w_storp; exact rfl; exact rfl; rotate_left 2; exact rfl; rotate_left 2)
  | (apply w_callsof (hf); exact rfl; (first | exact rdB_by _ | exact rdB_ro _ _); exact rfl; try simp only [List.nil_append, List.cons_append, List.set_cons_zero, List.set_cons_succ, List.length_cons, List.length_nil, Nat.reduceAdd, AV.sh, AV.sh1, AV.sh0, AO.sh, List.map_cons, List.map_nil, Nat.zero_add, Nat.add_zero, setAll])
  | (apply w_callsol (hp); exact rfl; exact rfl; exact rfl; exact rfl; (first | exact rdB_by _ | exact rdB_ro _ _); exact rfl; (rintro _ ⟨y, rfl, hy⟩))
  | (apply w_callsoo ((hd _ (by assumption))); exact rfl; exact rfl; exact rfl; exact rfl; (first | exact rdB_by _ | exact rdB_ro _ _); exact rfl; (rintro r os0 ⟨xss, rfl, rfl, hx⟩; try simp only [List.nil_append, List.cons_append, List.set_cons_zero, List.set_cons_succ, List.length_cons, List.length_nil, Nat.reduceAdd, AV.sh, AV.sh1, AV.sh0, AO.sh, List.map_cons, List.map_nil, Nat.zero_add, Nat.add_zero, setAll]))
  | omega
  | ((first | apply w_lss | apply w_leq | apply w_gtr | apply w_geq | apply w_eql | apply w_neq | apply w_add | apply w_sub | apply w_mul | apply w_idx | apply w_ld | apply w_fld | apply w_fa | apply w_extv | apply w_min | apply w_max | apply w_slhi | apply w_sllo | apply w_bs2); iterate 3 exact rfl)
  | ((first | apply w_eqlb | apply w_neqb | apply w_idxs | apply w_lds | apply w_ext); iterate 3 exact rfl)
  | (apply w_rem; exact rfl; exact rfl; exact rfl; (focus (omega; done)); (focus (omega; done)))
  | (apply w_quo; exact rfl; exact rfl; exact rfl; (focus (omega; done)); (focus (omega; done)))
  | (apply w_remT; exact rfl; exact rfl; exact rfl)
  | (apply w_quoT; exact rfl; exact rfl; exact rfl)
  | (apply w_idxo; exact rfl; exact rfl; (first | exact .sli rfl | exact .sls rfl | exact .slr rfl); exact rfl)
  | ((first | apply w_idxr | apply w_ldr); iterate 4 exact rfl)
  | (apply w_ldo; iterate 4 exact rfl)
  | (apply w_ldls; iterate 4 exact rfl)
  | (apply w_ldrp; iterate 4 exact rfl)
  | (apply w_ldb; iterate 5 exact rfl)
  | (apply w_ldst; iterate 5 exact rfl)
  | ((first | apply w_oslo | apply w_oshi | apply w_stbii); iterate 4 exact rfl)
  | (apply w_build1; exact rfl; exact rfl; (first | exact one_val rfl rfl | exact one_ints | exact one_intss | exact one_own rfl True.intro))
  | (apply w_build2; exact rfl; exact rfl; exact rfl; (first | exact one_val rfl rfl | exact one_ints | exact one_intss | exact one_own rfl True.intro); (first | exact one_val rfl rfl | exact one_ints | exact one_intss | exact one_own rfl True.intro))
  | (apply w_bs0; iterate 1 exact rfl)
  | (apply w_appn; exact rfl; exact rfl; (first | exact .ints _ | exact .sli rfl | exact .orow rfl | exact .nil | exact .osub rfl (by simp; omega)); exact rfl)
  | (apply w_app; exact rfl; exact rfl; exact rfl; exact rfl; (first | exact .ints _ | exact .sli rfl | exact .orow rfl | exact .nil | exact .osub rfl (by simp; omega)); rotate_left 1; simp only [Env.mp, List.map_cons, List.map_nil, List.set_cons_zero, List.set_cons_succ, AV.kill, AV.kill1, AO.kill, AV.noRow, AV.noRow1, AO.via, reduceIte, Nat.reduceEqDiff, Nat.reduceLT, Env.up, Nat.zero_ne_one, Nat.one_ne_zero, Nat.reduceAdd, List.cons_append, List.nil_append]; rotate_left 1)
  | (apply w_alst; iterate 2 exact rfl)
  | (apply w_alone; iterate 3 exact rfl)
  | (apply w_mki; exact rfl; exact rfl; rotate_left 3; exact rfl; rotate_left 1)
  | (apply w_mkr; exact rfl; exact rfl; rotate_left 3; exact rfl; rotate_left 1)
  | (apply w_sti; exact rfl; exact rfl; rotate_left 1; exact rfl; rotate_left 2)
  | (apply w_stst; iterate 5 exact rfl)
  | (apply w_stbv; iterate 6 exact rfl)
  | (apply w_stbo; exact rfl; exact rfl; exact rfl; exact rfl; exact rfl; exact True.intro)
  | ((apply AOps.splitB; exact rfl; exact rfl) <;> intro h)
  | apply AllOf.nil
  | (apply AllOf.cons; exact rfl)
  | (apply AAny.take; exact rfl; exact rfl; kernel_rfl; kernel_rfl)
  | (apply AAny.all; exact rfl)
  | (apply AAny.done; exact rfl)
  | (apply inI_of <;> omega)
  | omega
  | (simp <;> omega))
  all_goals exact ⟨_, _, _, .v1 Try.results36 rfl, .sls rfl, xss, rfl, rfl, hx⟩
theorem drawNV_c (bs : List Int) (hl : bs.length ≤ 1048576) (hbs : ∀ i, 0 ≤ geti bs i ∧ geti bs i ≤ 255) : AFn Try.prog 6 [.ro (byR bs)] (IsXss 38 2) := by
  have hd := drawIs_c bs hl hbs
  (refine AFn.start Try.func6 Try.ntmps6 rfl (by kernel_rfl) fun hk => ?_; simp only [Env.start, enumF, List.length_cons, List.length_nil, Nat.reduceAdd, Nat.reduceSub, List.cons_append, List.nil_append])
  repeat' (first
  | (apply AOps.nil; try simp only [List.nil_append, List.cons_append, List.set_cons_zero, List.set_cons_succ, List.length_cons, List.length_nil, Nat.reduceAdd, AV.sh, AV.sh1, AV.sh0, AO.sh, List.map_cons, List.map_nil, Nat.zero_add, Nat.add_zero, setAll])
  | ((apply AOps.splitP; exact rfl; exact rfl) <;> intro h)
  | ((apply AOps.splitN; exact rfl; exact rfl) <;> intro h)
  | (apply w_move; exact rfl; exact rfl)
  | (apply w_assign; exact rfl; exact rfl)
  | apply AWp.seq
  | apply AWp.region
  | ((apply AWp.condP; exact rfl) <;> intro h)
  | ((apply AWp.condN; exact rfl) <;> intro h)
  | (apply AWp.condT; exact rfl)
  | (apply AWp.condF; exact rfl)
  | ((apply AWp.condB; exact rfl) <;> intro h)
  | apply AWp.block
  | apply AWp.ret
  | apply AWp.exit
  | apply AWp.skip
  | (apply if_pos'; exact rfl)
  | (apply if_neg'; decide)
  | (apply w_skip; exact rfl)
  | (apply w_pickT; exact rfl; exact rfl; exact rfl)
  | (apply w_pickF; exact rfl; exact rfl; exact rfl)
  | (apply w_len; exact rfl; exact rfl; first | exact .ints _ | exact .intss _ | exact .sli rfl | exact .sls rfl | exact .slr rfl | exact .orow rfl | exact .nil)
  | ((first | apply w_nilck | apply w_convu | apply w_convi | apply w_not | apply w_neg | apply w_conv | apply w_build0 | apply w_bs1 | apply w_boxa); iterate 2 exact rfl)
  | (apply w_lenby; exact rfl; exact rfl; (first | exact rdB_by _ | exact rdB_ro _ _))
  | (apply w_idxby; exact rfl; exact rfl; (first | exact rdB_by _ | exact rdB_ro _ _); exact rfl)
  | (apply w_ldby; exact rfl; exact rfl; (focus exact rfl))
  | (apply w_umul; exact rfl; exact rfl; exact rfl; intro cU hU)
  | (apply w_uadd; exact rfl; exact rfl; exact rfl; intro cU hU)
  | (apply w_ushr; exact rfl; exact rfl; exact rfl; (focus (first | assumption | omega)); intro cU hU)
  | (apply w_uand; exact rfl; exact rfl; exact rfl; (focus (first | assumption | omega)); intro cU hU)
  | (apply w_convbi; exact rfl; exact rfl; exact hbs _)
  | (apply w_convbu; exact rfl; exact rfl; exact hbs _)
  | (apply w_build23; exact rfl; exact rfl; exact rfl; exact rfl; (first | exact one_by | exact one_rb); exact one_val rfl rfl)
  | (apply w_callm (hd); (focus ((repeat (first | exact im_nil | refine im_cons rfl (.ro _) ?_ | refine im_cons rfl (.val _) ?_ | refine im_cons rfl (.ints _) ?_ | refine im_cons rfl (.intss _) ?_ | refine im_cons rfl (.sli rfl) ?_ | refine im_cons rfl (.sls rfl) ?_ | refine im_cons rfl (.orow rfl) ?_ | refine im_cons rfl (.osub rfl (by simp; omega)) ?_ | refine im_cons rfl (.nil) ?_ | refine im_cons rfl (.nils) ?_ | refine im_cons rfl (im_agg2 (.val _) (.ints _)) ?_ | refine im_cons rfl (im_agg2 (.val _) (.sli rfl)) ?_ | refine im_cons rfl (im_agg2 (.val _) (.nil)) ?_ | refine im_cons rfl (im_agg2 (.ints _) (.intss _)) ?_ | refine im_cons rfl (im_agg2 (.ints _) (.sls rfl)) ?_ | refine im_cons rfl (im_agg2 (.sli rfl) (.intss _)) ?_ | refine im_cons rfl (im_agg2 (.sli rfl) (.sls rfl)) ?_ | refine im_cons rfl (im_agg1 (.ints _)) ?_ | refine im_cons rfl (im_agg1 (.sli rfl)) ?_ | refine im_cons rfl (im_agg1 (.intss _)) ?_ | refine im_cons rfl (im_agg1 (.sls rfl)) ?_ | refine im_cons rfl (im_agg1 (.nil)) ?_ | refine im_cons rfl (im_agg1 (.nils)) ?_)); done)); rintro r os0 ⟨xss, rfl, rfl, hx⟩; try simp only [List.nil_append, List.cons_append, List.set_cons_zero, List.set_cons_succ, List.length_cons, List.length_nil, Nat.reduceAdd, AV.sh, AV.sh1, AV.sh0, AO.sh, List.map_cons, List.map_nil, Nat.zero_add, Nat.add_zero, setAll])
  | omega
  | ((first | apply w_lss | apply w_leq | apply w_gtr | apply w_geq | apply w_eql | apply w_neq | apply w_add | apply w_sub | apply w_mul | apply w_idx | apply w_ld | apply w_fld | apply w_fa | apply w_extv | apply w_min | apply w_max | apply w_slhi | apply w_sllo | apply w_bs2); iterate 3 exact rfl)
  | ((first | apply w_eqlb | apply w_neqb | apply w_idxs | apply w_lds | apply w_ext); iterate 3 exact rfl)
  | (apply w_rem; exact rfl; exact rfl; exact rfl; (focus (omega; done)); (focus (omega; done)))
  | (apply w_quo; exact rfl; exact rfl; exact rfl; (focus (omega; done)); (focus (omega; done)))
  | (apply w_remT; exact rfl; exact rfl; exact rfl)
  | (apply w_quoT; exact rfl; exact rfl; exact rfl)
  | (apply w_idxo; exact rfl; exact rfl; (first | exact .sli rfl | exact .sls rfl | exact .slr rfl); exact rfl)
  | ((first | apply w_idxr | apply w_ldr); iterate 4 exact rfl)
  | (apply w_ldo; iterate 4 exact rfl)
  | (apply w_ldls; iterate 4 exact rfl)
  | (apply w_ldrp; iterate 4 exact rfl)
  | (apply w_ldb; iterate 5 exact rfl)
  | (apply w_ldst; iterate 5 exact rfl)
  | ((first | apply w_sllh | apply w_stbi); iterate 4 exact rfl)
  | ((first | apply w_oslo | apply w_oshi | apply w_stbii); iterate 4 exact rfl)
  | (apply w_build1; exact rfl; exact rfl; (first | exact one_val rfl rfl | exact one_ints | exact one_intss | exact one_own rfl True.intro))
  | (apply w_build2; exact rfl; exact rfl; exact rfl; (first | exact one_val rfl rfl | exact one_ints | exact one_intss | exact one_own rfl True.intro); (first | exact one_val rfl rfl | exact one_ints | exact one_intss | exact one_own rfl True.intro))
  | (apply w_bs0; iterate 1 exact rfl)
  | (apply w_appn; exact rfl; exact rfl; (first | exact .ints _ | exact .sli rfl | exact .orow rfl | exact .nil | exact .osub rfl (by simp; omega)); exact rfl)
  | (apply w_app; exact rfl; exact rfl; exact rfl; exact rfl; (first | exact .ints _ | exact .sli rfl | exact .orow rfl | exact .nil | exact .osub rfl (by simp; omega)); rotate_left 1; simp only [Env.mp, List.map_cons, List.map_nil, List.set_cons_zero, List.set_cons_succ, AV.kill, AV.kill1, AO.kill, AV.noRow, AV.noRow1, AO.via, reduceIte, Nat.reduceEqDiff, Nat.reduceLT, Env.up, Nat.zero_ne_one, Nat.one_ne_zero, Nat.reduceAdd, List.cons_append, List.nil_append]; rotate_left 1)
  | (apply w_alst; iterate 2 exact rfl)
  | (apply w_alone; iterate 3 exact rfl)
  | (apply w_mki; exact rfl; exact rfl; rotate_left 3; exact rfl; rotate_left 1)
  | (apply w_mkr; exact rfl; exact rfl; rotate_left 3; exact rfl; rotate_left 1)
  | (apply w_sti; exact rfl; exact rfl; rotate_left 1; exact rfl; rotate_left 2)
  | (apply w_stst; iterate 5 exact rfl)
  | (apply w_stbv; iterate 6 exact rfl)
  | (apply w_stbo; exact rfl; exact rfl; exact rfl; exact rfl; exact rfl; exact True.intro)
  | ((apply AOps.splitB; exact rfl; exact rfl) <;> intro h)
  | apply AllOf.nil
  | (apply AllOf.cons; exact rfl)
  | (apply AAny.take; exact rfl; exact rfl; kernel_rfl; kernel_rfl)
  | (apply AAny.all; exact rfl)
  | (apply AAny.done; exact rfl)
  | (apply inI_of <;> omega)
  | omega
  | (simp <;> omega))
  all_goals exact ⟨_, _, _, .v1 Try.results6 rfl, .sls rfl, xss, rfl, rfl, hx⟩
/-- Some rows and two numbers. -/
def IsXpq (T T2 : TypeId) (r : AV) (os : List AO) : Prop := ∃ (xss : List (List Int)) (p q : Int), r = .tup [.own 0, .i p, .i q] ∧ os = [.sls T T2 xss] ∧ xss.length ≤ 20
theorem drawSV_c (bs : List Int) (hl : bs.length ≤ 1048576) (hbs : ∀ i, 0 ≤ geti bs i ∧ geti bs i ≤ 255) : AFn Try.prog 16 [.ro (byR bs)] (IsXpq 38 2) := by
  have hf := l01From_c bs hl hbs
  have hd := drawIs_c bs hl hbs
  have h20 := l01Next_c bs hl hbs 20 (by omega)
  have h24 := l01Next_c bs hl hbs 24 (by omega)
  have hp := l01Pick_c bs hl hbs [0, 1, 2, 3, 5, 8, 1000, 1001] ⟨by simp, by simp⟩
  (refine AFn.start Try.func16 Try.ntmps16 rfl (by kernel_rfl) fun hk => ?_; simp only [Env.start, enumF, List.length_cons, List.length_nil, Nat.reduceAdd, Nat.reduceSub, List.cons_append, List.nil_append])
  repeat' (first
  | (apply AOps.nil; try simp only [List.nil_append, List.cons_append, List.set_cons_zero, List.set_cons_succ, List.length_cons, List.length_nil, Nat.reduceAdd, AV.sh, AV.sh1, AV.sh0, AO.sh, List.map_cons, List.map_nil, Nat.zero_add, Nat.add_zero, setAll])
  | ((apply AOps.splitP; exact rfl; exact rfl) <;> intro h)
  | ((apply AOps.splitN; exact rfl; exact rfl) <;> intro h)
  | (apply w_move; exact rfl; exact rfl)
  | (apply w_assign; exact rfl; exact rfl)
  | apply AWp.seq
  | apply AWp.region
  | ((apply AWp.condP; exact rfl) <;> intro h)
  | ((apply AWp.condN; exact rfl) <;> intro h)
  | (apply AWp.condT; exact rfl)
  | (apply AWp.condF; exact rfl)
  | ((apply AWp.condB; exact rfl) <;> intro h)
  | apply AWp.block
  | apply AWp.ret
  | apply AWp.exit
  | apply AWp.skip
  | (apply if_pos'; exact rfl)
  | (apply if_neg'; decide)
  | (apply w_skip; exact rfl)
  | (apply w_pickT; exact rfl; exact rfl; exact rfl)
  | (apply w_pickF; exact rfl; exact rfl; exact rfl)
  | (apply w_len; exact rfl; exact rfl; first | exact .ints _ | exact .intss _ | exact .sli rfl | exact .sls rfl | exact .slr rfl | exact .orow rfl | exact .nil)
  | ((first | apply w_nilck | apply w_convu | apply w_convi | apply w_not | apply w_neg | apply w_conv | apply w_build0 | apply w_bs1 | apply w_boxa); iterate 2 exact rfl)
  | (apply w_lenby; exact rfl; exact rfl; (first | exact rdB_by _ | exact rdB_ro _ _))
  | (apply w_idxby; exact rfl; exact rfl; (first | exact rdB_by _ | exact rdB_ro _ _); exact rfl)
  | (apply w_ldby; exact rfl; exact rfl; (focus exact rfl))
  | (apply w_umul; exact rfl; exact rfl; exact rfl; intro cU hU)
  | (apply w_uadd; exact rfl; exact rfl; exact rfl; intro cU hU)
  | (apply w_ushr; exact rfl; exact rfl; exact rfl; (focus (first | assumption | omega)); intro cU hU)
  | (apply w_uand; exact rfl; exact rfl; exact rfl; (focus (first | assumption | omega)); intro cU hU)
  | (apply w_convbi; exact rfl; exact rfl; exact hbs _)
  | (apply w_convbu; exact rfl; exact rfl; exact hbs _)
  | (apply w_build23; exact rfl; exact rfl; exact rfl; exact rfl; (first | exact one_by | exact one_rb); exact one_val rfl rfl)
  | (apply w_bs8; iterate 9 exact rfl)
  | (apply w_callsof (hf); exact rfl; (first | exact rdB_by _ | exact rdB_ro _ _); exact rfl; try simp only [List.nil_append, List.cons_append, List.set_cons_zero, List.set_cons_succ, List.length_cons, List.length_nil, Nat.reduceAdd, AV.sh, AV.sh1, AV.sh0, AO.sh, List.map_cons, List.map_nil, Nat.zero_add, Nat.add_zero, setAll])
  | (apply w_callm (hd); (focus ((repeat (first | exact im_nil | refine im_cons rfl (.ro _) ?_ | refine im_cons rfl (.val _) ?_ | refine im_cons rfl (.ints _) ?_ | refine im_cons rfl (.intss _) ?_ | refine im_cons rfl (.sli rfl) ?_ | refine im_cons rfl (.sls rfl) ?_ | refine im_cons rfl (.orow rfl) ?_ | refine im_cons rfl (.osub rfl (by simp; omega)) ?_ | refine im_cons rfl (.nil) ?_ | refine im_cons rfl (.nils) ?_ | refine im_cons rfl (im_agg2 (.val _) (.ints _)) ?_ | refine im_cons rfl (im_agg2 (.val _) (.sli rfl)) ?_ | refine im_cons rfl (im_agg2 (.val _) (.nil)) ?_ | refine im_cons rfl (im_agg2 (.ints _) (.intss _)) ?_ | refine im_cons rfl (im_agg2 (.ints _) (.sls rfl)) ?_ | refine im_cons rfl (im_agg2 (.sli rfl) (.intss _)) ?_ | refine im_cons rfl (im_agg2 (.sli rfl) (.sls rfl)) ?_ | refine im_cons rfl (im_agg1 (.ints _)) ?_ | refine im_cons rfl (im_agg1 (.sli rfl)) ?_ | refine im_cons rfl (im_agg1 (.intss _)) ?_ | refine im_cons rfl (im_agg1 (.sls rfl)) ?_ | refine im_cons rfl (im_agg1 (.nil)) ?_ | refine im_cons rfl (im_agg1 (.nils)) ?_)); done)); rintro r os0 ⟨xss, rfl, rfl, hx⟩; try simp only [List.nil_append, List.cons_append, List.set_cons_zero, List.set_cons_succ, List.length_cons, List.length_nil, Nat.reduceAdd, AV.sh, AV.sh1, AV.sh0, AO.sh, List.map_cons, List.map_nil, Nat.zero_add, Nat.add_zero, setAll])
  | (apply w_callso (h20); exact rfl; exact rfl; exact rfl; exact rfl; (first | exact rdB_by _ | exact rdB_ro _ _); (rintro _ ⟨x, rfl, hx2⟩))
  | (apply w_callso (h24); exact rfl; exact rfl; exact rfl; exact rfl; (first | exact rdB_by _ | exact rdB_ro _ _); (rintro _ ⟨y, rfl, hy⟩))
  | (apply w_callsol (hp); exact rfl; exact rfl; exact rfl; exact rfl; (first | exact rdB_by _ | exact rdB_ro _ _); exact rfl; (rintro _ ⟨z, rfl, hz⟩))
  | omega
  | ((first | apply w_lss | apply w_leq | apply w_gtr | apply w_geq | apply w_eql | apply w_neq | apply w_add | apply w_sub | apply w_mul | apply w_idx | apply w_ld | apply w_fld | apply w_fa | apply w_extv | apply w_min | apply w_max | apply w_slhi | apply w_sllo | apply w_bs2); iterate 3 exact rfl)
  | ((first | apply w_eqlb | apply w_neqb | apply w_idxs | apply w_lds | apply w_ext); iterate 3 exact rfl)
  | (apply w_rem; exact rfl; exact rfl; exact rfl; (focus (omega; done)); (focus (omega; done)))
  | (apply w_quo; exact rfl; exact rfl; exact rfl; (focus (omega; done)); (focus (omega; done)))
  | (apply w_remT; exact rfl; exact rfl; exact rfl)
  | (apply w_quoT; exact rfl; exact rfl; exact rfl)
  | (apply w_idxo; exact rfl; exact rfl; (first | exact .sli rfl | exact .sls rfl | exact .slr rfl); exact rfl)
  | ((first | apply w_idxr | apply w_ldr); iterate 4 exact rfl)
  | (apply w_ldo; iterate 4 exact rfl)
  | (apply w_ldls; iterate 4 exact rfl)
  | (apply w_ldrp; iterate 4 exact rfl)
  | (apply w_ldb; iterate 5 exact rfl)
  | (apply w_ldst; iterate 5 exact rfl)
  | ((first | apply w_sllh | apply w_stbi); iterate 4 exact rfl)
  | ((first | apply w_oslo | apply w_oshi | apply w_stbii); iterate 4 exact rfl)
  | (apply w_build1; exact rfl; exact rfl; (first | exact one_val rfl rfl | exact one_ints | exact one_intss | exact one_own rfl True.intro))
  | (apply w_build2; exact rfl; exact rfl; exact rfl; (first | exact one_val rfl rfl | exact one_ints | exact one_intss | exact one_own rfl True.intro); (first | exact one_val rfl rfl | exact one_ints | exact one_intss | exact one_own rfl True.intro))
  | (apply w_bs0; iterate 1 exact rfl)
  | (apply w_appn; exact rfl; exact rfl; (first | exact .ints _ | exact .sli rfl | exact .orow rfl | exact .nil | exact .osub rfl (by simp; omega)); exact rfl)
  | (apply w_app; exact rfl; exact rfl; exact rfl; exact rfl; (first | exact .ints _ | exact .sli rfl | exact .orow rfl | exact .nil | exact .osub rfl (by simp; omega)); rotate_left 1; simp only [Env.mp, List.map_cons, List.map_nil, List.set_cons_zero, List.set_cons_succ, AV.kill, AV.kill1, AO.kill, AV.noRow, AV.noRow1, AO.via, reduceIte, Nat.reduceEqDiff, Nat.reduceLT, Env.up, Nat.zero_ne_one, Nat.one_ne_zero, Nat.reduceAdd, List.cons_append, List.nil_append]; rotate_left 1)
  | (apply w_alst; iterate 2 exact rfl)
  | (apply w_alone; iterate 3 exact rfl)
  | (apply w_mki; exact rfl; exact rfl; rotate_left 3; exact rfl; rotate_left 1)
  | (apply w_mkr; exact rfl; exact rfl; rotate_left 3; exact rfl; rotate_left 1)
  | (apply w_sti; exact rfl; exact rfl; rotate_left 1; exact rfl; rotate_left 2)
  | (apply w_stst; iterate 5 exact rfl)
  | (apply w_stbv; iterate 6 exact rfl)
  | (apply w_stbo; exact rfl; exact rfl; exact rfl; exact rfl; exact rfl; exact True.intro)
  | ((apply AOps.splitB; exact rfl; exact rfl) <;> intro h)
  | apply AllOf.nil
  | (apply AllOf.cons; exact rfl)
  | (apply AAny.take; exact rfl; exact rfl; kernel_rfl; kernel_rfl)
  | (apply AAny.all; exact rfl)
  | (apply AAny.done; exact rfl)
  | (apply inI_of <;> omega)
  | omega
  | (simp <;> omega))
  all_goals exact ⟨_, _, _, .a3 Try.results16 rfl rfl rfl, .tup3 (.sls rfl), xss, _, _, rfl, rfl, hx⟩
end Go.Proofs.Ythlfdhooiekgjaa
/-
  Contracts of the laws' own helpers over lists of lists. No condition but a bound on the sizes.
-/
namespace Go.Proofs.Ythlfdhooiekgjaa
open Go Go.RowKit
attribute [local irreducible] AWp AOps ResIs Ret1 QOp LOp COp AFnV AFn Imms LeE LeO
set_option maxHeartbeats 1000000
set_option linter.unusedSimpArgs false
set_option linter.unusedVariables false

/-- The new slice of rows that a function hands back alone. -/
def IsIntss (e e2 : TypeId) (xss : List (List Int)) (r : AV) (os : List AO) : Prop := r = .own 0 ∧ os = [.sls e e2 xss]

end Go.Proofs.Ythlfdhooiekgjaa
/-
  Supports: whether a list is one, and its values. No condition.
-/
namespace Go.Proofs.Ythlfdhooiekgjaa
open Go Go.RowKit
attribute [local irreducible] AWp AOps ResIs Ret1 QOp LOp COp AFnV AFn Imms LeE LeO
set_option maxHeartbeats 1000000
set_option linter.unusedSimpArgs false
set_option linter.unusedVariables false

/-- The i-th row of a support. -/
def SR (xss : List (List Int)) (i : Nat) : Prop :=
  (gets xss i).length = 2 ∧ (0 ≤ geti (gets xss i) 0 ∧ geti (gets xss i) 0 ≤ 60) ∧ (0 ≤ geti (gets xss i) 1 ∧ geti (gets xss i) 1 ≤ 60)
def IsSup (xss : List (List Int)) : Prop := (1 ≤ xss.length ∧ xss.length ≤ 200) ∧ ∀ j, j < xss.length → SR xss j
noncomputable instance (xss : List (List Int)) : Decidable (IsSup xss) := Classical.propDecidable _
noncomputable def isSup (xss : List (List Int)) : Bool := decide (IsSup xss)

theorem isSup_false {xss : List (List Int)} {i : Nat} (hi : i < xss.length) (h : ¬ SR xss i) : false = isSup xss := (decide_eq_false fun hz => h (hz.2 i hi)).symm
theorem isSup_bad {xss : List (List Int)} (h : ¬ (1 ≤ xss.length ∧ xss.length ≤ 200)) : false = isSup xss := (decide_eq_false fun hz => h hz.1).symm
theorem isSup_all {xss : List (List Int)} (h : ∀ j, j < xss.length → SR xss j) : isSup xss = decide (1 ≤ xss.length ∧ xss.length ≤ 200) := by
  unfold isSup
  by_cases h2 : 1 ≤ xss.length ∧ xss.length ≤ 200
  · rw [decide_eq_true ⟨h2, h⟩, decide_eq_true h2]
  · rw [decide_eq_false (fun hz => h2 hz.1), decide_eq_false h2]
theorem isSup_of {xss : List (List Int)} (h : isSup xss = true) : (1 ≤ xss.length ∧ xss.length ≤ 200) ∧ ∀ j, j < xss.length → SR xss j := of_decide_eq_true (p := IsSup xss) h

theorem within2 {xs : List Int} {a b : Int} (hl : xs.length = 2) : withinL xs a b = decide ((a ≤ geti xs 0 ∧ geti xs 0 ≤ b) ∧ (a ≤ geti xs 1 ∧ geti xs 1 ≤ b)) := by
  match xs, hl with
  | [x, y], _ => simp [withinL, geti]

theorem l15Is_c (xss : List (List Int)) : AFnV Try.prog 38 [.intss xss] (.bool (isSup xss)) := by
  (refine AFnV.start Try.func38 Try.ntmps38 rfl (by kernel_rfl) fun hk0 => ?_; simp only [Env.start, enumF, List.length_cons, List.length_nil, Nat.reduceAdd, Nat.reduceSub, List.cons_append, List.nil_append])
  obtain ⟨hk, hl⟩ : ArgOk (.intss xss) := hk0 _ (by simp)
  repeat' (first | (apply AOps.nil; try simp only [List.nil_append, List.cons_append, List.set_cons_zero, List.set_cons_succ, List.length_cons, List.length_nil, Nat.reduceAdd, AV.sh, AV.sh1, AV.sh0, AO.sh, List.map_cons, List.map_nil, Nat.zero_add, Nat.add_zero, setAll]) | (apply w_assign; exact rfl; exact rfl) | apply AWp.seq | apply AWp.region | apply AWp.block)
  refine AWp.loop (ι := Nat) (fun i => ⟨44, [(0, .intss xss), (3, .i i)]⟩) (fun _ => []) (fun i => i ≤ xss.length ∧ ∀ j, j < i → SR xss j) (fun i => xss.length - i) 0 ⟨by omega, fun j hj => by omega⟩ ⟨lee rfl (by (repeat (first | exact le_nil | refine le_eq rfl rfl ?_))), by (repeat (exact lo_nil)), rfl, rfl⟩ ?_
  rintro i ⟨h0, h1⟩
  repeat' (first | (apply AOps.nil; try simp only [List.nil_append, List.cons_append, List.set_cons_zero, List.set_cons_succ, List.length_cons, List.length_nil, Nat.reduceAdd, AV.sh, AV.sh1, AV.sh0, AO.sh, List.map_cons, List.map_nil, Nat.zero_add, Nat.add_zero, setAll]) | ((apply AOps.splitP; exact rfl; exact rfl) <;> intro h) | ((apply AOps.splitN; exact rfl; exact rfl) <;> intro h) | (apply w_move; exact rfl; exact rfl) | (apply w_assign; exact rfl; exact rfl) | apply AWp.seq | apply AWp.region | ((apply AWp.condP; exact rfl) <;> intro h) | ((apply AWp.condN; exact rfl) <;> intro h) | (apply AWp.condT; exact rfl) | apply AWp.block | apply AWp.ret | apply AWp.exit | apply AWp.skip | (apply w_skip; exact rfl) | (apply w_pickT; exact rfl; exact rfl; exact rfl) | (apply w_pickF; exact rfl; exact rfl; exact rfl) | (apply w_len; exact rfl; exact rfl; first | exact .ints _ | exact .intss _ | exact .sli rfl | exact .sls rfl | exact .slr rfl | exact .orow rfl | exact .nil) | (apply w_call (l01In_c _ _ _); exact rfl; exact rfl; focus ((repeat (first | exact im_nil | refine im_cons rfl (.val _) ?_)); done)) | ((first | apply w_lss | apply w_leq | apply w_geq | apply w_neq | apply w_add | apply w_idx | apply w_ld); iterate 3 exact rfl) | ((first | apply w_idxs | apply w_lds); iterate 3 exact rfl) | ((apply w_not); iterate 2 exact rfl) | (apply inI_of <;> omega) | omega)
  all_goals first
      | exact .bool Try.results38 rfl (isSup_false (i := i) (by omega) (fun hz => by unfold SR at hz; omega))
      | (refine ⟨i + 1, ⟨by omega, fun j hj => ?_⟩, by omega, ⟨lee rfl (by (repeat (first | exact le_nil | refine le_eq rfl rfl ?_))), by (repeat (exact lo_nil)), rfl, rfl⟩⟩
         by_cases e : j = i
         · subst e
           unfold SR
           omega
         · exact h1 j (by omega))
      | (have e : i = xss.length := by omega
         subst e
         exact .bool Try.results38 rfl (by rw [isSup_all h1, Bool.eq_iff_iff]; simp; omega))

theorem within2_c (xs : List Int) (hl : xs.length = 2) : AFnV Try.prog 41 [.ints xs, .i 0, .i 60] (.bool (decide ((0 ≤ geti xs 0 ∧ geti xs 0 ≤ 60) ∧ (0 ≤ geti xs 1 ∧ geti xs 1 ≤ 60)))) := by
  rw [← within2 hl]; exact within_c xs 0 60

theorem implIsSupport_c (xss : List (List Int)) : AFnV Try.prog 10 [.intss xss] (.bool (isSup xss)) := by
  (refine AFnV.start Try.func10 Try.ntmps10 rfl (by kernel_rfl) fun hk0 => ?_; simp only [Env.start, enumF, List.length_cons, List.length_nil, Nat.reduceAdd, Nat.reduceSub, List.cons_append, List.nil_append])
  obtain ⟨hk, hl⟩ : ArgOk (.intss xss) := hk0 _ (by simp)
  repeat' (first | (apply AOps.nil; try simp only [List.nil_append, List.cons_append, List.set_cons_zero, List.set_cons_succ, List.length_cons, List.length_nil, Nat.reduceAdd, AV.sh, AV.sh1, AV.sh0, AO.sh, List.map_cons, List.map_nil, Nat.zero_add, Nat.add_zero, setAll]) | ((apply AOps.splitP; exact rfl; exact rfl) <;> intro h) | (apply w_move; exact rfl; exact rfl) | (apply w_assign; exact rfl; exact rfl) | apply AWp.seq | apply AWp.region | ((apply AWp.condP; exact rfl) <;> intro h) | (apply AWp.condT; exact rfl) | apply AWp.block | apply AWp.ret | apply AWp.skip | (apply w_skip; exact rfl) | (apply w_pickT; exact rfl; exact rfl; exact rfl) | (apply w_pickF; exact rfl; exact rfl; exact rfl) | (apply w_len; exact rfl; exact rfl; first | exact .ints _ | exact .intss _ | exact .sli rfl | exact .sls rfl | exact .slr rfl | exact .orow rfl | exact .nil) | ((first | apply w_lss | apply w_gtr); iterate 3 exact rfl))
  · exact .bool Try.results10 rfl (isSup_bad (by omega))
  · exact .bool Try.results10 rfl (isSup_bad (by omega))
  refine AWp.loop (ι := Nat) (fun i => ⟨28, [(0, .intss xss), (13, .intss xss), (14, .i xss.length), (15, .i i)]⟩) (fun _ => []) (fun i => i ≤ xss.length ∧ ∀ j, j < i → SR xss j) (fun i => xss.length - i) 0 ⟨by omega, fun j hj => by omega⟩ ⟨lee rfl (by (repeat (first | exact le_nil | refine le_eq rfl rfl ?_))), by (repeat (exact lo_nil)), rfl, rfl⟩ ?_
  rintro i ⟨h0, h1⟩
  repeat' (first | (apply AOps.nil; try simp only [List.nil_append, List.cons_append, List.set_cons_zero, List.set_cons_succ, List.length_cons, List.length_nil, Nat.reduceAdd, AV.sh, AV.sh1, AV.sh0, AO.sh, List.map_cons, List.map_nil, Nat.zero_add, Nat.add_zero, setAll]) | ((apply AOps.splitP; exact rfl; exact rfl) <;> intro h) | (apply w_move; exact rfl; exact rfl) | (apply w_assign; exact rfl; exact rfl) | apply AWp.seq | apply AWp.region | ((apply AWp.condP; exact rfl) <;> intro h) | (apply AWp.condT; exact rfl) | ((apply AWp.condB; exact rfl) <;> intro h) | apply AWp.block | apply AWp.ret | apply AWp.exit | apply AWp.skip | (apply w_skip; exact rfl) | (apply w_pickT; exact rfl; exact rfl; exact rfl) | (apply w_pickF; exact rfl; exact rfl; exact rfl) | (apply w_len; exact rfl; exact rfl; first | exact .ints _ | exact .intss _ | exact .sli rfl | exact .sls rfl | exact .slr rfl | exact .orow rfl | exact .nil) | (apply w_call (within_c _ _ _); exact rfl; exact rfl; focus ((repeat (first | exact im_nil | refine im_cons rfl (.val _) ?_ | refine im_cons rfl (.ints _) ?_)); done)) | ((first | apply w_lss | apply w_neq | apply w_add | apply w_idx | apply w_ld); iterate 3 exact rfl) | ((first | apply w_idxs | apply w_lds); iterate 3 exact rfl) | ((apply w_not); iterate 2 exact rfl) | (apply inI_of <;> omega) | omega)
  all_goals first
    | (refine .bool Try.results10 rfl (isSup_false (i := i) ?_ ?_)
       · omega
       · intro hz
         unfold SR at hz
         first
           | omega
           | (rw [within2 (by omega)] at h
              simp at h
              omega))
    | (have hw := h
       rw [within2 (by omega)] at hw
       simp at hw
       refine ⟨i + 1, ⟨by omega, fun j hj => ?_⟩, by omega, ⟨lee rfl (by (repeat (first | exact le_nil | refine le_eq rfl rfl ?_))), by (repeat (exact lo_nil)), rfl, rfl⟩⟩
       by_cases e : j = i
       · subst e
         unfold SR
         omega
       · exact h1 j (by omega))
    | (have e : i = xss.length := by omega
       subst e
       refine .bool Try.results10 rfl ?_
       rw [isSup_all h1, Bool.eq_iff_iff]
       simp
       omega)

theorem specIsSupport_c (xss : List (List Int)) : AFnV Try.prog 11 [.intss xss] (.bool (isSup xss)) := by
  (refine AFnV.start Try.func11 Try.ntmps11 rfl (by kernel_rfl) fun hk => ?_; simp only [Env.start, enumF, List.length_cons, List.length_nil, Nat.reduceAdd, Nat.reduceSub, List.cons_append, List.nil_append])
  repeat' (first | (apply AOps.nil; try simp only [List.nil_append, List.cons_append, List.set_cons_zero, List.set_cons_succ, List.length_cons, List.length_nil, Nat.reduceAdd, AV.sh, AV.sh1, AV.sh0, AO.sh, List.map_cons, List.map_nil, Nat.zero_add, Nat.add_zero, setAll]) | (apply w_move; exact rfl; exact rfl) | (apply w_assign; exact rfl; exact rfl) | apply AWp.seq | apply AWp.region | apply AWp.ret | (apply w_call (l15Is_c _); exact rfl; exact rfl; focus ((repeat (first | exact im_nil | refine im_cons rfl (.intss _) ?_)); done)))
  all_goals exact .bool Try.results11 rfl rfl

/-! ### Values -/
theorem mulS {p g : Int} (h0 : 0 ≤ p) (h1 : p ≤ 1000) (h2 : 0 ≤ g) (h3 : g ≤ 60) : 0 ≤ p * g ∧ p * g ≤ 60000 := by
  refine ⟨Int.mul_nonneg h0 h2, ?_⟩
  have := Int.mul_le_mul h1 h3 h2 (by omega : (0 : Int) ≤ 1000)
  omega

/-- The least value of the first row and the first k rows. -/
def svmin (xss : List (List Int)) (p q : Int) : Nat → Int
  | 0 => p * geti (gets xss 0) 0 + q * geti (gets xss 0) 1
  | k + 1 => min (svmin xss p q k) (p * geti (gets xss k) 0 + q * geti (gets xss k) 1)

theorem sv_in {xss : List (List Int)} (h : isSup xss = true) {p q : Int} (hp : 0 ≤ p ∧ p ≤ 1000) (hq : 0 ≤ q ∧ q ≤ 1000) (k : Nat) :
    (0 ≤ p * geti (gets xss k) 0 ∧ p * geti (gets xss k) 0 ≤ 60000) ∧ (0 ≤ q * geti (gets xss k) 1 ∧ q * geti (gets xss k) 1 ≤ 60000) := by
  by_cases hk : k < xss.length
  · have := (isSup_of h).2 k hk
    unfold SR at this
    exact ⟨mulS hp.1 hp.2 this.2.1.1 this.2.1.2, mulS hq.1 hq.2 this.2.2.1 this.2.2.2⟩
  · simp [gets, geti, List.getElem?_eq_none (show xss.length ≤ k by omega)]
theorem svmin_in {xss : List (List Int)} (h : isSup xss = true) {p q : Int} (hp : 0 ≤ p ∧ p ≤ 1000) (hq : 0 ≤ q ∧ q ≤ 1000) : ∀ k : Nat, 0 ≤ svmin xss p q k ∧ svmin xss p q k ≤ 120000
  | 0 => by have := sv_in h hp hq 0; simp only [svmin]; simp only [Int.natCast_zero] at this; omega
  | k + 1 => by
    have ih := svmin_in h hp hq k
    have := sv_in h hp hq k
    simp only [svmin]
    omega

noncomputable def svA (xss : List (List Int)) (p q : Int) : Int := if isSup xss = true ∧ (0 ≤ p ∧ p ≤ 1000) ∧ (0 ≤ q ∧ q ≤ 1000) then svmin xss p q xss.length else 0
noncomputable def svE (xss : List (List Int)) (p q : Int) : Int := if isSup xss = true then (if (0 ≤ p ∧ p ≤ 1000) ∧ (0 ≤ q ∧ q ≤ 1000) then 0 else 2) else 1

theorem specSupportValue_c (xss : List (List Int)) (p q : Int) : AFnV Try.prog 18 [.intss xss, .i p, .i q] (.tuple #[.int .i64 (svA xss p q), .int .i64 (svE xss p q)]) := by
  (refine AFnV.start Try.func18 Try.ntmps18 rfl (by kernel_rfl) fun hk => ?_; simp only [Env.start, enumF, List.length_cons, List.length_nil, Nat.reduceAdd, Nat.reduceSub, List.cons_append, List.nil_append])
  have c1 := l15Is_c xss
  cases h1 : isSup xss with
  | false =>
    rw [h1] at c1
    repeat' (first | (apply AOps.nil; try simp only [List.nil_append, List.cons_append, List.set_cons_zero, List.set_cons_succ, List.length_cons, List.length_nil, Nat.reduceAdd, AV.sh, AV.sh1, AV.sh0, AO.sh, List.map_cons, List.map_nil, Nat.zero_add, Nat.add_zero, setAll]) | (apply w_move; exact rfl; exact rfl) | (apply w_assign; exact rfl; exact rfl) | apply AWp.seq | apply AWp.region | (apply AWp.condT; exact rfl) | apply AWp.block | apply AWp.ret | (apply w_call (c1); exact rfl; exact rfl; focus ((repeat (first | exact im_nil | refine im_cons rfl (.intss _) ?_)); done)) | ((apply w_not); iterate 2 exact rfl))
    exact .intint Try.results18 rfl rfl (by simp [svA, h1]) (by simp [svE, h1])
  | true =>
  rw [h1] at c1
  by_cases hp : 0 ≤ p ∧ p ≤ 1000
  · by_cases hq : 0 ≤ q ∧ q ≤ 1000
    · obtain ⟨z1, z2⟩ := isSup_of h1
      have s0 := sv_in h1 hp hq 0
      have z0 := z2 0 (by omega)
      unfold SR at z0
      simp only [Int.natCast_zero] at s0 z0
      repeat' (first | (apply AOps.nil; try simp only [List.nil_append, List.cons_append, List.set_cons_zero, List.set_cons_succ, List.length_cons, List.length_nil, Nat.reduceAdd, AV.sh, AV.sh1, AV.sh0, AO.sh, List.map_cons, List.map_nil, Nat.zero_add, Nat.add_zero, setAll]) | ((apply AOps.splitN; exact rfl; exact rfl) <;> intro h) | (apply w_move; exact rfl; exact rfl) | (apply w_assign; exact rfl; exact rfl) | apply AWp.seq | apply AWp.region | ((apply AWp.condN; exact rfl) <;> intro h) | (apply AWp.condT; exact rfl) | (apply AWp.condF; exact rfl) | apply AWp.block | apply AWp.ret | apply AWp.skip | (apply AWp.regionQ; kernel_rfl; kernel_rfl) | (apply w_skip; exact rfl) | (apply w_pickT; exact rfl; exact rfl; exact rfl) | (apply w_pickF; exact rfl; exact rfl; exact rfl) | (apply w_call (c1); exact rfl; exact rfl; focus ((repeat (first | exact im_nil | refine im_cons rfl (.intss _) ?_)); done)) | (apply w_call (l01In_c _ _ _); exact rfl; exact rfl; focus ((repeat (first | exact im_nil | refine im_cons rfl (.val _) ?_)); done)) | ((first | apply w_add | apply w_mul | apply w_idx | apply w_ld); iterate 3 exact rfl) | ((first | apply w_idxs | apply w_lds); iterate 3 exact rfl) | ((apply w_not); iterate 2 exact rfl) | (apply inI_of <;> omega) | omega)
      refine AWp.loop (ι := Nat) (fun i => ⟨64, [(0, .intss xss), (1, .i p), (2, .i q), (8, .i (svmin xss p q i)), (9, .i i)]⟩) (fun _ => []) (fun i => i ≤ xss.length) (fun i => xss.length - i) 0 (by omega) ⟨lee rfl (by (repeat (first | exact le_nil | refine le_eq rfl rfl ?_))), by (repeat (exact lo_nil)), rfl, rfl⟩ ?_
      rintro i h0
      have s1 := svmin_in h1 hp hq i
      have s2 := sv_in h1 hp hq i
      by_cases hi : i < xss.length
      · have s4 := z2 i hi
        unfold SR at s4
        repeat' (first | (apply AOps.nil; try simp only [List.nil_append, List.cons_append, List.set_cons_zero, List.set_cons_succ, List.length_cons, List.length_nil, Nat.reduceAdd, AV.sh, AV.sh1, AV.sh0, AO.sh, List.map_cons, List.map_nil, Nat.zero_add, Nat.add_zero, setAll]) | (apply w_move; exact rfl; exact rfl) | (apply w_assign; exact rfl; exact rfl) | apply AWp.seq | apply AWp.region | ((apply AWp.condP; exact rfl) <;> intro h) | apply AWp.block | apply AWp.ret | apply AWp.exit | apply AWp.skip | (apply AWp.regionQ; kernel_rfl; kernel_rfl) | (apply w_len; exact rfl; exact rfl; first | exact .ints _ | exact .intss _ | exact .sli rfl | exact .sls rfl | exact .slr rfl | exact .orow rfl | exact .nil) | ((first | apply w_lss | apply w_add | apply w_mul | apply w_idx | apply w_ld | apply w_min); iterate 3 exact rfl) | ((first | apply w_idxs | apply w_lds); iterate 3 exact rfl) | (apply inI_of <;> omega) | omega)
        exact ⟨i + 1, by omega, by omega, ⟨lee rfl (by (repeat (first | exact le_nil | refine le_eq rfl rfl ?_))), by (repeat (exact lo_nil)), rfl, rfl⟩⟩
      · repeat' (first | (apply AOps.nil; try simp only [List.nil_append, List.cons_append, List.set_cons_zero, List.set_cons_succ, List.length_cons, List.length_nil, Nat.reduceAdd, AV.sh, AV.sh1, AV.sh0, AO.sh, List.map_cons, List.map_nil, Nat.zero_add, Nat.add_zero, setAll]) | (apply w_move; exact rfl; exact rfl) | (apply w_assign; exact rfl; exact rfl) | apply AWp.seq | apply AWp.region | ((apply AWp.condP; exact rfl) <;> intro h) | apply AWp.block | apply AWp.ret | apply AWp.exit | apply AWp.skip | (apply AWp.regionQ; kernel_rfl; kernel_rfl) | (apply w_len; exact rfl; exact rfl; first | exact .ints _ | exact .intss _ | exact .sli rfl | exact .sls rfl | exact .slr rfl | exact .orow rfl | exact .nil) | ((first | apply w_lss | apply w_add | apply w_mul | apply w_idx | apply w_ld | apply w_min); iterate 3 exact rfl) | ((first | apply w_idxs | apply w_lds); iterate 3 exact rfl) | (apply inI_of <;> omega) | omega)
        have e : i = xss.length := by omega
        subst e
        exact .intint Try.results18 rfl rfl (by rw [svA, if_pos ⟨h1, hp, hq⟩]) (by rw [svE, if_pos h1, if_pos ⟨hp, hq⟩])
    · repeat' (first | (apply AOps.nil; try simp only [List.nil_append, List.cons_append, List.set_cons_zero, List.set_cons_succ, List.length_cons, List.length_nil, Nat.reduceAdd, AV.sh, AV.sh1, AV.sh0, AO.sh, List.map_cons, List.map_nil, Nat.zero_add, Nat.add_zero, setAll]) | ((apply AOps.splitN; exact rfl; exact rfl) <;> intro h) | (apply w_move; exact rfl; exact rfl) | (apply w_assign; exact rfl; exact rfl) | apply AWp.seq | apply AWp.region | ((apply AWp.condN; exact rfl) <;> intro h) | (apply AWp.condT; exact rfl) | (apply AWp.condF; exact rfl) | apply AWp.block | apply AWp.ret | apply AWp.skip | (apply AWp.regionQ; kernel_rfl; kernel_rfl) | (apply w_skip; exact rfl) | (apply w_pickT; exact rfl; exact rfl; exact rfl) | (apply w_pickF; exact rfl; exact rfl; exact rfl) | (apply w_call (c1); exact rfl; exact rfl; focus ((repeat (first | exact im_nil | refine im_cons rfl (.intss _) ?_)); done)) | (apply w_call (l01In_c _ _ _); exact rfl; exact rfl; focus ((repeat (first | exact im_nil | refine im_cons rfl (.val _) ?_)); done)) | ((first | apply w_add | apply w_mul | apply w_idx | apply w_ld); iterate 3 exact rfl) | ((first | apply w_idxs | apply w_lds); iterate 3 exact rfl) | ((apply w_not); iterate 2 exact rfl) | (apply inI_of <;> omega) | omega)
      all_goals exact .intint Try.results18 rfl rfl (by rw [svA, if_neg (fun e => hq e.2.2)]) (by rw [svE, if_pos h1, if_neg (fun e => hq e.2)])
  · repeat' (first | (apply AOps.nil; try simp only [List.nil_append, List.cons_append, List.set_cons_zero, List.set_cons_succ, List.length_cons, List.length_nil, Nat.reduceAdd, AV.sh, AV.sh1, AV.sh0, AO.sh, List.map_cons, List.map_nil, Nat.zero_add, Nat.add_zero, setAll]) | ((apply AOps.splitN; exact rfl; exact rfl) <;> intro h) | (apply w_move; exact rfl; exact rfl) | (apply w_assign; exact rfl; exact rfl) | apply AWp.seq | apply AWp.region | ((apply AWp.condN; exact rfl) <;> intro h) | (apply AWp.condT; exact rfl) | (apply AWp.condF; exact rfl) | apply AWp.block | apply AWp.ret | apply AWp.skip | (apply AWp.regionQ; kernel_rfl; kernel_rfl) | (apply w_skip; exact rfl) | (apply w_pickT; exact rfl; exact rfl; exact rfl) | (apply w_pickF; exact rfl; exact rfl; exact rfl) | (apply w_call (c1); exact rfl; exact rfl; focus ((repeat (first | exact im_nil | refine im_cons rfl (.intss _) ?_)); done)) | (apply w_call (l01In_c _ _ _); exact rfl; exact rfl; focus ((repeat (first | exact im_nil | refine im_cons rfl (.val _) ?_)); done)) | ((first | apply w_add | apply w_mul | apply w_idx | apply w_ld); iterate 3 exact rfl) | ((first | apply w_idxs | apply w_lds); iterate 3 exact rfl) | ((apply w_not); iterate 2 exact rfl) | (apply inI_of <;> omega) | omega)
    all_goals exact .intint Try.results18 rfl rfl (by rw [svA, if_neg (fun e => hp e.2.1)]) (by rw [svE, if_pos h1, if_neg (fun e => hp e.1)])

theorem implSupportValue_c (xss : List (List Int)) (p q : Int) : AFnV Try.prog 17 [.intss xss, .i p, .i q] (.tuple #[.int .i64 (svA xss p q), .int .i64 (svE xss p q)]) := by
  (refine AFnV.start Try.func17 Try.ntmps17 rfl (by kernel_rfl) fun hk => ?_; simp only [Env.start, enumF, List.length_cons, List.length_nil, Nat.reduceAdd, Nat.reduceSub, List.cons_append, List.nil_append])
  have c1 := implIsSupport_c xss
  cases h1 : isSup xss with
  | false =>
    rw [h1] at c1
    repeat' (first | (apply AOps.nil; try simp only [List.nil_append, List.cons_append, List.set_cons_zero, List.set_cons_succ, List.length_cons, List.length_nil, Nat.reduceAdd, AV.sh, AV.sh1, AV.sh0, AO.sh, List.map_cons, List.map_nil, Nat.zero_add, Nat.add_zero, setAll]) | (apply w_move; exact rfl; exact rfl) | (apply w_assign; exact rfl; exact rfl) | apply AWp.seq | apply AWp.region | (apply AWp.condT; exact rfl) | apply AWp.ret | (apply w_call (c1); exact rfl; exact rfl; focus ((repeat (first | exact im_nil | refine im_cons rfl (.intss _) ?_)); done)) | ((apply w_not); iterate 2 exact rfl))
    exact .intint Try.results17 rfl rfl (by simp [svA, h1]) (by simp [svE, h1])
  | true =>
  rw [h1] at c1
  by_cases hp : 0 ≤ p ∧ p ≤ 1000
  · by_cases hq : 0 ≤ q ∧ q ≤ 1000
    · obtain ⟨z1, z2⟩ := isSup_of h1
      have s0 := sv_in h1 hp hq 0
      have z0 := z2 0 (by omega)
      unfold SR at z0
      simp only [Int.natCast_zero] at s0 z0
      repeat' (first | (apply AOps.nil; try simp only [List.nil_append, List.cons_append, List.set_cons_zero, List.set_cons_succ, List.length_cons, List.length_nil, Nat.reduceAdd, AV.sh, AV.sh1, AV.sh0, AO.sh, List.map_cons, List.map_nil, Nat.zero_add, Nat.add_zero, setAll]) | ((apply AOps.splitN; exact rfl; exact rfl) <;> intro h) | (apply w_move; exact rfl; exact rfl) | (apply w_assign; exact rfl; exact rfl) | apply AWp.seq | apply AWp.region | ((apply AWp.condN; exact rfl) <;> intro h) | (apply AWp.condT; exact rfl) | (apply AWp.condF; exact rfl) | apply AWp.block | apply AWp.ret | apply AWp.skip | (apply AWp.regionQ; kernel_rfl; kernel_rfl) | (apply w_skip; exact rfl) | (apply w_pickT; exact rfl; exact rfl; exact rfl) | (apply w_pickF; exact rfl; exact rfl; exact rfl) | (apply w_len; exact rfl; exact rfl; first | exact .ints _ | exact .intss _ | exact .sli rfl | exact .sls rfl | exact .slr rfl | exact .orow rfl | exact .nil) | (apply w_call (c1); exact rfl; exact rfl; focus ((repeat (first | exact im_nil | refine im_cons rfl (.intss _) ?_)); done)) | (apply w_call (inRange_c _ _ _); exact rfl; exact rfl; focus ((repeat (first | exact im_nil | refine im_cons rfl (.val _) ?_)); done)) | ((first | apply w_add | apply w_mul | apply w_idx | apply w_ld); iterate 3 exact rfl) | ((first | apply w_idxs | apply w_lds); iterate 3 exact rfl) | ((apply w_not); iterate 2 exact rfl) | (apply inI_of <;> omega) | omega)
      refine AWp.loop (ι := Nat) (fun i => ⟨58, [(0, .intss xss), (1, .i p), (2, .i q), (8, .i (svmin xss p q i)), (37, .intss xss), (38, .i xss.length), (39, .i i)]⟩) (fun _ => []) (fun i => i ≤ xss.length) (fun i => xss.length - i) 0 (by omega) ⟨lee rfl (by (repeat (first | exact le_nil | refine le_eq rfl rfl ?_))), by (repeat (exact lo_nil)), rfl, rfl⟩ ?_
      rintro i h0
      have s1 := svmin_in h1 hp hq i
      have s2 := sv_in h1 hp hq i
      by_cases hi : i < xss.length
      · have s4 := z2 i hi
        unfold SR at s4
        repeat' (first | (apply AOps.nil; try simp only [List.nil_append, List.cons_append, List.set_cons_zero, List.set_cons_succ, List.length_cons, List.length_nil, Nat.reduceAdd, AV.sh, AV.sh1, AV.sh0, AO.sh, List.map_cons, List.map_nil, Nat.zero_add, Nat.add_zero, setAll]) | (apply w_move; exact rfl; exact rfl) | (apply w_assign; exact rfl; exact rfl) | apply AWp.seq | apply AWp.region | ((apply AWp.condP; exact rfl) <;> intro h) | apply AWp.block | apply AWp.ret | apply AWp.exit | apply AWp.skip | (apply AWp.regionQ; kernel_rfl; kernel_rfl) | ((first | apply w_lss | apply w_add | apply w_mul | apply w_idx | apply w_ld | apply w_min); iterate 3 exact rfl) | ((first | apply w_idxs | apply w_lds); iterate 3 exact rfl) | (apply inI_of <;> omega) | omega)
        exact ⟨i + 1, by omega, by omega, ⟨lee rfl (by (repeat (first | exact le_nil | refine le_eq rfl rfl ?_))), by (repeat (exact lo_nil)), rfl, rfl⟩⟩
      · repeat' (first | (apply AOps.nil; try simp only [List.nil_append, List.cons_append, List.set_cons_zero, List.set_cons_succ, List.length_cons, List.length_nil, Nat.reduceAdd, AV.sh, AV.sh1, AV.sh0, AO.sh, List.map_cons, List.map_nil, Nat.zero_add, Nat.add_zero, setAll]) | (apply w_move; exact rfl; exact rfl) | (apply w_assign; exact rfl; exact rfl) | apply AWp.seq | apply AWp.region | ((apply AWp.condP; exact rfl) <;> intro h) | apply AWp.block | apply AWp.ret | apply AWp.exit | apply AWp.skip | (apply AWp.regionQ; kernel_rfl; kernel_rfl) | ((first | apply w_lss | apply w_add | apply w_mul | apply w_idx | apply w_ld | apply w_min); iterate 3 exact rfl) | ((first | apply w_idxs | apply w_lds); iterate 3 exact rfl) | (apply inI_of <;> omega) | omega)
        have e : i = xss.length := by omega
        subst e
        exact .intint Try.results17 rfl rfl (by rw [svA, if_pos ⟨h1, hp, hq⟩]) (by rw [svE, if_pos h1, if_pos ⟨hp, hq⟩])
    · repeat' (first | (apply AOps.nil; try simp only [List.nil_append, List.cons_append, List.set_cons_zero, List.set_cons_succ, List.length_cons, List.length_nil, Nat.reduceAdd, AV.sh, AV.sh1, AV.sh0, AO.sh, List.map_cons, List.map_nil, Nat.zero_add, Nat.add_zero, setAll]) | ((apply AOps.splitN; exact rfl; exact rfl) <;> intro h) | (apply w_move; exact rfl; exact rfl) | (apply w_assign; exact rfl; exact rfl) | apply AWp.seq | apply AWp.region | ((apply AWp.condN; exact rfl) <;> intro h) | (apply AWp.condT; exact rfl) | (apply AWp.condF; exact rfl) | apply AWp.block | apply AWp.ret | apply AWp.skip | (apply AWp.regionQ; kernel_rfl; kernel_rfl) | (apply w_skip; exact rfl) | (apply w_pickT; exact rfl; exact rfl; exact rfl) | (apply w_pickF; exact rfl; exact rfl; exact rfl) | (apply w_len; exact rfl; exact rfl; first | exact .ints _ | exact .intss _ | exact .sli rfl | exact .sls rfl | exact .slr rfl | exact .orow rfl | exact .nil) | (apply w_call (c1); exact rfl; exact rfl; focus ((repeat (first | exact im_nil | refine im_cons rfl (.intss _) ?_)); done)) | (apply w_call (inRange_c _ _ _); exact rfl; exact rfl; focus ((repeat (first | exact im_nil | refine im_cons rfl (.val _) ?_)); done)) | ((first | apply w_add | apply w_mul | apply w_idx | apply w_ld); iterate 3 exact rfl) | ((first | apply w_idxs | apply w_lds); iterate 3 exact rfl) | ((apply w_not); iterate 2 exact rfl) | (apply inI_of <;> omega) | omega)
      all_goals exact .intint Try.results17 rfl rfl (by rw [svA, if_neg (fun e => hq e.2.2)]) (by rw [svE, if_pos h1, if_neg (fun e => hq e.2)])
  · repeat' (first | (apply AOps.nil; try simp only [List.nil_append, List.cons_append, List.set_cons_zero, List.set_cons_succ, List.length_cons, List.length_nil, Nat.reduceAdd, AV.sh, AV.sh1, AV.sh0, AO.sh, List.map_cons, List.map_nil, Nat.zero_add, Nat.add_zero, setAll]) | ((apply AOps.splitN; exact rfl; exact rfl) <;> intro h) | (apply w_move; exact rfl; exact rfl) | (apply w_assign; exact rfl; exact rfl) | apply AWp.seq | apply AWp.region | ((apply AWp.condN; exact rfl) <;> intro h) | (apply AWp.condT; exact rfl) | (apply AWp.condF; exact rfl) | apply AWp.block | apply AWp.ret | apply AWp.skip | (apply AWp.regionQ; kernel_rfl; kernel_rfl) | (apply w_skip; exact rfl) | (apply w_pickT; exact rfl; exact rfl; exact rfl) | (apply w_pickF; exact rfl; exact rfl; exact rfl) | (apply w_len; exact rfl; exact rfl; first | exact .ints _ | exact .intss _ | exact .sli rfl | exact .sls rfl | exact .slr rfl | exact .orow rfl | exact .nil) | (apply w_call (c1); exact rfl; exact rfl; focus ((repeat (first | exact im_nil | refine im_cons rfl (.intss _) ?_)); done)) | (apply w_call (inRange_c _ _ _); exact rfl; exact rfl; focus ((repeat (first | exact im_nil | refine im_cons rfl (.val _) ?_)); done)) | ((first | apply w_add | apply w_mul | apply w_idx | apply w_ld); iterate 3 exact rfl) | ((first | apply w_idxs | apply w_lds); iterate 3 exact rfl) | ((apply w_not); iterate 2 exact rfl) | (apply inI_of <;> omega) | omega)
    all_goals exact .intint Try.results17 rfl rfl (by rw [svA, if_neg (fun e => hp e.2.1)]) (by rw [svE, if_pos h1, if_neg (fun e => hp e.1)])

end Go.Proofs.Ythlfdhooiekgjaa
/-
  A copy of a list. No condition but a bound on the size.
-/
namespace Go.Proofs.Ythlfdhooiekgjaa
open Go Go.RowKit
attribute [local irreducible] AWp AOps ResIs Ret1 QOp LOp COp AFnV AFn Imms LeE LeO
set_option maxHeartbeats 1000000
set_option linter.unusedSimpArgs false
set_option linter.unusedVariables false

theorem l01Own_c (xs : List Int) (h2 : xs.length ≤ 1048576) : AFn Try.prog 71 [.ints xs] (IsInts 2 xs) := by
  (refine AFn.start Try.func71 Try.ntmps71 rfl (by kernel_rfl) fun hk => ?_; simp only [Env.start, enumF, List.length_cons, List.length_nil, Nat.reduceAdd, Nat.reduceSub, List.cons_append, List.nil_append])
  repeat' (first
  | (apply AOps.nil; try simp only [List.nil_append, List.cons_append, List.set_cons_zero, List.set_cons_succ, List.length_cons, List.length_nil, Nat.reduceAdd, AV.sh, AV.sh1, AV.sh0, AO.sh, List.map_cons, List.map_nil, Nat.zero_add, Nat.add_zero, setAll])
  | ((apply AOps.splitP; exact rfl; exact rfl) <;> intro h)
  | ((apply AOps.splitN; exact rfl; exact rfl) <;> intro h)
  | (apply w_move; exact rfl; exact rfl)
  | (apply w_assign; exact rfl; exact rfl)
  | apply AWp.seq
  | apply AWp.region
  | ((apply AWp.condP; exact rfl) <;> intro h)
  | ((apply AWp.condN; exact rfl) <;> intro h)
  | (apply AWp.condT; exact rfl)
  | (apply AWp.condF; exact rfl)
  | ((apply AWp.condB; exact rfl) <;> intro h)
  | apply AWp.block
  | apply AWp.ret
  | apply AWp.exit
  | apply AWp.skip
  | (apply AWp.regionQ; kernel_rfl; kernel_rfl)
  | (apply if_pos'; exact rfl)
  | (apply if_neg'; decide)
  | (apply w_skip; exact rfl)
  | (apply w_pickT; exact rfl; exact rfl; exact rfl)
  | (apply w_pickF; exact rfl; exact rfl; exact rfl)
  | (apply w_len; exact rfl; exact rfl; first | exact .ints _ | exact .intss _ | exact .sli rfl | exact .sls rfl | exact .slr rfl | exact .orow rfl | exact .nil)
  | ((first | apply w_lss | apply w_leq | apply w_gtr | apply w_geq | apply w_eql | apply w_neq | apply w_add | apply w_sub | apply w_mul | apply w_idx | apply w_ld | apply w_fld | apply w_fa | apply w_extv | apply w_min | apply w_max | apply w_slhi | apply w_sllo | apply w_bs2); iterate 3 exact rfl)
  | ((first | apply w_eqlb | apply w_neqb | apply w_idxs | apply w_lds | apply w_ext); iterate 3 exact rfl)
  | (apply w_rem; exact rfl; exact rfl; exact rfl; (focus (omega; done)); (focus (omega; done)))
  | (apply w_quo; exact rfl; exact rfl; exact rfl; (focus (omega; done)); (focus (omega; done)))
  | (apply w_remT; exact rfl; exact rfl; exact rfl)
  | (apply w_quoT; exact rfl; exact rfl; exact rfl)
  | ((first | apply w_not | apply w_neg | apply w_conv | apply w_build0 | apply w_bs1 | apply w_boxa); iterate 2 exact rfl)
  | (apply w_idxo; exact rfl; exact rfl; (first | exact .sli rfl | exact .sls rfl | exact .slr rfl); exact rfl)
  | ((first | apply w_idxr | apply w_ldr); iterate 4 exact rfl)
  | (apply w_ldo; iterate 4 exact rfl)
  | (apply w_ldls; iterate 4 exact rfl)
  | (apply w_ldrp; iterate 4 exact rfl)
  | (apply w_ldb; iterate 5 exact rfl)
  | (apply w_ldst; iterate 5 exact rfl)
  | ((first | apply w_sllh | apply w_stbi); iterate 4 exact rfl)
  | ((first | apply w_oslo | apply w_oshi | apply w_stbii); iterate 4 exact rfl)
  | (apply w_copy; exact rfl; (first | exact .own rfl rfl rfl | exact .osub); exact rfl; rotate_left 1; exact rfl; (first | exact .ints _ | exact .sli rfl | exact .orow rfl | exact .nil | exact .osub rfl (by simp; omega)))
  | (apply w_build1; exact rfl; exact rfl; (first | exact one_val rfl rfl | exact one_ints | exact one_intss | exact one_own rfl True.intro))
  | (apply w_build2; exact rfl; exact rfl; exact rfl; (first | exact one_val rfl rfl | exact one_ints | exact one_intss | exact one_own rfl True.intro); (first | exact one_val rfl rfl | exact one_ints | exact one_intss | exact one_own rfl True.intro))
  | (apply w_bs0; iterate 1 exact rfl)
  | (apply w_appn; exact rfl; exact rfl; (first | exact .ints _ | exact .sli rfl | exact .orow rfl | exact .nil | exact .osub rfl (by simp; omega)); exact rfl)
  | (apply w_app; exact rfl; exact rfl; exact rfl; exact rfl; (first | exact .ints _ | exact .sli rfl | exact .orow rfl | exact .nil | exact .osub rfl (by simp; omega)); rotate_left 1; simp only [Env.mp, List.map_cons, List.map_nil, List.set_cons_zero, List.set_cons_succ, AV.kill, AV.kill1, AO.kill, AV.noRow, AV.noRow1, AO.via, reduceIte, Nat.reduceEqDiff, Nat.reduceLT, Env.up, Nat.zero_ne_one, Nat.one_ne_zero, Nat.reduceAdd, List.cons_append, List.nil_append]; rotate_left 1)
  | (apply w_alst; iterate 2 exact rfl)
  | (apply w_alone; iterate 3 exact rfl)
  | (apply w_mki; exact rfl; exact rfl; rotate_left 3; exact rfl; rotate_left 1)
  | (apply w_mkr; exact rfl; exact rfl; rotate_left 3; exact rfl; rotate_left 1)
  | (apply w_strow; exact rfl; exact rfl; rotate_left 1; exact rfl; exact rfl; exact rfl; exact rfl; simp only [Env.mp, List.map_cons, List.map_nil, List.set_cons_zero, List.set_cons_succ, AV.kill, AV.kill1, AO.kill, AV.noRow, AV.noRow1, AO.via, reduceIte, Nat.reduceEqDiff, Nat.reduceLT, Env.up, Nat.zero_ne_one, Nat.one_ne_zero, Nat.reduceAdd, List.cons_append, List.nil_append]; rotate_left 1)
  | (apply w_sti; exact rfl; exact rfl; rotate_left 1; exact rfl; rotate_left 2)
  | (apply w_stst; iterate 5 exact rfl)
  | (apply w_stbv; iterate 6 exact rfl)
  | (apply w_stbo; exact rfl; exact rfl; exact rfl; exact rfl; exact rfl; exact True.intro)
  | ((apply AOps.splitB; exact rfl; exact rfl) <;> intro h)
  | apply AllOf.nil
  | (apply AllOf.cons; exact rfl)
  | (apply AAny.take; exact rfl; exact rfl; kernel_rfl; kernel_rfl)
  | (apply AAny.all; exact rfl)
  | (apply AAny.done; exact rfl)
  | (apply inI_of <;> omega)
  | omega
  | (simp <;> omega))
  all_goals exact ⟨_, _, _, .v1 Try.results71 rfl, .sli rfl, rfl, rfl⟩
theorem clone_c (xs : List Int) (h1 : 0 < xs.length) (h2 : xs.length ≤ 1048576) : AFn Try.prog 73 [.ints xs] (IsInts 2 xs) := by
  (refine AFn.start Try.func73 Try.ntmps73 rfl (by kernel_rfl) fun hk => ?_; simp only [Env.start, enumF, List.length_cons, List.length_nil, Nat.reduceAdd, Nat.reduceSub, List.cons_append, List.nil_append])
  repeat' (first
  | (apply AOps.nil; try simp only [List.nil_append, List.cons_append, List.set_cons_zero, List.set_cons_succ, List.length_cons, List.length_nil, Nat.reduceAdd, AV.sh, AV.sh1, AV.sh0, AO.sh, List.map_cons, List.map_nil, Nat.zero_add, Nat.add_zero, setAll])
  | ((apply AOps.splitP; exact rfl; exact rfl) <;> intro h)
  | ((apply AOps.splitN; exact rfl; exact rfl) <;> intro h)
  | (apply w_move; exact rfl; exact rfl)
  | (apply w_assign; exact rfl; exact rfl)
  | apply AWp.seq
  | apply AWp.region
  | ((apply AWp.condP; exact rfl) <;> intro h)
  | ((apply AWp.condN; exact rfl) <;> intro h)
  | (apply AWp.condT; exact rfl)
  | (apply AWp.condF; exact rfl)
  | ((apply AWp.condB; exact rfl) <;> intro h)
  | apply AWp.block
  | apply AWp.ret
  | apply AWp.exit
  | apply AWp.skip
  | (apply AWp.regionQ; kernel_rfl; kernel_rfl)
  | (apply if_pos'; exact rfl)
  | (apply if_neg'; decide)
  | (apply w_skip; exact rfl)
  | (apply w_pickT; exact rfl; exact rfl; exact rfl)
  | (apply w_pickF; exact rfl; exact rfl; exact rfl)
  | (apply w_len; exact rfl; exact rfl; first | exact .ints _ | exact .intss _ | exact .sli rfl | exact .sls rfl | exact .slr rfl | exact .orow rfl | exact .nil)
  | ((first | apply w_lenos | apply w_not | apply w_neg | apply w_conv | apply w_build0 | apply w_bs1 | apply w_boxa); iterate 2 exact rfl)
  | (apply w_idxos; iterate 3 exact rfl)
  | ((first | apply w_osubhi | apply w_alone); iterate 3 exact rfl)
  | (apply w_eqnil; iterate 2 exact rfl)
  | ((first | apply w_lss | apply w_leq | apply w_gtr | apply w_geq | apply w_eql | apply w_neq | apply w_add | apply w_sub | apply w_mul | apply w_idx | apply w_ld | apply w_fld | apply w_fa | apply w_extv | apply w_min | apply w_max | apply w_slhi | apply w_sllo | apply w_bs2); iterate 3 exact rfl)
  | ((first | apply w_eqlb | apply w_neqb | apply w_idxs | apply w_lds | apply w_ext); iterate 3 exact rfl)
  | (apply w_rem; exact rfl; exact rfl; exact rfl; (focus (omega; done)); (focus (omega; done)))
  | (apply w_quo; exact rfl; exact rfl; exact rfl; (focus (omega; done)); (focus (omega; done)))
  | (apply w_remT; exact rfl; exact rfl; exact rfl)
  | (apply w_quoT; exact rfl; exact rfl; exact rfl)
  | (apply w_idxo; exact rfl; exact rfl; (first | exact .sli rfl | exact .sls rfl | exact .slr rfl); exact rfl)
  | ((first | apply w_idxr | apply w_ldr); iterate 4 exact rfl)
  | (apply w_ldo; iterate 4 exact rfl)
  | (apply w_ldls; iterate 4 exact rfl)
  | (apply w_ldrp; iterate 4 exact rfl)
  | (apply w_ldb; iterate 5 exact rfl)
  | (apply w_ldst; iterate 5 exact rfl)
  | ((first | apply w_sllh | apply w_stbi); iterate 4 exact rfl)
  | ((first | apply w_oslo | apply w_oshi | apply w_stbii); iterate 4 exact rfl)
  | (apply w_copy; exact rfl; (first | exact .own rfl rfl rfl | exact .osub); exact rfl; rotate_left 1; exact rfl; (first | exact .ints _ | exact .sli rfl | exact .orow rfl | exact .nil | exact .osub rfl (by simp; omega)))
  | (apply w_build1; exact rfl; exact rfl; (first | exact one_val rfl rfl | exact one_ints | exact one_intss | exact one_own rfl True.intro))
  | (apply w_build2; exact rfl; exact rfl; exact rfl; (first | exact one_val rfl rfl | exact one_ints | exact one_intss | exact one_own rfl True.intro); (first | exact one_val rfl rfl | exact one_ints | exact one_intss | exact one_own rfl True.intro))
  | (apply w_bs0; iterate 1 exact rfl)
  | (apply w_appn; exact rfl; exact rfl; (first | exact .ints _ | exact .sli rfl | exact .orow rfl | exact .nil | exact .osub rfl (by simp; omega)); exact rfl)
  | (apply w_app; exact rfl; exact rfl; exact rfl; exact rfl; (first | exact .ints _ | exact .sli rfl | exact .orow rfl | exact .nil | exact .osub rfl (by simp; omega)); rotate_left 1; simp only [Env.mp, List.map_cons, List.map_nil, List.set_cons_zero, List.set_cons_succ, AV.kill, AV.kill1, AO.kill, AV.noRow, AV.noRow1, AO.via, reduceIte, Nat.reduceEqDiff, Nat.reduceLT, Env.up, Nat.zero_ne_one, Nat.one_ne_zero, Nat.reduceAdd, List.cons_append, List.nil_append]; rotate_left 1)
  | (apply w_alst; iterate 2 exact rfl)
  | (apply w_mki; exact rfl; exact rfl; rotate_left 3; exact rfl; rotate_left 1)
  | (apply w_mkr; exact rfl; exact rfl; rotate_left 3; exact rfl; rotate_left 1)
  | (apply w_strow; exact rfl; exact rfl; rotate_left 1; exact rfl; exact rfl; exact rfl; exact rfl; simp only [Env.mp, List.map_cons, List.map_nil, List.set_cons_zero, List.set_cons_succ, AV.kill, AV.kill1, AO.kill, AV.noRow, AV.noRow1, AO.via, reduceIte, Nat.reduceEqDiff, Nat.reduceLT, Env.up, Nat.zero_ne_one, Nat.one_ne_zero, Nat.reduceAdd, List.cons_append, List.nil_append]; rotate_left 1)
  | (apply w_sti; exact rfl; exact rfl; rotate_left 1; exact rfl; rotate_left 2)
  | (apply w_stst; iterate 5 exact rfl)
  | (apply w_stbv; iterate 6 exact rfl)
  | (apply w_stbo; exact rfl; exact rfl; exact rfl; exact rfl; exact rfl; exact True.intro)
  | ((apply AOps.splitB; exact rfl; exact rfl) <;> intro h)
  | apply AllOf.nil
  | (apply AllOf.cons; exact rfl)
  | (apply AAny.take; exact rfl; exact rfl; kernel_rfl; kernel_rfl)
  | (apply AAny.all; exact rfl)
  | (apply AAny.done; exact rfl)
  | (apply inI_of <;> omega)
  | omega
  | (simp <;> omega))
  all_goals exact ⟨_, _, _, .v1 Try.results73 rfl, .sli rfl, rfl, rfl⟩
end Go.Proofs.Ythlfdhooiekgjaa
/-
  Lower left hulls of sets of pairs: the chain built from the sorted pairs and the one that is wrapped from vertex to vertex are the same. No condition.
-/
namespace Go.Proofs.Ythlfdhooiekgjaa.Hl
section
variable {α : Type} (X Y : α → Int)

def cr (a b q : α) : Int := (X b - X a) * (Y q - Y a) - (Y b - Y a) * (X q - X a)
def lexle (a b : α) : Prop := X a < X b ∨ (X a = X b ∧ Y a ≤ Y b)

theorem tr {sx sy ux uy wx wy : Int} (h1 : uy < 0) (h2 : wy ≤ 0) (h3 : sy ≤ 0) (h4 : 0 ≤ sx*uy - sy*ux) (h5 : 0 ≤ ux*wy - uy*wx) : 0 ≤ sx*wy - sy*wx := by
  have e : uy * (sx*wy - sy*wx) = wy*(sx*uy-sy*ux) + sy*(ux*wy-uy*wx) := by grind
  have := Int.mul_nonneg (show 0 ≤ -wy by omega) h4
  have := Int.mul_nonneg (show 0 ≤ -sy by omega) h5
  apply Classical.byContradiction
  intro hn
  have := Int.mul_pos (show 0 < -uy by omega) (show 0 < -(sx*wy - sy*wx) by omega)
  grind
theorem trs {sx sy ux uy wx wy : Int} (h1 : uy < 0) (h2 : wy < 0) (h3 : sy ≤ 0) (h4 : 0 < sx*uy - sy*ux) (h5 : 0 ≤ ux*wy - uy*wx) : 0 < sx*wy - sy*wx := by
  have e : uy * (sx*wy - sy*wx) = wy*(sx*uy-sy*ux) + sy*(ux*wy-uy*wx) := by grind
  have := Int.mul_pos (show 0 < -wy by omega) h4
  have := Int.mul_nonneg (show 0 ≤ -sy by omega) h5
  apply Classical.byContradiction
  intro hn
  have := Int.mul_nonneg (show 0 ≤ -uy by omega) (show 0 ≤ -(sx*wy - sy*wx) by omega)
  grind
theorem tre {sx sy ux uy wx wy : Int} (h3 : sy < 0) (h4 : sx*uy - sy*ux = 0) (h5 : sx*wy - sy*wx = 0) : ux*wy-uy*wx = 0 := by
  have e : uy * (sx*wy - sy*wx) = wy*(sx*uy-sy*ux) + sy*(ux*wy-uy*wx) := by grind
  rw [h4, h5] at e
  have : sy * (ux*wy-uy*wx) = 0 := by grind
  rcases Int.mul_eq_zero.1 this with h | h
  · omega
  · exact h

/-- A direct one: q lies behind b and above it. -/
theorem cr_up {a b q : α} (h1 : X a ≤ X b) (h2 : Y b ≤ Y a) (h3 : X b ≤ X q) (h4 : Y b ≤ Y q) : 0 ≤ cr X Y a b q := by
  have e : cr X Y a b q = (X b - X a) * (Y q - Y b) + (Y a - Y b) * (X q - X b) := by unfold cr; grind
  have := Int.mul_nonneg (show 0 ≤ X b - X a by omega) (show 0 ≤ Y q - Y b by omega)
  have := Int.mul_nonneg (show 0 ≤ Y a - Y b by omega) (show 0 ≤ X q - X b by omega)
  omega
theorem cr_sh (a b q : α) : cr X Y a b q = (X b - X a) * (Y q - Y b) - (Y b - Y a) * (X q - X b) := by unfold cr; grind

/-- A stack, its top first. -/
def Hull (S : α → Prop) : List α → Prop
  | [] => False
  | [a] => S a ∧ ∀ q, S q → lexle X Y a q
  | b :: a :: r => S b ∧ Y b < Y a ∧ X a ≤ X b ∧ (∀ q, S q → Y q ≤ Y a → 0 ≤ cr X Y a b q) ∧ (∀ z r', r = z :: r' → 0 < cr X Y z a b) ∧ Hull S (a :: r)
def Low (S : α → Prop) (t : α) : Prop := ∀ q, S q → Y t ≤ Y q ∧ (Y q = Y t → X t ≤ X q)
def Aft (S : α → Prop) (t p : α) : Prop := ∀ q, S q → Y q ≤ Y t → 0 ≤ cr X Y t p q
def plus (S : α → Prop) (p : α) (q : α) : Prop := S q ∨ q = p

variable {X Y}
theorem Hull.top {S : α → Prop} {t : α} : ∀ {r : List α}, Hull X Y S (t :: r) → S t
  | [], h => h.1
  | _ :: _, h => h.1
theorem Hull.rest {S : α → Prop} {t a : α} {r : List α} (h : Hull X Y S (t :: a :: r)) : Hull X Y S (a :: r) := h.2.2.2.2.2

theorem Hull.ep {S : α → Prop} {p : α} (hs : ∀ q, S q → lexle X Y q p) : ∀ {r : List α} {a b : α}, Hull X Y S (b :: a :: r) → 0 ≤ cr X Y a b p → Hull X Y (plus S p) (b :: a :: r)
  | [], a, b, h, hc => by
    obtain ⟨h1, h2, h3, h4, h5, h6, h7⟩ := h
    refine ⟨.inl h1, h2, h3, fun q hq hy => ?_, fun z r' e => (by cases e), ⟨.inl h6, fun q hq => ?_⟩⟩
    · rcases hq with hq | rfl
      · exact h4 q hq hy
      · exact hc
    · rcases hq with hq | rfl
      · exact h7 q hq
      · exact hs _ h6
  | z :: r, a, b, h, hc => by
    obtain ⟨h1, h2, h3, h4, h5, h6⟩ := h
    have h6' := h6
    obtain ⟨g1, g2, g3, g4, g5, g6⟩ := h6
    have hz := h5 z r rfl
    refine ⟨.inl h1, h2, h3, fun q hq hy => ?_, fun z r' e => by cases e; exact hz, Hull.ep hs h6' ?_⟩
    · rcases hq with hq | rfl
      · exact h4 q hq hy
      · exact hc
    · by_cases hy : Y p ≤ Y a
      · rw [cr_sh] at hz ⊢
        refine tr (ux := X b - X a) (uy := Y b - Y a) (by omega) (by omega) (by omega) ?_ ?_
        · omega
        · unfold cr at hc; omega
      · have := hs a g1
        unfold lexle at this
        exact cr_up X Y (by omega) (by omega) (by omega) (by omega)

theorem Hull.skip {S : α → Prop} {p t : α} {r : List α} (hs : ∀ q, S q → lexle X Y q p) (h : Hull X Y S (t :: r)) (hl : Low X Y S t) (hp : Y t ≤ Y p) : Hull X Y (plus S p) (t :: r) ∧ Low X Y (plus S p) t := by
  have ht := hs t h.top
  unfold lexle at ht
  refine ⟨?_, fun q hq => ?_⟩
  · cases r with
    | nil =>
      refine ⟨.inl h.1, fun q hq => ?_⟩
      rcases hq with hq | rfl
      · exact h.2 q hq
      · exact hs _ h.1
    | cons a r =>
      refine h.ep hs (cr_up X Y h.2.2.1 ?_ ?_ hp)
      · have := h.2.1; omega
      · omega
  · rcases hq with hq | rfl
    · exact hl q hq
    · omega

theorem aft_low {S : α → Prop} {p t : α} (hl : Low X Y S t) (hp : Y p < Y t) : Aft X Y S t p := by
  intro q hq hy
  have := hl q hq
  have e : Y q = Y t := by omega
  unfold cr
  rw [e]
  have := Int.mul_nonneg (show 0 ≤ Y t - Y p by omega) (show 0 ≤ X q - X t by omega)
  grind

theorem Hull.pop {S : α → Prop} {p a b : α} {r : List α} (h : Hull X Y S (b :: a :: r)) (hc : ¬ 0 < cr X Y a b p) (hp : Y p < Y b) : Aft X Y S a p := by
  intro q hq hy
  have hb := h.2.2.2.1 q hq hy
  have h2 := h.2.1
  unfold cr at hb hc ⊢
  exact tr (ux := X b - X a) (uy := Y b - Y a) (by omega) (by omega) (by omega) (by grind) hb

theorem Hull.push {S : α → Prop} {p t : α} {r : List α} (hs : ∀ q, S q → lexle X Y q p) (h : Hull X Y S (t :: r)) (ha : Aft X Y S t p) (hp : Y p < Y t) (hall : ∀ q, S q → Y p < Y q) (hz : ∀ z r', r = z :: r' → 0 < cr X Y z t p) :
    Hull X Y (plus S p) (p :: t :: r) ∧ Low X Y (plus S p) p := by
  have ht := hs t h.top
  unfold lexle at ht
  refine ⟨⟨.inr rfl, hp, by omega, fun q hq hy => ?_, hz, ?_⟩, fun q hq => ?_⟩
  · rcases hq with hq | rfl
    · exact ha q hq hy
    · unfold cr; grind
  · cases r with
    | nil =>
      refine ⟨.inl h.1, fun q hq => ?_⟩
      rcases hq with hq | rfl
      · exact h.2 q hq
      · exact hs _ h.1
    | cons z r => exact h.ep hs (Int.le_of_lt (hz z r rfl))
  · rcases hq with hq | rfl
    · have := hall q hq; omega
    · omega

theorem Hull.one {S : α → Prop} {p : α} (h : ∀ q, ¬ S q) : Hull X Y (plus S p) [p] ∧ Low X Y (plus S p) p := by
  refine ⟨⟨.inr rfl, fun q hq => ?_⟩, fun q hq => ?_⟩
  · rcases hq with hq | rfl
    · exact absurd hq (h q)
    · unfold lexle; omega
  · rcases hq with hq | rfl
    · exact absurd hq (h q)
    · omega

theorem Hull.congr {S S' : α → Prop} (hS : ∀ q, S q ↔ S' q) {R : List α} (h : Hull X Y S R) : Hull X Y S' R := by
  have : S = S' := funext fun q => propext (hS q)
  rw [← this]; exact h
theorem Low.congr {S S' : α → Prop} (hS : ∀ q, S q ↔ S' q) {t : α} (h : Low X Y S t) : Low X Y S' t := by
  have : S = S' := funext fun q => propext (hS q)
  rw [← this]; exact h

/-! ### The wrapped chain -/
variable (X Y)
def isNext (S : α → Prop) (a b : α) : Prop := S b ∧ Y b < Y a ∧ ∀ q, S q → Y q < Y a → 0 ≤ cr X Y a b q ∧ (cr X Y a b q = 0 → Y b ≤ Y q)
def GWf (S : α → Prop) : List α → Prop
  | [] => False
  | [a] => ∀ q, S q → Y a ≤ Y q
  | a :: b :: r => isNext X Y S a b ∧ GWf S (b :: r)
def GW (S : α → Prop) (V : List α) : Prop := ∃ m r, V = m :: r ∧ S m ∧ (∀ q, S q → lexle X Y m q) ∧ GWf X Y S (m :: r)

variable {X Y}
theorem gwf_unique {S : α → Prop} (he : ∀ a b, S a → S b → X a = X b → Y a = Y b → a = b) : ∀ {r r' : List α} {a : α}, GWf X Y S (a :: r) → GWf X Y S (a :: r') → r = r'
  | [], [], _, _, _ => rfl
  | [], c :: r', a, h, h' => by
    have := h c h'.1.1
    have := h'.1.2.1
    omega
  | c :: r, [], a, h, h' => by
    have := h' c h.1.1
    have := h.1.2.1
    omega
  | b :: r, c :: r', a, h, h' => by
    obtain ⟨⟨b1, b2, b3⟩, b4⟩ := h
    obtain ⟨⟨c1, c2, c3⟩, c4⟩ := h'
    have p := b3 c c1 c2
    have q := c3 b b1 b2
    have e0 : cr X Y a c b = - cr X Y a b c := by unfold cr; grind
    have z : cr X Y a b c = 0 := by omega
    have ey : Y b = Y c := by have := p.2 z; have := q.2 (by omega); omega
    have ex : X b = X c := by
      unfold cr at z
      rw [← ey] at z
      have : (Y b - Y a) * (X b - X c) = 0 := by grind
      rcases Int.mul_eq_zero.1 this with h | h <;> omega
    obtain rfl := he b c b1 c1 ex ey
    rw [gwf_unique he b4 c4]

theorem gw_unique {S : α → Prop} (he : ∀ a b, S a → S b → X a = X b → Y a = Y b → a = b) {V V' : List α} (h : GW X Y S V) (h' : GW X Y S V') : V = V' := by
  obtain ⟨m, r, rfl, a1, a2, a3⟩ := h
  obtain ⟨m', r', rfl, b1, b2, b3⟩ := h'
  have p := a2 m' b1
  have q := b2 m a1
  unfold lexle at p q
  obtain rfl := he m m' a1 b1 (by omega) (by omega)
  rw [gwf_unique he a3 b3]

theorem Hull.conv {S : α → Prop} : ∀ {r : List α} {t : α} {l : List α}, Hull X Y S (t :: r) → GWf X Y S (t :: l) → (∀ c l', l = c :: l' → Y c < Y t ∧ (∀ q, S q → Y q ≤ Y t → 0 ≤ cr X Y t c q) ∧ (∀ z r', r = z :: r' → 0 < cr X Y z t c)) →
    GW X Y S (r.reverse ++ t :: l)
  | [], t, l, h, hg, _ => ⟨t, l, rfl, h.1, h.2, hg⟩
  | a :: r, t, l, h, hg, hl => by
    obtain ⟨h1, h2, h3, h4, h5, h6⟩ := h
    rw [List.reverse_cons, List.append_assoc]
    refine Hull.conv (l := t :: l) h6 ⟨⟨h1, h2, fun q hq hy => ⟨h4 q hq (by omega), fun h0 => ?_⟩⟩, hg⟩ ?_
    · apply Classical.byContradiction
      intro hn
      cases l with
      | nil => have := hg q hq; omega
      | cons c l' =>
        obtain ⟨c1, c2, c3⟩ := hl c l' rfl
        have k1 := c2 q hq (by omega)
        have k2 := c3 a r rfl
        rw [cr_sh] at h0 k2
        have := trs (sx := X t - X a) (sy := Y t - Y a) (ux := X c - X t) (uy := Y c - Y t) (wx := X q - X t) (wy := Y q - Y t) (by omega) (by omega) (by omega) k2 (by unfold cr at k1; omega)
        omega
    · intro c l' e
      cases e
      exact ⟨h2, h4, h5⟩

theorem Hull.gw {S : α → Prop} {t : α} {r : List α} (h : Hull X Y S (t :: r)) (hl : Low X Y S t) : GW X Y S (t :: r).reverse := by
  rw [List.reverse_cons]
  exact h.conv (l := []) (fun q hq => (hl q hq).1) (fun c l' e => by cases e)

/-! ### What is to come -/
variable (X Y)
def Pre (S : α → Prop) (V : List α) (a : α) : Prop := ∀ l, GWf X Y S (a :: l) → GW X Y S (V ++ a :: l)
variable {X Y}
theorem Pre.start {S : α → Prop} {a : α} (h : S a) (h1 : ∀ q, S q → lexle X Y a q) : Pre X Y S [] a := fun l hl => ⟨a, l, rfl, h, h1, hl⟩
theorem Pre.step {S : α → Prop} {a b : α} {V : List α} (h : Pre X Y S V a) (hn : isNext X Y S a b) : Pre X Y S (V ++ [a]) b := fun l hl => by
  rw [List.append_assoc]; exact h (b :: l) ⟨hn, hl⟩
theorem Pre.done {S : α → Prop} {a : α} {V : List α} (h : Pre X Y S V a) (hn : ∀ q, S q → Y a ≤ Y q) : GW X Y S (V ++ [a]) := h [] hn

/-- b is the best of S so far. -/
theorem next_keep {S : α → Prop} {a b p : α} (h : isNext X Y S a b) (hp : Y p < Y a → 0 ≤ cr X Y a b p ∧ (cr X Y a b p = 0 → Y b ≤ Y p)) : isNext X Y (plus S p) a b :=
  ⟨.inl h.1, h.2.1, fun q hq hy => by
    rcases hq with hq | rfl
    · exact h.2.2 q hq hy
    · exact hp hy⟩
theorem next_new {S : α → Prop} {a b p : α} (h : isNext X Y S a b) (hy : Y p < Y a) (hp : cr X Y a b p < 0 ∨ (cr X Y a b p = 0 ∧ Y p < Y b)) : isNext X Y (plus S p) a p := by
  obtain ⟨h1, h2, h3⟩ := h
  have e0 : cr X Y a p b = - cr X Y a b p := by unfold cr; grind
  refine ⟨.inr rfl, hy, fun q hq hyq => ?_⟩
  rcases hq with hq | rfl
  · obtain ⟨k1, k2⟩ := h3 q hq hyq
    rcases hp with hp | ⟨hp, hpy⟩
    · have := trs (sx := X p - X a) (sy := Y p - Y a) (ux := X b - X a) (uy := Y b - Y a) (wx := X q - X a) (wy := Y q - Y a) (by omega) (by omega) (by omega) (by unfold cr at e0 hp; omega) (by unfold cr at k1; omega)
      unfold cr
      omega
    · have := tr (sx := X p - X a) (sy := Y p - Y a) (ux := X b - X a) (uy := Y b - Y a) (wx := X q - X a) (wy := Y q - Y a) (by omega) (by omega) (by omega) (by unfold cr at e0 hp; omega) (by unfold cr at k1; omega)
      refine ⟨by unfold cr; omega, fun hz => ?_⟩
      have := tre (sx := X p - X a) (sy := Y p - Y a) (ux := X b - X a) (uy := Y b - Y a) (wx := X q - X a) (wy := Y q - Y a) (by omega) (by unfold cr at e0 hp; omega) (by unfold cr at hz; omega)
      have := k2 (by unfold cr; omega)
      omega
  · refine ⟨by unfold cr; grind, fun _ => Int.le_refl _⟩
theorem next_first {S : α → Prop} {a p : α} (h : ∀ q, S q → Y a ≤ Y q) (hy : Y p < Y a) : isNext X Y (plus S p) a p :=
  ⟨.inr rfl, hy, fun q hq hyq => by
    rcases hq with hq | rfl
    · have := h q hq; omega
    · exact ⟨by unfold cr; grind, fun _ => Int.le_refl _⟩⟩
end
end Go.Proofs.Ythlfdhooiekgjaa.Hl
/-
  A literal slice of one row, as an own slice of rows. No condition.
-/
namespace Go.Proofs.Ythlfdhooiekgjaa
open Go Go.RowKit
section
variable {P : Program} {env : Env} {os : List AO} {d : Option Tmp} {ty : TypeId} {pos : String} {af : Array Edge} {g : Option (Nat × Bool)}

theorem l_bsr1s {t e e2 : TypeId} {bytes : Nat} [ht : TSlice P t e] [he : TElem P e (.slice none 0 0) bytes] [ht2 : TSlice P e e2] {x : Operand} {k : Nat} {e3 : TypeId} {ys : List Int} (hx : AV.ev env x = .own k) (hk : os[k]? = some (.sli e3 ys)) (he3 : e3 = e2) :
    LOp P ⟨d, .buildSlice t 1 #[(0, x)], ty, pos, af, g⟩ env os (.own os.length) (env.mp (AV.rin k os.length 0)) (((((os ++ [AO.sls e e2 []]).map (AO.via (AV.rin k os.length 0) os.length)).set os.length (.sls e e2 [ys])).set k .dead)) := by
  subst he3
  intro base w gs tm hr
  have hxv := hr.ev x
  rw [hx] at hxv
  generalize hv : Act.eval ⟨tm, []⟩ x = v at hxv
  cases hxv with
  | @own _ gk hgk =>
    obtain ⟨b1, b2, b3⟩ := hr.ho _ _ _ hgk hk
    obtain ⟨ua, uc, eu⟩ := ownsRow_slice b1
    obtain ⟨ii, hi, hs, hz, hby⟩ := he.info
    have hkl : k < os.length := (List.getElem?_eq_some_iff.1 hk).1
    let g0 : Gh := ⟨.slice none 0 0, 0, [], []⟩
    have hr1 : Rel base w (gs ++ [g0]) env (os ++ [.sls e e3 []]) tm := hr.new (Below.refl _ _) _ g0 (fun _ b hb => by simp [g0] at hb) ⟨[], [], [], World.ownsRow_nil w base e 1, rfl, rfl, rfl, fun i u h => (by simp at h), .inl ⟨rfl, rfl⟩, rfl, by simp [g0]⟩
    have hl := hr.hl
    have hgp : (gs ++ [g0])[os.length]? = some g0 := by rw [← hl]; simp
    have hop : (os ++ [AO.sls e e3 []])[os.length]? = some (.sls e e3 []) := by simp
    have hgk' : (gs ++ [g0])[k]? = some gk := by rw [List.getElem?_append_left (by omega)]; exact hgk
    have hok' : (os ++ [AO.sls e e3 []])[k]? = some (.sli e3 ys) := by rw [List.getElem?_append_left hkl]; exact hk
    have hpl : os.length < (gs ++ [g0]).length := by simp; omega
    let w' := w.alloc (.cells [gk.v].toArray e)
    let g' : Gh := ⟨.slice (some ⟨w.heap.size, 0, none⟩) 1 1, w.heap.size, [w.heap.size] ++ gk.bl, [gk.v]⟩
    have hbel : Below w.heap.size w w' := below_alloc w _
    have hblk : ∀ b, b ∈ gk.bl → b < w.heap.size := fun b hb => (hr.hn _ _ _ hgk hk (by simp) b hb).2
    have sv : RowIn os.length k 0 (gs ++ [g0]) ((gs ++ [g0]).set os.length g') := by
      refine ⟨fun j z hj hz => ?_, fun z hz => ⟨g', by rw [List.getElem?_set_self hpl], fun i u hiu => ?_⟩, fun z hz => ⟨g', by rw [List.getElem?_set_self hpl], ?_⟩⟩
      · rw [List.getElem?_set, if_neg (fun e => hj e.symm)]; exact hz
      · rw [hgp] at hz; cases hz; simp [g0] at hiu
      · rw [hgk'] at hz; cases hz; rfl
    refine ⟨.slice (some ⟨w.heap.size, 0, none⟩) 1 1, w', (gs ++ [g0]).set os.length g', .inl ?_, hr1.absorb hgp hop trivial hgk' hok' trivial (by omega) g' (.sls e e3 [ys]) (AV.rin k os.length 0) rfl (fun b hb _ => hbel.block b hb) hbel.size ?_ (fun kp hv => hv.rin kp sv) ?_, ?_, hbel.mono hr.hb⟩
    · simp [execOp, Instr.buildSlice, run_underlying ht.und, sizeOf, typeInfo, zeroValue, hi, hs, hz, Instr.fill, newRow, hv, eu, Value.cells, ar1, w']
    · intro b hb
      have hsz : w'.heap.size = w.heap.size + 1 := by simp [w']
      rcases List.mem_append.1 hb with hb | hb
      · simp at hb
        exact ⟨.inr (.inr (by omega)), by omega⟩
      · have := hblk b hb
        exact ⟨.inr (.inl hb), by omega⟩
    · intro kp
      refine ⟨[gk.v], [gk.bl], [w.heap.size], ⟨rfl, .inr ⟨w.heap.size, 1, _, rfl, hr.hb, heap_alloc_new w _, Nat.le_refl _, by simp [maxLen], by simp, by simp⟩⟩, rfl, rfl, rfl, fun j u hj => ?_, .inr ⟨rfl, rfl⟩, by simp [g'], ?_⟩
      · match j with
        | 0 =>
          simp at hj
          subst hj
          exact ⟨ownsRow_of_block b1 fun c hc => hbel.block c (hblk c (b3.mem hc)), b2, b3.list⟩
        | j + 1 => simp at hj
      · show ([w.heap.size] ++ gk.bl).Nodup
        rw [List.singleton_append, List.nodup_cons]
        exact ⟨fun hc => by have := hblk _ hc; omega, b3.nodup⟩
    · exact RV.own (g := g') (by rw [List.getElem?_set_self hpl])
end
section
variable {P : Program} {env : Env} {os : List AO} {d : Tmp} {ty : TypeId} {pos : String} {af : Array Edge} {l rest : List Oper} {K : APost}
theorem w_bsr1s {t e e2 e3 : TypeId} {bytes : Nat} [TSlice P t e] [TElem P e (.slice none 0 0) bytes] [TSlice P e e2] {x : Operand} {k m : Nat} {ys : List Int} (hx : evo env x = some (.own k)) (hk : os[k]? = some (.sli e3 ys)) (he3 : e3 = e2) (hm : os.length = m)
    (h' : AOps P .seq l rest K (Env.up (env.mp (AV.rin k m 0)) d (.own m)) (((((os ++ [AO.sls e e2 []]).map (AO.via (AV.rin k m 0) m)).set m (.sls e e2 [ys])).set k .dead))) :
    AOps P .seq l (⟨some d, .buildSlice t 1 #[(0, x)], ty, pos, af, none⟩ :: rest) K env os := by
  subst hm
  exact AOps.lo (l_bsr1s (ev_of hx) hk he3) h'
end
section
variable {P : Program} {N : APost} {X : Nat → APost} {Rt : APost} {env : Env} {os : List AO}
end

end Go.Proofs.Ythlfdhooiekgjaa
/-
  Slices made empty, with room. No condition.
-/
namespace Go.Proofs.Ythlfdhooiekgjaa
open Go Go.RowKit
section
variable {P : Program} {env : Env} {os : List AO} {d : Option Tmp} {ty : TypeId} {pos : String} {af : Array Edge} {g : Option (Nat × Bool)}

theorem l_mk0 {t e : TypeId} {bytes : Nat} [ht : TSlice P t e] [he : TElem P e (.int .i64 0) bytes] {x y : Operand} {n : Int} (hx : AV.ev env x = .i 0) (hy : AV.ev env y = .i n) (h0 : 0 ≤ n) (hb : (bytes : Int) * n ≤ 281474976710656) (hm : n ≤ 9223372036854775807) :
    LOp P ⟨d, .makeSlice t x y, ty, pos, af, g⟩ env os (.own os.length) env (os ++ [.sli e []]) := by
  refine l_new fun base w gs tm hr => ?_
  obtain ⟨ii, hi, hs, hz, hby⟩ := he.info
  obtain ⟨m, rfl⟩ := Int.eq_ofNat_of_zero_le h0
  have hb' : ii.bytes * m ≤ 281474976710656 := by
    have : ((bytes * m : Nat) : Int) ≤ 281474976710656 := by rw [Int.natCast_mul]; exact hb
    rw [hby]; omega
  obtain ⟨w', h1, h2, h3⟩ := run_make_own (P := P) w base t e ii _ 1 ht.und hi hz hs .i64 .i64 m hb' (by simp [maxLen]; omega) hr.hb
  have hbel : Below w.heap.size w w' := (Below.refl _ _).grown h3 (Nat.le_refl _) (fun k hk => by cases hk)
  have hlt := h2.lt w.heap.size rfl
  exact ⟨w', ⟨.slice (some ⟨w.heap.size, 0, none⟩) 0 m, w.heap.size, [w.heap.size], []⟩, by simp only [execOp, hr.evv hx, hr.evv hy, Sem.run_bind, h1, Result.andThen_ok, Sem.run_pure], hbel,
    fun b hb => by simp at hb; omega, fun ok gs' => ⟨by simpa using h2, fun x hx => (by cases hx), .inr ⟨rfl, rfl⟩⟩⟩

theorem l_mkr0 {t e : TypeId} {bytes : Nat} [ht : TSlice P t e] [he : TElem P e (.slice none 0 0) bytes] (e2 : TypeId) {x y : Operand} {n : Int} (hx : AV.ev env x = .i 0) (hy : AV.ev env y = .i n) (h0 : 0 ≤ n) (hb : (bytes : Int) * n ≤ 281474976710656) (hm : n ≤ 9223372036854775807) :
    LOp P ⟨d, .makeSlice t x y, ty, pos, af, g⟩ env os (.own os.length) env (os ++ [.sls e e2 []]) := by
  refine l_new fun base w gs tm hr => ?_
  obtain ⟨ii, hi, hs, hz, hby⟩ := he.info
  obtain ⟨m, rfl⟩ := Int.eq_ofNat_of_zero_le h0
  have hb' : ii.bytes * m ≤ 281474976710656 := by
    have : ((bytes * m : Nat) : Int) ≤ 281474976710656 := by rw [Int.natCast_mul]; exact hb
    rw [hby]; omega
  obtain ⟨w', h1, h2, h3⟩ := run_make_own (P := P) w base t e ii _ 1 ht.und hi hz hs .i64 .i64 m hb' (by simp [maxLen]; omega) hr.hb
  have hbel : Below w.heap.size w w' := (Below.refl _ _).grown h3 (Nat.le_refl _) (fun k hk => by cases hk)
  have hlt := h2.lt w.heap.size rfl
  exact ⟨w', ⟨.slice (some ⟨w.heap.size, 0, none⟩) 0 m, w.heap.size, [w.heap.size], []⟩, by simp only [execOp, hr.evv hx, hr.evv hy, Sem.run_bind, h1, Result.andThen_ok, Sem.run_pure], hbel,
    fun b hb => by simp at hb; omega, fun ok gs' => ⟨[], [], [w.heap.size], by simpa using h2, rfl, rfl, rfl, fun i u hu => by simp at hu, .inr ⟨rfl, rfl⟩, by simp, by simp⟩⟩
end
section
variable {P : Program} {env : Env} {os : List AO} {d : Tmp} {ty : TypeId} {pos : String} {af : Array Edge} {l rest : List Oper} {K : APost}
theorem w_mk0 {t e : TypeId} {bytes : Nat} [TSlice P t e] [TElem P e (.int .i64 0) bytes] {x y : Operand} {n : Int} {m : Nat} (hx : evo env x = some (.i 0)) (hy : evo env y = some (.i n)) (h0 : 0 ≤ n) (hb : (bytes : Int) * n ≤ 281474976710656) (h63 : n ≤ 9223372036854775807) (hm : os.length = m)
    (h' : AOps P .seq l rest K (env.up d (.own m)) (os ++ [.sli e []])) : AOps P .seq l (⟨some d, .makeSlice t x y, ty, pos, af, none⟩ :: rest) K env os := AOps.lo (hm ▸ l_mk0 (ev_of hx) (ev_of hy) h0 hb h63) h'
theorem w_mkr0 {t e e2 : TypeId} {bytes : Nat} [TSlice P t e] [TSlice P e e2] [TElem P e (.slice none 0 0) bytes] {x y : Operand} {n : Int} {m : Nat} (hx : evo env x = some (.i 0)) (hy : evo env y = some (.i n)) (h0 : 0 ≤ n) (hb : (bytes : Int) * n ≤ 281474976710656) (h63 : n ≤ 9223372036854775807) (hm : os.length = m)
    (h' : AOps P .seq l rest K (env.up d (.own m)) (os ++ [.sls e e2 []])) : AOps P .seq l (⟨some d, .makeSlice t x y, ty, pos, af, none⟩ :: rest) K env os := AOps.lo (hm ▸ l_mkr0 e2 (ev_of hx) (ev_of hy) h0 hb h63) h'
end
end Go.Proofs.Ythlfdhooiekgjaa
/-
  Supports: copies of lists, the order of pairs, turns. No condition but a bound on the sizes.
-/
namespace Go.Proofs.Ythlfdhooiekgjaa
open Go Go.RowKit
attribute [local irreducible] AWp AOps ResIs Ret1 QOp LOp COp AFnV AFn Imms LeE LeO
set_option maxHeartbeats 1000000
set_option linter.unusedSimpArgs false
set_option linter.unusedVariables false


theorem copyLists_c (xss : List (List Int)) (hb : xss.length ≤ 1048576) (hr : ∀ xs ∈ xss, 0 < xs.length ∧ xs.length ≤ 1048576) : AFn Try.prog 65 [.intss xss] (IsIntss 38 2 xss) := by
  (refine AFn.start Try.func65 Try.ntmps65 rfl (by kernel_rfl) fun hk => ?_; simp only [Env.start, enumF, List.length_cons, List.length_nil, Nat.reduceAdd, Nat.reduceSub, List.cons_append, List.nil_append])
  repeat' (first
  | (apply AOps.nil; try simp only [List.nil_append, List.cons_append, List.set_cons_zero, List.set_cons_succ, List.length_cons, List.length_nil, Nat.reduceAdd, AV.sh, AV.sh1, AV.sh0, AO.sh, List.map_cons, List.map_nil, Nat.zero_add, Nat.add_zero, setAll])
  | ((apply AOps.splitP; exact rfl; exact rfl) <;> intro h)
  | ((apply AOps.splitN; exact rfl; exact rfl) <;> intro h)
  | (apply w_move; exact rfl; exact rfl)
  | (apply w_assign; exact rfl; exact rfl)
  | apply AWp.seq
  | apply AWp.region
  | ((apply AWp.condP; exact rfl) <;> intro h)
  | ((apply AWp.condN; exact rfl) <;> intro h)
  | (apply AWp.condT; exact rfl)
  | (apply AWp.condF; exact rfl)
  | ((apply AWp.condB; exact rfl) <;> intro h)
  | apply AWp.block
  | apply AWp.ret
  | apply AWp.exit
  | apply AWp.skip
  | (apply AWp.regionQ; kernel_rfl; kernel_rfl)
  | (apply if_pos'; exact rfl)
  | (apply if_neg'; decide)
  | (apply w_skip; exact rfl)
  | (apply w_pickT; exact rfl; exact rfl; exact rfl)
  | (apply w_pickF; exact rfl; exact rfl; exact rfl)
  | (apply w_len; exact rfl; exact rfl; first | exact .ints _ | exact .intss _ | exact .sli rfl | exact .sls rfl | exact .slr rfl | exact .orow rfl | exact .nil)
  | (apply w_mk0; exact rfl; exact rfl; rotate_left 3; exact rfl; rotate_left 1)
  | (apply w_mkr0; exact rfl; exact rfl; rotate_left 3; exact rfl; rotate_left 1)
  | ((first | apply w_lss | apply w_leq | apply w_gtr | apply w_geq | apply w_eql | apply w_neq | apply w_add | apply w_sub | apply w_mul | apply w_idx | apply w_ld | apply w_fld | apply w_fa | apply w_extv | apply w_min | apply w_max | apply w_slhi | apply w_sllo | apply w_bs2); iterate 3 exact rfl)
  | ((first | apply w_eqlb | apply w_neqb | apply w_idxs | apply w_lds | apply w_ext); iterate 3 exact rfl)
  | (apply w_rem; exact rfl; exact rfl; exact rfl; (focus (omega; done)); (focus (omega; done)))
  | (apply w_quo; exact rfl; exact rfl; exact rfl; (focus (omega; done)); (focus (omega; done)))
  | (apply w_remT; exact rfl; exact rfl; exact rfl)
  | (apply w_quoT; exact rfl; exact rfl; exact rfl)
  | ((first | apply w_not | apply w_neg | apply w_conv | apply w_build0 | apply w_bs1 | apply w_boxa); iterate 2 exact rfl)
  | (apply w_idxo; exact rfl; exact rfl; (first | exact .sli rfl | exact .sls rfl | exact .slr rfl); exact rfl)
  | ((first | apply w_idxr | apply w_ldr); iterate 4 exact rfl)
  | (apply w_ldo; iterate 4 exact rfl)
  | (apply w_ldls; iterate 4 exact rfl)
  | (apply w_ldrp; iterate 4 exact rfl)
  | (apply w_ldb; iterate 5 exact rfl)
  | (apply w_ldst; iterate 5 exact rfl)
  | ((first | apply w_sllh | apply w_stbi); iterate 4 exact rfl)
  | ((first | apply w_oslo | apply w_oshi | apply w_stbii); iterate 4 exact rfl)
  | (apply w_build1; exact rfl; exact rfl; (first | exact one_val rfl rfl | exact one_ints | exact one_intss | exact one_own rfl True.intro))
  | (apply w_build2; exact rfl; exact rfl; exact rfl; (first | exact one_val rfl rfl | exact one_ints | exact one_intss | exact one_own rfl True.intro); (first | exact one_val rfl rfl | exact one_ints | exact one_intss | exact one_own rfl True.intro))
  | (apply w_bs0; iterate 1 exact rfl)
  | (apply w_appn; exact rfl; exact rfl; (first | exact .ints _ | exact .sli rfl | exact .orow rfl | exact .nil | exact .osub rfl (by simp; omega)); exact rfl)
  | (apply w_app; exact rfl; exact rfl; exact rfl; exact rfl; (first | exact .ints _ | exact .sli rfl | exact .orow rfl | exact .nil | exact .osub rfl (by simp; omega)); rotate_left 1; simp only [Env.mp, List.map_cons, List.map_nil, List.set_cons_zero, List.set_cons_succ, AV.kill, AV.kill1, AO.kill, AV.noRow, AV.noRow1, AO.via, reduceIte, Nat.reduceEqDiff, Nat.reduceLT, Env.up, Nat.zero_ne_one, Nat.one_ne_zero, Nat.reduceAdd, List.cons_append, List.nil_append]; rotate_left 1)
  | (apply w_alst; iterate 2 exact rfl)
  | (apply w_alone; iterate 3 exact rfl)
  | (apply w_mki; exact rfl; exact rfl; rotate_left 3; exact rfl; rotate_left 1)
  | (apply w_mkr; exact rfl; exact rfl; rotate_left 3; exact rfl; rotate_left 1)
  | (apply w_sti; exact rfl; exact rfl; rotate_left 1; exact rfl; rotate_left 2)
  | (apply w_stst; iterate 5 exact rfl)
  | (apply w_stbv; iterate 6 exact rfl)
  | (apply w_stbo; exact rfl; exact rfl; exact rfl; exact rfl; exact rfl; exact True.intro)
  | ((apply AOps.splitB; exact rfl; exact rfl) <;> intro h)
  | apply AllOf.nil
  | (apply AllOf.cons; exact rfl)
  | (apply AAny.take; exact rfl; exact rfl; kernel_rfl; kernel_rfl)
  | (apply AAny.all; exact rfl)
  | (apply AAny.done; exact rfl)
  | (apply inI_of <;> omega)
  | omega
  | (simp <;> omega))
  refine AWp.loop (ι := Nat) (fun i => ⟨22, [(3, .own 0), (9, .intss xss), (10, .i xss.length), (11, .i i)]⟩) (fun i => [.sls 38 2 (xss.take i)]) (fun i => i ≤ xss.length) (fun i => xss.length - i) 0 (by omega) ⟨lee rfl (by (repeat (first | exact le_nil | refine le_eq rfl rfl ?_ | refine le_eq rfl (congrArg AV.i (by omega)) ?_))), by (repeat (first | exact lo_nil | refine lo_dead ?_ | refine lo_eq rfl ?_)), rfl, rfl⟩ ?_
  rintro i h0
  have e1 : (xss.take i).length = i := by simp; omega
  by_cases hi : i < xss.length
  · have hb2 := hr (gets xss i) (gets_mem (by omega) (by omega))
    have e2 : xss.take i ++ [gets xss i] = xss.take (i + 1) := by rw [List.take_succ_eq_append_getElem hi]; simp [gets, hi]
    repeat' (first
  | (apply AOps.nil; try simp only [List.nil_append, List.cons_append, List.set_cons_zero, List.set_cons_succ, List.length_cons, List.length_nil, Nat.reduceAdd, AV.sh, AV.sh1, AV.sh0, AO.sh, List.map_cons, List.map_nil, Nat.zero_add, Nat.add_zero, setAll])
  | ((apply AOps.splitP; exact rfl; exact rfl) <;> intro h)
  | ((apply AOps.splitN; exact rfl; exact rfl) <;> intro h)
  | (apply w_move; exact rfl; exact rfl)
  | (apply w_assign; exact rfl; exact rfl)
  | apply AWp.seq
  | apply AWp.region
  | ((apply AWp.condP; exact rfl) <;> intro h)
  | ((apply AWp.condN; exact rfl) <;> intro h)
  | (apply AWp.condT; exact rfl)
  | (apply AWp.condF; exact rfl)
  | ((apply AWp.condB; exact rfl) <;> intro h)
  | apply AWp.block
  | apply AWp.ret
  | apply AWp.exit
  | apply AWp.skip
  | (apply AWp.regionQ; kernel_rfl; kernel_rfl)
  | (apply if_pos'; exact rfl)
  | (apply if_neg'; decide)
  | (apply w_skip; exact rfl)
  | (apply w_pickT; exact rfl; exact rfl; exact rfl)
  | (apply w_pickF; exact rfl; exact rfl; exact rfl)
  | (apply w_len; exact rfl; exact rfl; first | exact .ints _ | exact .intss _ | exact .sli rfl | exact .sls rfl | exact .slr rfl | exact .orow rfl | exact .nil)
  | ((first | apply w_bsr0 | apply w_bs0); iterate 1 exact rfl)
  | ((first | apply w_bsr1 | apply w_lss | apply w_leq | apply w_gtr | apply w_geq | apply w_eql | apply w_neq | apply w_add | apply w_sub | apply w_mul | apply w_idx | apply w_ld | apply w_fld | apply w_fa | apply w_extv | apply w_min | apply w_max | apply w_slhi | apply w_sllo | apply w_bs2); iterate 3 exact rfl)
  | (apply w_appr; exact rfl; exact rfl; exact rfl; exact rfl; exact rfl; exact rfl; exact rfl; rotate_left 1; simp only [Env.mp, List.map_cons, List.map_nil, List.set_cons_zero, List.set_cons_succ, AV.kill, AV.kill1, AO.kill, AV.rin, AV.rin1, AV.noRow, AV.noRow1, AO.via, reduceIte, Nat.reduceEqDiff, Nat.reduceLT, Env.up, Nat.zero_ne_one, Nat.one_ne_zero, Nat.reduceAdd, List.cons_append, List.nil_append]; rotate_left 1)
  | (apply w_callm (clone_c _ hb2.1 hb2.2); (focus ((repeat (first | exact im_nil | refine im_cons rfl (.val _) ?_ | refine im_cons rfl (.ints _) ?_ | refine im_cons rfl (.intss _) ?_ | refine im_cons rfl (.sli rfl) ?_ | refine im_cons rfl (.sls rfl) ?_ | refine im_cons rfl (.orow rfl) ?_ | refine im_cons rfl (.osub rfl (by simp; omega)) ?_ | refine im_cons rfl (.nil) ?_ | refine im_cons rfl (.nils) ?_ | refine im_cons rfl (im_agg2 (.val _) (.ints _)) ?_ | refine im_cons rfl (im_agg2 (.val _) (.sli rfl)) ?_ | refine im_cons rfl (im_agg2 (.val _) (.nil)) ?_ | refine im_cons rfl (im_agg2 (.ints _) (.intss _)) ?_ | refine im_cons rfl (im_agg2 (.ints _) (.sls rfl)) ?_ | refine im_cons rfl (im_agg2 (.sli rfl) (.intss _)) ?_ | refine im_cons rfl (im_agg2 (.sli rfl) (.sls rfl)) ?_ | refine im_cons rfl (im_agg1 (.ints _)) ?_ | refine im_cons rfl (im_agg1 (.sli rfl)) ?_ | refine im_cons rfl (im_agg1 (.intss _)) ?_ | refine im_cons rfl (im_agg1 (.sls rfl)) ?_ | refine im_cons rfl (im_agg1 (.nil)) ?_ | refine im_cons rfl (im_agg1 (.nils)) ?_)); done)); rintro r os0 ⟨rfl, rfl⟩; try simp only [List.nil_append, List.cons_append, List.set_cons_zero, List.set_cons_succ, List.length_cons, List.length_nil, Nat.reduceAdd, AV.sh, AV.sh1, AV.sh0, AO.sh, List.map_cons, List.map_nil, Nat.zero_add, Nat.add_zero, setAll])
  | omega
  | ((first | apply w_eqlb | apply w_neqb | apply w_idxs | apply w_lds | apply w_ext); iterate 3 exact rfl)
  | (apply w_rem; exact rfl; exact rfl; exact rfl; (focus (omega; done)); (focus (omega; done)))
  | (apply w_quo; exact rfl; exact rfl; exact rfl; (focus (omega; done)); (focus (omega; done)))
  | (apply w_remT; exact rfl; exact rfl; exact rfl)
  | (apply w_quoT; exact rfl; exact rfl; exact rfl)
  | ((first | apply w_not | apply w_neg | apply w_conv | apply w_build0 | apply w_bs1 | apply w_boxa); iterate 2 exact rfl)
  | (apply w_idxo; exact rfl; exact rfl; (first | exact .sli rfl | exact .sls rfl | exact .slr rfl); exact rfl)
  | ((first | apply w_idxr | apply w_ldr); iterate 4 exact rfl)
  | (apply w_ldo; iterate 4 exact rfl)
  | (apply w_ldls; iterate 4 exact rfl)
  | (apply w_ldrp; iterate 4 exact rfl)
  | (apply w_ldb; iterate 5 exact rfl)
  | (apply w_ldst; iterate 5 exact rfl)
  | ((first | apply w_sllh | apply w_stbi); iterate 4 exact rfl)
  | ((first | apply w_oslo | apply w_oshi | apply w_stbii); iterate 4 exact rfl)
  | (apply w_build1; exact rfl; exact rfl; (first | exact one_val rfl rfl | exact one_ints | exact one_intss | exact one_own rfl True.intro))
  | (apply w_build2; exact rfl; exact rfl; exact rfl; (first | exact one_val rfl rfl | exact one_ints | exact one_intss | exact one_own rfl True.intro); (first | exact one_val rfl rfl | exact one_ints | exact one_intss | exact one_own rfl True.intro))
  | (apply w_appn; exact rfl; exact rfl; (first | exact .ints _ | exact .sli rfl | exact .orow rfl | exact .nil | exact .osub rfl (by simp; omega)); exact rfl)
  | (apply w_app; exact rfl; exact rfl; exact rfl; exact rfl; (first | exact .ints _ | exact .sli rfl | exact .orow rfl | exact .nil | exact .osub rfl (by simp; omega)); rotate_left 1; simp only [Env.mp, List.map_cons, List.map_nil, List.set_cons_zero, List.set_cons_succ, AV.kill, AV.kill1, AO.kill, AV.noRow, AV.noRow1, AO.via, reduceIte, Nat.reduceEqDiff, Nat.reduceLT, Env.up, Nat.zero_ne_one, Nat.one_ne_zero, Nat.reduceAdd, List.cons_append, List.nil_append]; rotate_left 1)
  | (apply w_alst; iterate 2 exact rfl)
  | (apply w_alone; iterate 3 exact rfl)
  | (apply w_mki; exact rfl; exact rfl; rotate_left 3; exact rfl; rotate_left 1)
  | (apply w_mkr; exact rfl; exact rfl; rotate_left 3; exact rfl; rotate_left 1)
  | (apply w_sti; exact rfl; exact rfl; rotate_left 1; exact rfl; rotate_left 2)
  | (apply w_stst; iterate 5 exact rfl)
  | (apply w_stbv; iterate 6 exact rfl)
  | (apply w_stbo; exact rfl; exact rfl; exact rfl; exact rfl; exact rfl; exact True.intro)
  | ((apply AOps.splitB; exact rfl; exact rfl) <;> intro h)
  | apply AllOf.nil
  | (apply AllOf.cons; exact rfl)
  | (apply AAny.take; exact rfl; exact rfl; kernel_rfl; kernel_rfl)
  | (apply AAny.all; exact rfl)
  | (apply AAny.done; exact rfl)
  | (apply inI_of <;> omega)
  | omega
  | (simp <;> omega))
    all_goals exact ⟨i + 1, by omega, by omega, ⟨lee rfl (by (repeat (first | exact le_nil | refine le_eq rfl rfl ?_ | refine le_eq rfl (congrArg AV.i (by omega)) ?_ | refine le_eq rfl (congrArg AV.i (e2)) ?_))), by (repeat (first | exact lo_nil | refine lo_dead ?_ | refine lo_eq rfl ?_ | refine lo_eq (congrArg (AO.sli _) (e2)) ?_ | refine lo_eq (congrArg (AO.sls _ _) (e2)) ?_)), rfl, rfl⟩⟩
  · repeat' (first
  | (apply AOps.nil; try simp only [List.nil_append, List.cons_append, List.set_cons_zero, List.set_cons_succ, List.length_cons, List.length_nil, Nat.reduceAdd, AV.sh, AV.sh1, AV.sh0, AO.sh, List.map_cons, List.map_nil, Nat.zero_add, Nat.add_zero, setAll])
  | ((apply AOps.splitP; exact rfl; exact rfl) <;> intro h)
  | ((apply AOps.splitN; exact rfl; exact rfl) <;> intro h)
  | (apply w_move; exact rfl; exact rfl)
  | (apply w_assign; exact rfl; exact rfl)
  | apply AWp.seq
  | apply AWp.region
  | ((apply AWp.condP; exact rfl) <;> intro h)
  | ((apply AWp.condN; exact rfl) <;> intro h)
  | (apply AWp.condT; exact rfl)
  | (apply AWp.condF; exact rfl)
  | ((apply AWp.condB; exact rfl) <;> intro h)
  | apply AWp.block
  | apply AWp.ret
  | apply AWp.exit
  | apply AWp.skip
  | (apply AWp.regionQ; kernel_rfl; kernel_rfl)
  | (apply if_pos'; exact rfl)
  | (apply if_neg'; decide)
  | (apply w_skip; exact rfl)
  | (apply w_pickT; exact rfl; exact rfl; exact rfl)
  | (apply w_pickF; exact rfl; exact rfl; exact rfl)
  | (apply w_len; exact rfl; exact rfl; first | exact .ints _ | exact .intss _ | exact .sli rfl | exact .sls rfl | exact .slr rfl | exact .orow rfl | exact .nil)
  | omega
  | ((first | apply w_lss | apply w_leq | apply w_gtr | apply w_geq | apply w_eql | apply w_neq | apply w_add | apply w_sub | apply w_mul | apply w_idx | apply w_ld | apply w_fld | apply w_fa | apply w_extv | apply w_min | apply w_max | apply w_slhi | apply w_sllo | apply w_bs2); iterate 3 exact rfl)
  | ((first | apply w_eqlb | apply w_neqb | apply w_idxs | apply w_lds | apply w_ext); iterate 3 exact rfl)
  | (apply w_rem; exact rfl; exact rfl; exact rfl; (focus (omega; done)); (focus (omega; done)))
  | (apply w_quo; exact rfl; exact rfl; exact rfl; (focus (omega; done)); (focus (omega; done)))
  | (apply w_remT; exact rfl; exact rfl; exact rfl)
  | (apply w_quoT; exact rfl; exact rfl; exact rfl)
  | ((first | apply w_not | apply w_neg | apply w_conv | apply w_build0 | apply w_bs1 | apply w_boxa); iterate 2 exact rfl)
  | (apply w_idxo; exact rfl; exact rfl; (first | exact .sli rfl | exact .sls rfl | exact .slr rfl); exact rfl)
  | ((first | apply w_idxr | apply w_ldr); iterate 4 exact rfl)
  | (apply w_ldo; iterate 4 exact rfl)
  | (apply w_ldls; iterate 4 exact rfl)
  | (apply w_ldrp; iterate 4 exact rfl)
  | (apply w_ldb; iterate 5 exact rfl)
  | (apply w_ldst; iterate 5 exact rfl)
  | ((first | apply w_sllh | apply w_stbi); iterate 4 exact rfl)
  | ((first | apply w_oslo | apply w_oshi | apply w_stbii); iterate 4 exact rfl)
  | (apply w_build1; exact rfl; exact rfl; (first | exact one_val rfl rfl | exact one_ints | exact one_intss | exact one_own rfl True.intro))
  | (apply w_build2; exact rfl; exact rfl; exact rfl; (first | exact one_val rfl rfl | exact one_ints | exact one_intss | exact one_own rfl True.intro); (first | exact one_val rfl rfl | exact one_ints | exact one_intss | exact one_own rfl True.intro))
  | (apply w_bs0; iterate 1 exact rfl)
  | (apply w_appn; exact rfl; exact rfl; (first | exact .ints _ | exact .sli rfl | exact .orow rfl | exact .nil | exact .osub rfl (by simp; omega)); exact rfl)
  | (apply w_app; exact rfl; exact rfl; exact rfl; exact rfl; (first | exact .ints _ | exact .sli rfl | exact .orow rfl | exact .nil | exact .osub rfl (by simp; omega)); rotate_left 1; simp only [Env.mp, List.map_cons, List.map_nil, List.set_cons_zero, List.set_cons_succ, AV.kill, AV.kill1, AO.kill, AV.noRow, AV.noRow1, AO.via, reduceIte, Nat.reduceEqDiff, Nat.reduceLT, Env.up, Nat.zero_ne_one, Nat.one_ne_zero, Nat.reduceAdd, List.cons_append, List.nil_append]; rotate_left 1)
  | (apply w_alst; iterate 2 exact rfl)
  | (apply w_alone; iterate 3 exact rfl)
  | (apply w_mki; exact rfl; exact rfl; rotate_left 3; exact rfl; rotate_left 1)
  | (apply w_mkr; exact rfl; exact rfl; rotate_left 3; exact rfl; rotate_left 1)
  | (apply w_sti; exact rfl; exact rfl; rotate_left 1; exact rfl; rotate_left 2)
  | (apply w_stst; iterate 5 exact rfl)
  | (apply w_stbv; iterate 6 exact rfl)
  | (apply w_stbo; exact rfl; exact rfl; exact rfl; exact rfl; exact rfl; exact True.intro)
  | ((apply AOps.splitB; exact rfl; exact rfl) <;> intro h)
  | apply AllOf.nil
  | (apply AllOf.cons; exact rfl)
  | (apply AAny.take; exact rfl; exact rfl; kernel_rfl; kernel_rfl)
  | (apply AAny.all; exact rfl)
  | (apply AAny.done; exact rfl)
  | (apply inI_of <;> omega)
  | omega
  | (simp <;> omega))
    have e : i = xss.length := by omega
    subst e
    exact ⟨_, _, _, .v1 Try.results65 rfl, .sls rfl, rfl, by simp⟩

/-- A row of two numbers of moderate size. -/
def PB (r : List Int) : Prop := r.length = 2 ∧ (0 ≤ geti r 0 ∧ geti r 0 ≤ 100000) ∧ (0 ≤ geti r 1 ∧ geti r 1 ≤ 100000)
theorem mulPB {x y : Int} (hx : -100000 ≤ x ∧ x ≤ 100000) (hy : -100000 ≤ y ∧ y ≤ 100000) : -10000000000 ≤ x * y ∧ x * y ≤ 10000000000 := by
  have := Int.mul_nonneg (show 0 ≤ 100000 - x by omega) (show 0 ≤ 100000 + y by omega)
  have := Int.mul_nonneg (show 0 ≤ 100000 + x by omega) (show 0 ≤ 100000 - y by omega)
  have := Int.mul_nonneg (show 0 ≤ 100000 - x by omega) (show 0 ≤ 100000 - y by omega)
  have := Int.mul_nonneg (show 0 ≤ 100000 + x by omega) (show 0 ≤ 100000 + y by omega)
  constructor <;> grind
abbrev gX : List Int → Int := fun r => geti r 0
abbrev gY : List Int → Int := fun r => geti r 1

theorem turns_c (a b c : List Int) (ha : PB a) (hb : PB b) (hc : PB c) : AFnV Try.prog 69 [.ints a, .ints b, .ints c] (.bool (decide (0 < Hl.cr gX gY a b c))) := by
  obtain ⟨a1, a2, a3⟩ := ha
  obtain ⟨b1, b2, b3⟩ := hb
  obtain ⟨c1, c2, c3⟩ := hc
  have m1 := mulPB (x := geti b 0 - geti a 0) (y := geti c 1 - geti a 1) (by omega) (by omega)
  have m2 := mulPB (x := geti b 1 - geti a 1) (y := geti c 0 - geti a 0) (by omega) (by omega)
  (refine AFnV.start Try.func69 Try.ntmps69 rfl (by kernel_rfl) fun hk => ?_; simp only [Env.start, enumF, List.length_cons, List.length_nil, Nat.reduceAdd, Nat.reduceSub, List.cons_append, List.nil_append])
  repeat' (first
  | (apply AOps.nil; try simp only [List.nil_append, List.cons_append, List.set_cons_zero, List.set_cons_succ, List.length_cons, List.length_nil, Nat.reduceAdd, AV.sh, AV.sh1, AV.sh0, AO.sh, List.map_cons, List.map_nil, Nat.zero_add, Nat.add_zero, setAll])
  | ((apply AOps.splitP; exact rfl; exact rfl) <;> intro h)
  | ((apply AOps.splitN; exact rfl; exact rfl) <;> intro h)
  | (apply w_move; exact rfl; exact rfl)
  | (apply w_assign; exact rfl; exact rfl)
  | apply AWp.seq
  | apply AWp.region
  | ((apply AWp.condP; exact rfl) <;> intro h)
  | ((apply AWp.condN; exact rfl) <;> intro h)
  | (apply AWp.condT; exact rfl)
  | (apply AWp.condF; exact rfl)
  | ((apply AWp.condB; exact rfl) <;> intro h)
  | apply AWp.block
  | apply AWp.ret
  | apply AWp.exit
  | apply AWp.skip
  | (apply AWp.regionQ; kernel_rfl; kernel_rfl)
  | (apply if_pos'; exact rfl)
  | (apply if_neg'; decide)
  | (apply w_skip; exact rfl)
  | (apply w_pickT; exact rfl; exact rfl; exact rfl)
  | (apply w_pickF; exact rfl; exact rfl; exact rfl)
  | (apply w_len; exact rfl; exact rfl; first | exact .ints _ | exact .intss _ | exact .sli rfl | exact .sls rfl | exact .slr rfl | exact .orow rfl | exact .nil)
  | ((first | apply w_lss | apply w_leq | apply w_gtr | apply w_geq | apply w_eql | apply w_neq | apply w_add | apply w_sub | apply w_mul | apply w_idx | apply w_ld | apply w_fld | apply w_fa | apply w_extv | apply w_min | apply w_max | apply w_slhi | apply w_sllo | apply w_bs2); iterate 3 exact rfl)
  | ((first | apply w_eqlb | apply w_neqb | apply w_idxs | apply w_lds | apply w_ext); iterate 3 exact rfl)
  | (apply w_rem; exact rfl; exact rfl; exact rfl; (focus (omega; done)); (focus (omega; done)))
  | (apply w_quo; exact rfl; exact rfl; exact rfl; (focus (omega; done)); (focus (omega; done)))
  | (apply w_remT; exact rfl; exact rfl; exact rfl)
  | (apply w_quoT; exact rfl; exact rfl; exact rfl)
  | ((first | apply w_not | apply w_neg | apply w_conv | apply w_build0 | apply w_bs1 | apply w_boxa); iterate 2 exact rfl)
  | (apply w_idxo; exact rfl; exact rfl; (first | exact .sli rfl | exact .sls rfl | exact .slr rfl); exact rfl)
  | ((first | apply w_idxr | apply w_ldr); iterate 4 exact rfl)
  | (apply w_ldo; iterate 4 exact rfl)
  | (apply w_ldls; iterate 4 exact rfl)
  | (apply w_ldrp; iterate 4 exact rfl)
  | (apply w_ldb; iterate 5 exact rfl)
  | (apply w_ldst; iterate 5 exact rfl)
  | ((first | apply w_sllh | apply w_stbi); iterate 4 exact rfl)
  | ((first | apply w_oslo | apply w_oshi | apply w_stbii); iterate 4 exact rfl)
  | (apply w_build1; exact rfl; exact rfl; (first | exact one_val rfl rfl | exact one_ints | exact one_intss | exact one_own rfl True.intro))
  | (apply w_build2; exact rfl; exact rfl; exact rfl; (first | exact one_val rfl rfl | exact one_ints | exact one_intss | exact one_own rfl True.intro); (first | exact one_val rfl rfl | exact one_ints | exact one_intss | exact one_own rfl True.intro))
  | (apply w_bs0; iterate 1 exact rfl)
  | (apply w_appn; exact rfl; exact rfl; (first | exact .ints _ | exact .sli rfl | exact .orow rfl | exact .nil | exact .osub rfl (by simp; omega)); exact rfl)
  | (apply w_app; exact rfl; exact rfl; exact rfl; exact rfl; (first | exact .ints _ | exact .sli rfl | exact .orow rfl | exact .nil | exact .osub rfl (by simp; omega)); rotate_left 1; simp only [Env.mp, List.map_cons, List.map_nil, List.set_cons_zero, List.set_cons_succ, AV.kill, AV.kill1, AO.kill, AV.noRow, AV.noRow1, AO.via, reduceIte, Nat.reduceEqDiff, Nat.reduceLT, Env.up, Nat.zero_ne_one, Nat.one_ne_zero, Nat.reduceAdd, List.cons_append, List.nil_append]; rotate_left 1)
  | (apply w_alst; iterate 2 exact rfl)
  | (apply w_alone; iterate 3 exact rfl)
  | (apply w_mki; exact rfl; exact rfl; rotate_left 3; exact rfl; rotate_left 1)
  | (apply w_mkr; exact rfl; exact rfl; rotate_left 3; exact rfl; rotate_left 1)
  | (apply w_sti; exact rfl; exact rfl; rotate_left 1; exact rfl; rotate_left 2)
  | (apply w_stst; iterate 5 exact rfl)
  | (apply w_stbv; iterate 6 exact rfl)
  | (apply w_stbo; exact rfl; exact rfl; exact rfl; exact rfl; exact rfl; exact True.intro)
  | ((apply AOps.splitB; exact rfl; exact rfl) <;> intro h)
  | apply AllOf.nil
  | (apply AllOf.cons; exact rfl)
  | (apply AAny.take; exact rfl; exact rfl; kernel_rfl; kernel_rfl)
  | (apply AAny.all; exact rfl)
  | (apply AAny.done; exact rfl)
  | (apply inI_of <;> omega)
  | omega
  | (simp <;> omega))
  all_goals exact .bool Try.results69 rfl rfl

def less2 (a b : List Int) : Bool := decide (geti a 0 < geti b 0 ∨ (geti a 0 = geti b 0 ∧ geti a 1 < geti b 1))
theorem l01Less_c (a b : List Int) (ha : a.length = 2) (hb : b.length = 2) : AFnV Try.prog 70 [.ints a, .ints b] (.bool (less2 a b)) := by
  (refine AFnV.start Try.func70 Try.ntmps70 rfl (by kernel_rfl) fun hk => ?_; simp only [Env.start, enumF, List.length_cons, List.length_nil, Nat.reduceAdd, Nat.reduceSub, List.cons_append, List.nil_append])
  repeat' (first
  | (apply AOps.nil; try simp only [List.nil_append, List.cons_append, List.set_cons_zero, List.set_cons_succ, List.length_cons, List.length_nil, Nat.reduceAdd, AV.sh, AV.sh1, AV.sh0, AO.sh, List.map_cons, List.map_nil, Nat.zero_add, Nat.add_zero, setAll])
  | ((apply AOps.splitP; exact rfl; exact rfl) <;> intro h)
  | ((apply AOps.splitN; exact rfl; exact rfl) <;> intro h)
  | (apply w_move; exact rfl; exact rfl)
  | (apply w_assign; exact rfl; exact rfl)
  | apply AWp.seq
  | apply AWp.region
  | ((apply AWp.condP; exact rfl) <;> intro h)
  | ((apply AWp.condN; exact rfl) <;> intro h)
  | (apply AWp.condT; exact rfl)
  | (apply AWp.condF; exact rfl)
  | ((apply AWp.condB; exact rfl) <;> intro h)
  | apply AWp.block
  | apply AWp.ret
  | apply AWp.exit
  | apply AWp.skip
  | (apply AWp.regionQ; kernel_rfl; kernel_rfl)
  | (apply if_pos'; exact rfl)
  | (apply if_neg'; decide)
  | (apply w_skip; exact rfl)
  | (apply w_pickT; exact rfl; exact rfl; exact rfl)
  | (apply w_pickF; exact rfl; exact rfl; exact rfl)
  | (apply w_len; exact rfl; exact rfl; first | exact .ints _ | exact .intss _ | exact .sli rfl | exact .sls rfl | exact .slr rfl | exact .orow rfl | exact .nil)
  | ((first | apply w_lss | apply w_leq | apply w_gtr | apply w_geq | apply w_eql | apply w_neq | apply w_add | apply w_sub | apply w_mul | apply w_idx | apply w_ld | apply w_fld | apply w_fa | apply w_extv | apply w_min | apply w_max | apply w_slhi | apply w_sllo | apply w_bs2); iterate 3 exact rfl)
  | ((first | apply w_eqlb | apply w_neqb | apply w_idxs | apply w_lds | apply w_ext); iterate 3 exact rfl)
  | (apply w_rem; exact rfl; exact rfl; exact rfl; (focus (omega; done)); (focus (omega; done)))
  | (apply w_quo; exact rfl; exact rfl; exact rfl; (focus (omega; done)); (focus (omega; done)))
  | (apply w_remT; exact rfl; exact rfl; exact rfl)
  | (apply w_quoT; exact rfl; exact rfl; exact rfl)
  | ((first | apply w_not | apply w_neg | apply w_conv | apply w_build0 | apply w_bs1 | apply w_boxa); iterate 2 exact rfl)
  | (apply w_idxo; exact rfl; exact rfl; (first | exact .sli rfl | exact .sls rfl | exact .slr rfl); exact rfl)
  | ((first | apply w_idxr | apply w_ldr); iterate 4 exact rfl)
  | (apply w_ldo; iterate 4 exact rfl)
  | (apply w_ldls; iterate 4 exact rfl)
  | (apply w_ldrp; iterate 4 exact rfl)
  | (apply w_ldb; iterate 5 exact rfl)
  | (apply w_ldst; iterate 5 exact rfl)
  | ((first | apply w_sllh | apply w_stbi); iterate 4 exact rfl)
  | ((first | apply w_oslo | apply w_oshi | apply w_stbii); iterate 4 exact rfl)
  | (apply w_build1; exact rfl; exact rfl; (first | exact one_val rfl rfl | exact one_ints | exact one_intss | exact one_own rfl True.intro))
  | (apply w_build2; exact rfl; exact rfl; exact rfl; (first | exact one_val rfl rfl | exact one_ints | exact one_intss | exact one_own rfl True.intro); (first | exact one_val rfl rfl | exact one_ints | exact one_intss | exact one_own rfl True.intro))
  | (apply w_bs0; iterate 1 exact rfl)
  | (apply w_appn; exact rfl; exact rfl; (first | exact .ints _ | exact .sli rfl | exact .orow rfl | exact .nil | exact .osub rfl (by simp; omega)); exact rfl)
  | (apply w_app; exact rfl; exact rfl; exact rfl; exact rfl; (first | exact .ints _ | exact .sli rfl | exact .orow rfl | exact .nil | exact .osub rfl (by simp; omega)); rotate_left 1; simp only [Env.mp, List.map_cons, List.map_nil, List.set_cons_zero, List.set_cons_succ, AV.kill, AV.kill1, AO.kill, AV.noRow, AV.noRow1, AO.via, reduceIte, Nat.reduceEqDiff, Nat.reduceLT, Env.up, Nat.zero_ne_one, Nat.one_ne_zero, Nat.reduceAdd, List.cons_append, List.nil_append]; rotate_left 1)
  | (apply w_alst; iterate 2 exact rfl)
  | (apply w_alone; iterate 3 exact rfl)
  | (apply w_mki; exact rfl; exact rfl; rotate_left 3; exact rfl; rotate_left 1)
  | (apply w_mkr; exact rfl; exact rfl; rotate_left 3; exact rfl; rotate_left 1)
  | (apply w_sti; exact rfl; exact rfl; rotate_left 1; exact rfl; rotate_left 2)
  | (apply w_stst; iterate 5 exact rfl)
  | (apply w_stbv; iterate 6 exact rfl)
  | (apply w_stbo; exact rfl; exact rfl; exact rfl; exact rfl; exact rfl; exact True.intro)
  | ((apply AOps.splitB; exact rfl; exact rfl) <;> intro h)
  | apply AllOf.nil
  | (apply AllOf.cons; exact rfl)
  | (apply AAny.take; exact rfl; exact rfl; kernel_rfl; kernel_rfl)
  | (apply AAny.all; exact rfl)
  | (apply AAny.done; exact rfl)
  | (apply inI_of <;> omega)
  | omega
  | (simp <;> omega))
  refine AWp.loop (ι := Nat) (fun i => ⟨41, [(0, .ints a), (1, .ints b), (5, .i i)]⟩) (fun _ => []) (fun i => i ≤ 2 ∧ (1 ≤ i → geti a 0 = geti b 0) ∧ (2 ≤ i → geti a 1 = geti b 1)) (fun i => 2 - i) 0 ⟨by omega, fun h => by omega, fun h => by omega⟩ ⟨lee rfl (by (repeat (first | exact le_nil | refine le_eq rfl rfl ?_ | refine le_eq rfl (congrArg AV.i (by omega)) ?_))), by (repeat (first | exact lo_nil | refine lo_dead ?_ | refine lo_eq rfl ?_)), rfl, rfl⟩ ?_
  rintro i ⟨h0, h1, h2⟩
  rcases (show i = 0 ∨ i = 1 ∨ i = 2 by omega) with rfl | rfl | rfl
  all_goals repeat' (first
  | (apply AOps.nil; try simp only [List.nil_append, List.cons_append, List.set_cons_zero, List.set_cons_succ, List.length_cons, List.length_nil, Nat.reduceAdd, AV.sh, AV.sh1, AV.sh0, AO.sh, List.map_cons, List.map_nil, Nat.zero_add, Nat.add_zero, setAll])
  | ((apply AOps.splitP; exact rfl; exact rfl) <;> intro h)
  | ((apply AOps.splitN; exact rfl; exact rfl) <;> intro h)
  | (apply w_move; exact rfl; exact rfl)
  | (apply w_assign; exact rfl; exact rfl)
  | apply AWp.seq
  | apply AWp.region
  | ((apply AWp.condP; exact rfl) <;> intro h)
  | ((apply AWp.condN; exact rfl) <;> intro h)
  | (apply AWp.condT; exact rfl)
  | (apply AWp.condF; exact rfl)
  | ((apply AWp.condB; exact rfl) <;> intro h)
  | apply AWp.block
  | apply AWp.ret
  | apply AWp.exit
  | apply AWp.skip
  | (apply AWp.regionQ; kernel_rfl; kernel_rfl)
  | (apply if_pos'; exact rfl)
  | (apply if_neg'; decide)
  | (apply w_skip; exact rfl)
  | (apply w_pickT; exact rfl; exact rfl; exact rfl)
  | (apply w_pickF; exact rfl; exact rfl; exact rfl)
  | (apply w_len; exact rfl; exact rfl; first | exact .ints _ | exact .intss _ | exact .sli rfl | exact .sls rfl | exact .slr rfl | exact .orow rfl | exact .nil)
  | ((first | apply w_lss | apply w_leq | apply w_gtr | apply w_geq | apply w_eql | apply w_neq | apply w_add | apply w_sub | apply w_mul | apply w_idx | apply w_ld | apply w_fld | apply w_fa | apply w_extv | apply w_min | apply w_max | apply w_slhi | apply w_sllo | apply w_bs2); iterate 3 exact rfl)
  | ((first | apply w_eqlb | apply w_neqb | apply w_idxs | apply w_lds | apply w_ext); iterate 3 exact rfl)
  | (apply w_rem; exact rfl; exact rfl; exact rfl; (focus (omega; done)); (focus (omega; done)))
  | (apply w_quo; exact rfl; exact rfl; exact rfl; (focus (omega; done)); (focus (omega; done)))
  | (apply w_remT; exact rfl; exact rfl; exact rfl)
  | (apply w_quoT; exact rfl; exact rfl; exact rfl)
  | ((first | apply w_not | apply w_neg | apply w_conv | apply w_build0 | apply w_bs1 | apply w_boxa); iterate 2 exact rfl)
  | (apply w_idxo; exact rfl; exact rfl; (first | exact .sli rfl | exact .sls rfl | exact .slr rfl); exact rfl)
  | ((first | apply w_idxr | apply w_ldr); iterate 4 exact rfl)
  | (apply w_ldo; iterate 4 exact rfl)
  | (apply w_ldls; iterate 4 exact rfl)
  | (apply w_ldrp; iterate 4 exact rfl)
  | (apply w_ldb; iterate 5 exact rfl)
  | (apply w_ldst; iterate 5 exact rfl)
  | ((first | apply w_sllh | apply w_stbi); iterate 4 exact rfl)
  | ((first | apply w_oslo | apply w_oshi | apply w_stbii); iterate 4 exact rfl)
  | (apply w_build1; exact rfl; exact rfl; (first | exact one_val rfl rfl | exact one_ints | exact one_intss | exact one_own rfl True.intro))
  | (apply w_build2; exact rfl; exact rfl; exact rfl; (first | exact one_val rfl rfl | exact one_ints | exact one_intss | exact one_own rfl True.intro); (first | exact one_val rfl rfl | exact one_ints | exact one_intss | exact one_own rfl True.intro))
  | (apply w_bs0; iterate 1 exact rfl)
  | (apply w_appn; exact rfl; exact rfl; (first | exact .ints _ | exact .sli rfl | exact .orow rfl | exact .nil | exact .osub rfl (by simp; omega)); exact rfl)
  | (apply w_app; exact rfl; exact rfl; exact rfl; exact rfl; (first | exact .ints _ | exact .sli rfl | exact .orow rfl | exact .nil | exact .osub rfl (by simp; omega)); rotate_left 1; simp only [Env.mp, List.map_cons, List.map_nil, List.set_cons_zero, List.set_cons_succ, AV.kill, AV.kill1, AO.kill, AV.noRow, AV.noRow1, AO.via, reduceIte, Nat.reduceEqDiff, Nat.reduceLT, Env.up, Nat.zero_ne_one, Nat.one_ne_zero, Nat.reduceAdd, List.cons_append, List.nil_append]; rotate_left 1)
  | (apply w_alst; iterate 2 exact rfl)
  | (apply w_alone; iterate 3 exact rfl)
  | (apply w_mki; exact rfl; exact rfl; rotate_left 3; exact rfl; rotate_left 1)
  | (apply w_mkr; exact rfl; exact rfl; rotate_left 3; exact rfl; rotate_left 1)
  | (apply w_sti; exact rfl; exact rfl; rotate_left 1; exact rfl; rotate_left 2)
  | (apply w_stst; iterate 5 exact rfl)
  | (apply w_stbv; iterate 6 exact rfl)
  | (apply w_stbo; exact rfl; exact rfl; exact rfl; exact rfl; exact rfl; exact True.intro)
  | ((apply AOps.splitB; exact rfl; exact rfl) <;> intro h)
  | apply AllOf.nil
  | (apply AllOf.cons; exact rfl)
  | (apply AAny.take; exact rfl; exact rfl; kernel_rfl; kernel_rfl)
  | (apply AAny.all; exact rfl)
  | (apply AAny.done; exact rfl)
  | (apply inI_of <;> omega)
  | omega
  | (simp <;> omega))
  all_goals try simp only [Int.natCast_zero, Int.natCast_one] at *
  all_goals first
    | exact ⟨1, ⟨by omega, fun _ => by omega, fun h => by omega⟩, by omega, ⟨lee rfl (by (repeat (first | exact le_nil | refine le_eq rfl rfl ?_ | refine le_eq rfl (congrArg AV.i (by omega)) ?_))), by (repeat (first | exact lo_nil | refine lo_dead ?_ | refine lo_eq rfl ?_)), rfl, rfl⟩⟩
    | exact ⟨2, ⟨by omega, fun _ => by omega, fun _ => by omega⟩, by omega, ⟨lee rfl (by (repeat (first | exact le_nil | refine le_eq rfl rfl ?_ | refine le_eq rfl (congrArg AV.i (by omega)) ?_))), by (repeat (first | exact lo_nil | refine lo_dead ?_ | refine lo_eq rfl ?_)), rfl, rfl⟩⟩
    | (refine .bool Try.results70 rfl ?_
       unfold less2
       rw [Bool.eq_iff_iff, decide_eq_true_iff, decide_eq_true_iff]
       omega)
end Go.Proofs.Ythlfdhooiekgjaa
/-
  The vertices of a support: the reference's, wrapped from vertex to vertex. No condition but a bound on the sizes.
-/
namespace Go.Proofs.Ythlfdhooiekgjaa
open Go Go.RowKit
attribute [local irreducible] AWp AOps ResIs Ret1 QOp LOp COp AFnV AFn Imms LeE LeO
set_option maxHeartbeats 1000000
set_option linter.unusedSimpArgs false
set_option linter.unusedVariables false

/-- The vertices: the list that leads from the first pair to the lowest one, each the next of the one before. -/
def HasV (xss V : List (List Int)) : Prop := Hl.GW gX gY (· ∈ xss) V
noncomputable def verts (xss : List (List Int)) : List (List Int) := open Classical in if h : ∃ V, HasV xss V then h.choose else []

theorem row2_ext {a b : List Int} (ha : a.length = 2) (hb : b.length = 2) (h0 : geti a 0 = geti b 0) (h1 : geti a 1 = geti b 1) : a = b := by
  match a, b, ha, hb with
  | [x, y], [z, u], _, _ => simp [geti] at h0 h1; rw [h0, h1]
theorem verts_eq {xss V : List (List Int)} (hp : ∀ r ∈ xss, r.length = 2) (hv : HasV xss V) : verts xss = V := by
  unfold verts
  rw [dif_pos ⟨V, hv⟩]
  exact Hl.gw_unique (fun a b ha hb h0 h1 => row2_ext (hp a ha) (hp b hb) h0 h1) (Exists.choose_spec (⟨V, hv⟩ : ∃ V, HasV xss V)) hv

/-- One of the first i rows. -/
def Sp (xss : List (List Int)) (i : Nat) (q : List Int) : Prop := ∃ j : Nat, j < i ∧ q = gets xss j
theorem sp_succ (xss : List (List Int)) (i : Nat) : Hl.plus (Sp xss i) (gets xss i) = Sp xss (i + 1) := by
  funext q
  apply propext
  constructor
  · rintro (⟨j, hj, rfl⟩ | rfl)
    · exact ⟨j, by omega, rfl⟩
    · exact ⟨i, by omega, rfl⟩
  · rintro ⟨j, hj, rfl⟩
    by_cases e : j = i
    · subst e; exact .inr rfl
    · exact .inl ⟨j, by omega, rfl⟩
theorem sp_all (xss : List (List Int)) (q : List Int) : Sp xss xss.length q ↔ q ∈ xss := by
  constructor
  · rintro ⟨j, hj, rfl⟩; exact gets_mem (by omega) (by omega)
  · intro h
    obtain ⟨j, hj⟩ := List.getElem?_of_mem h
    have := (List.getElem?_eq_some_iff.1 hj).1
    exact ⟨j, this, by simp [gets, hj]⟩

def bestA (xss : List (List Int)) : Option Nat → AV
  | none => .own 2
  | some k => .ints (gets xss (k : Nat))
def BestOk (xss : List (List Int)) (a : List Int) (i : Nat) : Option Nat → Prop
  | none => ∀ q, Sp xss i q → gY a ≤ gY q
  | some k => k < xss.length ∧ Hl.isNext gX gY (Sp xss i) a (gets xss (k : Nat))

set_option maxHeartbeats 4000000 in
theorem l15Vertices_c (xss : List (List Int)) (h0 : 0 < xss.length) (h1 : xss.length ≤ 1048576) (hp : ∀ r ∈ xss, PB r) : AFn Try.prog 39 [.intss xss] (IsIntss 38 2 (verts xss)) := by
  have hpi : ∀ i : Nat, i < xss.length → PB (gets xss (i : Nat)) := fun i hi => hp _ (gets_mem (by omega) (by omega))
  have hp0 := (hpi 0 h0).1
  simp only [Int.natCast_zero] at hp0
  (refine AFn.start Try.func39 Try.ntmps39 rfl (by kernel_rfl) fun hk => ?_; simp only [Env.start, enumF, List.length_cons, List.length_nil, Nat.reduceAdd, Nat.reduceSub, List.cons_append, List.nil_append])
  repeat' (first | (apply AOps.nil; try simp only [List.nil_append, List.cons_append, List.set_cons_zero, List.set_cons_succ, List.length_cons, List.length_nil, Nat.reduceAdd, AV.sh, AV.sh1, AV.sh0, AO.sh, List.map_cons, List.map_nil, Nat.zero_add, Nat.add_zero, setAll]) | (apply w_move; exact rfl; exact rfl) | (apply w_assign; exact rfl; exact rfl) | apply AWp.seq | apply AWp.region | apply AWp.block | ((first | apply w_idxs | apply w_lds); iterate 3 exact rfl) | omega)
  refine AWp.loop (ι := Nat × Nat) (fun x => ⟨113, [(0, .intss xss), (3, .ints (gets xss (x.2 : Nat))), (4, .i x.1)]⟩) (fun _ => []) (fun x => x.1 ≤ xss.length ∧ x.2 < xss.length ∧ ∀ q, Sp xss x.1 q → Hl.lexle gX gY (gets xss (x.2 : Nat)) q) (fun x => xss.length - x.1) (0, 0) ⟨Nat.zero_le _, h0, fun q hq => by obtain ⟨j, hj, _⟩ := hq; omega⟩ ⟨lee rfl (by (repeat (first | exact le_nil | refine le_eq rfl rfl ?_))), by (repeat (exact lo_nil)), rfl, rfl⟩ ?_
  rintro ⟨i, m⟩ ⟨i0, i1, i2⟩
  simp only at i0 i1 i2
  obtain ⟨m1, m2, m3⟩ := hpi m i1
  by_cases hi : i < xss.length
  · obtain ⟨p1, p2, p3⟩ := hpi i hi
    have cl := l01Less_c (gets xss (i : Nat)) (gets xss (m : Nat)) p1 m1
    by_cases hc : less2 (gets xss (i : Nat)) (gets xss (m : Nat)) = true
    · rw [hc] at cl
      simp [less2] at hc
      repeat' (first | (apply AOps.nil; try simp only [List.nil_append, List.cons_append, List.set_cons_zero, List.set_cons_succ, List.length_cons, List.length_nil, Nat.reduceAdd, AV.sh, AV.sh1, AV.sh0, AO.sh, List.map_cons, List.map_nil, Nat.zero_add, Nat.add_zero, setAll]) | (apply w_move; exact rfl; exact rfl) | (apply w_assign; exact rfl; exact rfl) | apply AWp.seq | apply AWp.region | ((apply AWp.condP; exact rfl) <;> intro h) | (apply AWp.condT; exact rfl) | apply AWp.block | apply AWp.exit | apply AWp.skip | (apply w_len; exact rfl; exact rfl; first | exact .ints _ | exact .intss _ | exact .sli rfl | exact .sls rfl | exact .slr rfl | exact .orow rfl | exact .nil) | (apply w_call (cl); exact rfl; exact rfl; focus ((repeat (first | exact im_nil | refine im_cons rfl (.ints _) ?_)); done)) | omega | ((first | apply w_lss | apply w_add | apply w_idx | apply w_ld); iterate 3 exact rfl) | ((first | apply w_idxs | apply w_lds); iterate 3 exact rfl) | (apply inI_of <;> omega))
      refine ⟨(i + 1, i), ⟨by simp only; omega, hi, ?_⟩, by simp only; omega, ⟨lee rfl (by (repeat (first | exact le_nil | refine le_eq rfl rfl ?_))), by (repeat (exact lo_nil)), rfl, rfl⟩⟩
      simp only
      rw [← sp_succ]
      rintro q (hq | rfl)
      · have := i2 q hq
        unfold Hl.lexle at *
        simp only [gX, gY] at *
        omega
      · unfold Hl.lexle; omega
    · rw [Bool.not_eq_true] at hc
      rw [hc] at cl
      simp [less2] at hc
      repeat' (first | (apply AOps.nil; try simp only [List.nil_append, List.cons_append, List.set_cons_zero, List.set_cons_succ, List.length_cons, List.length_nil, Nat.reduceAdd, AV.sh, AV.sh1, AV.sh0, AO.sh, List.map_cons, List.map_nil, Nat.zero_add, Nat.add_zero, setAll]) | (apply w_move; exact rfl; exact rfl) | (apply w_assign; exact rfl; exact rfl) | apply AWp.seq | apply AWp.region | ((apply AWp.condP; exact rfl) <;> intro h) | (apply AWp.condF; exact rfl) | apply AWp.block | apply AWp.exit | apply AWp.skip | (apply w_len; exact rfl; exact rfl; first | exact .ints _ | exact .intss _ | exact .sli rfl | exact .sls rfl | exact .slr rfl | exact .orow rfl | exact .nil) | (apply w_call (cl); exact rfl; exact rfl; focus ((repeat (first | exact im_nil | refine im_cons rfl (.ints _) ?_)); done)) | omega | ((first | apply w_lss | apply w_add | apply w_idx | apply w_ld); iterate 3 exact rfl) | ((first | apply w_idxs | apply w_lds); iterate 3 exact rfl) | (apply inI_of <;> omega))
      refine ⟨(i + 1, m), ⟨by simp only; omega, i1, ?_⟩, by simp only; omega, ⟨lee rfl (by (repeat (first | exact le_nil | refine le_eq rfl rfl ?_))), by (repeat (exact lo_nil)), rfl, rfl⟩⟩
      simp only
      rw [← sp_succ]
      rintro q (hq | rfl)
      · exact i2 q hq
      · unfold Hl.lexle; simp only [gX, gY]; omega
  · have e : i = xss.length := by omega
    subst e
    have i3 : ∀ q, q ∈ xss → Hl.lexle gX gY (gets xss (m : Nat)) q := fun q hq => i2 q ((sp_all xss q).2 hq)
    have hown := l01Own_c (gets xss (m : Nat)) (by omega)
    repeat' (first | (apply AOps.nil; try simp only [List.nil_append, List.cons_append, List.set_cons_zero, List.set_cons_succ, List.length_cons, List.length_nil, Nat.reduceAdd, AV.sh, AV.sh1, AV.sh0, AO.sh, List.map_cons, List.map_nil, Nat.zero_add, Nat.add_zero, setAll]) | (apply w_move; exact rfl; exact rfl) | (apply w_assign; exact rfl; exact rfl) | apply AWp.seq | apply AWp.region | ((apply AWp.condP; exact rfl) <;> intro h) | apply AWp.block | apply AWp.exit | apply AWp.skip | (apply w_len; exact rfl; exact rfl; first | exact .ints _ | exact .intss _ | exact .sli rfl | exact .sls rfl | exact .slr rfl | exact .orow rfl | exact .nil) | (apply w_bsr1s; exact rfl; exact rfl; exact rfl; exact rfl; simp only [Env.mp, List.map_cons, List.map_nil, List.set_cons_zero, List.set_cons_succ, AV.kill, AV.kill1, AO.kill, AV.rin, AV.rin1, AV.noRow, AV.noRow1, AO.via, reduceIte, Nat.reduceEqDiff, Nat.reduceLT, Env.up, Nat.zero_ne_one, Nat.one_ne_zero, Nat.reduceAdd, List.cons_append, List.nil_append]) | (apply w_callm (hown); (focus ((repeat (first | exact im_nil | refine im_cons rfl (.ints _) ?_)); done)); rintro r os0 ⟨rfl, rfl⟩; try simp only [List.nil_append, List.cons_append, List.set_cons_zero, List.set_cons_succ, List.length_cons, List.length_nil, Nat.reduceAdd, AV.sh, AV.sh1, AV.sh0, AO.sh, List.map_cons, List.map_nil, Nat.zero_add, Nat.add_zero, setAll]) | omega | ((apply w_lss); iterate 3 exact rfl))
    refine AWp.loop (ι := List (List Int) × Nat) (fun x => ⟨113, [(0, .intss xss), (3, .ints (gets xss (x.2 : Nat))), (5, .own 1)]⟩) (fun x => [.dead, .sls 38 2 (x.1 ++ [gets xss (x.2 : Nat)])]) (fun x => x.2 < xss.length ∧ Hl.Pre gX gY (· ∈ xss) x.1 (gets xss (x.2 : Nat)) ∧ x.1.length + gY (gets xss (x.2 : Nat)) ≤ 100001) (fun x => (gY (gets xss (x.2 : Nat))).toNat) ([], m) ⟨i1, Hl.Pre.start (gets_mem (by omega) (by omega)) i3, by simp only [List.length_nil, gY]; omega⟩ ⟨lee rfl (by (repeat (first | exact le_nil | refine le_eq rfl rfl ?_))), by (repeat (first | exact lo_nil | refine lo_dead ?_ | refine lo_eq rfl ?_)), rfl, rfl⟩ ?_
    clear hown i3 m1 m2 m3 i0 i1 i2 hi m
    rintro ⟨V, m⟩ ⟨i1, i2, i3⟩
    simp only at i1 i2 i3
    obtain ⟨m1, m2, m3⟩ := hpi m i1
    obtain ⟨a, ea⟩ : ∃ a, a = gets xss (m : Nat) := ⟨_, rfl⟩
    rw [← ea] at i2 i3 m1 m2 m3
    simp only [← ea]
    repeat' (first | (apply AOps.nil; try simp only [List.nil_append, List.cons_append, List.set_cons_zero, List.set_cons_succ, List.length_cons, List.length_nil, Nat.reduceAdd, AV.sh, AV.sh1, AV.sh0, AO.sh, List.map_cons, List.map_nil, Nat.zero_add, Nat.add_zero, setAll]) | (apply w_assign; exact rfl; exact rfl) | apply AWp.seq | apply AWp.region | apply AWp.block | (apply w_bs0; iterate 1 exact rfl))
    refine AWp.loop (ι := Nat × Option Nat) (fun x => ⟨113, [(0, .intss xss), (3, .ints a), (5, .own 1), (6, bestA xss x.2), (7, .i x.1)]⟩) (fun _ => [.dead, .sls 38 2 (V ++ [a]), .sli 2 []]) (fun x => x.1 ≤ xss.length ∧ BestOk xss a x.1 x.2) (fun x => xss.length - x.1) (0, none) ⟨Nat.zero_le _, fun q hq => by obtain ⟨j, hj, _⟩ := hq; omega⟩ ⟨lee rfl (by (repeat (first | exact le_nil | refine le_eq rfl rfl ?_))), by (repeat (first | exact lo_nil | refine lo_dead ?_ | refine lo_eq rfl ?_)), rfl, rfl⟩ ?_
    rintro ⟨i, o⟩ ⟨j0, j1⟩
    simp only at j0 j1
    by_cases hi : i < xss.length
    · obtain ⟨p1, p2, p3⟩ := hpi i hi
      have esp := sp_succ xss i
      cases o with
      | none =>
        simp only [bestA]
        by_cases hy : geti a 1 ≤ geti (gets xss (i : Nat)) 1
        · repeat' (first | (apply AOps.nil; try simp only [List.nil_append, List.cons_append, List.set_cons_zero, List.set_cons_succ, List.length_cons, List.length_nil, Nat.reduceAdd, AV.sh, AV.sh1, AV.sh0, AO.sh, List.map_cons, List.map_nil, Nat.zero_add, Nat.add_zero, setAll]) | (apply w_move; exact rfl; exact rfl) | (apply w_assign; exact rfl; exact rfl) | apply AWp.seq | apply AWp.region | ((apply AWp.condP; exact rfl) <;> intro h) | apply AWp.block | apply AWp.exit | apply AWp.skip | (apply AWp.regionQ; kernel_rfl; kernel_rfl) | (apply w_len; exact rfl; exact rfl; first | exact .ints _ | exact .intss _ | exact .sli rfl | exact .sls rfl | exact .slr rfl | exact .orow rfl | exact .nil) | omega | ((first | apply w_lss | apply w_geq | apply w_add | apply w_idx | apply w_ld); iterate 3 exact rfl) | ((first | apply w_idxs | apply w_lds); iterate 3 exact rfl) | (apply inI_of <;> omega))
          all_goals first
            | (exfalso; omega)
            | (refine ⟨(i + 1, none), ⟨by simp only; omega, ?_⟩, by simp only; omega, ⟨lee rfl (by (repeat (first | exact le_nil | refine le_eq rfl rfl ?_))), by (repeat (first | exact lo_nil | refine lo_dead ?_ | refine lo_eq rfl ?_)), rfl, rfl⟩⟩
               simp only [BestOk, ← esp]
               rintro q (hq | rfl)
               · exact j1 q hq
               · exact hy)
        · repeat' (first | (apply AOps.nil; try simp only [List.nil_append, List.cons_append, List.set_cons_zero, List.set_cons_succ, List.length_cons, List.length_nil, Nat.reduceAdd, AV.sh, AV.sh1, AV.sh0, AO.sh, List.map_cons, List.map_nil, Nat.zero_add, Nat.add_zero, setAll]) | (apply w_move; exact rfl; exact rfl) | (apply w_assign; exact rfl; exact rfl) | apply AWp.seq | apply AWp.region | ((apply AWp.condP; exact rfl) <;> intro h) | apply AWp.block | apply AWp.exit | apply AWp.skip | (apply AWp.regionQ; kernel_rfl; kernel_rfl) | (apply w_len; exact rfl; exact rfl; first | exact .ints _ | exact .intss _ | exact .sli rfl | exact .sls rfl | exact .slr rfl | exact .orow rfl | exact .nil) | omega | ((first | apply w_lss | apply w_geq | apply w_eql | apply w_add | apply w_idx | apply w_ld); iterate 3 exact rfl) | ((first | apply w_idxs | apply w_lds); iterate 3 exact rfl) | (apply inI_of <;> omega))
          all_goals first
            | (exfalso; omega)
            | (refine ⟨(i + 1, some i), ⟨by simp only; omega, ?_⟩, by simp only; omega, ⟨lee rfl (by (repeat (first | exact le_nil | refine le_eq rfl rfl ?_))), by (repeat (first | exact lo_nil | refine lo_dead ?_ | refine lo_eq rfl ?_)), rfl, rfl⟩⟩
               simp only [BestOk, ← esp]
               exact ⟨hi, Hl.next_first j1 (by simp only [gY]; omega)⟩)
      | some k =>
        obtain ⟨j1, j2⟩ := j1
        obtain ⟨b1, b2, b3⟩ := hpi k j1
        obtain ⟨b, eb⟩ : ∃ b, b = gets xss (k : Nat) := ⟨_, rfl⟩
        simp only [bestA]
        rw [← eb] at j2 b1 b2 b3
        simp only [← eb]
        have q1 := mulPB (x := geti a 1 - geti (gets xss (i : Nat)) 1) (y := geti b 0 - geti a 0) (by omega) (by omega)
        have q2 := mulPB (x := geti a 1 - geti b 1) (y := geti (gets xss (i : Nat)) 0 - geti a 0) (by omega) (by omega)
        have ecr : Hl.cr gX gY a b (gets xss (i : Nat)) = (geti a 1 - geti b 1) * (geti (gets xss (i : Nat)) 0 - geti a 0) - (geti a 1 - geti (gets xss (i : Nat)) 1) * (geti b 0 - geti a 0) := by unfold Hl.cr; simp only [gX, gY]; grind
        by_cases hy : geti a 1 ≤ geti (gets xss (i : Nat)) 1
        · repeat' (first | (apply AOps.nil; try simp only [List.nil_append, List.cons_append, List.set_cons_zero, List.set_cons_succ, List.length_cons, List.length_nil, Nat.reduceAdd, AV.sh, AV.sh1, AV.sh0, AO.sh, List.map_cons, List.map_nil, Nat.zero_add, Nat.add_zero, setAll]) | (apply w_move; exact rfl; exact rfl) | (apply w_assign; exact rfl; exact rfl) | apply AWp.seq | apply AWp.region | ((apply AWp.condP; exact rfl) <;> intro h) | apply AWp.block | apply AWp.exit | apply AWp.skip | (apply AWp.regionQ; kernel_rfl; kernel_rfl) | (apply w_len; exact rfl; exact rfl; first | exact .ints _ | exact .intss _ | exact .sli rfl | exact .sls rfl | exact .slr rfl | exact .orow rfl | exact .nil) | omega | ((first | apply w_lss | apply w_geq | apply w_add | apply w_idx | apply w_ld); iterate 3 exact rfl) | ((first | apply w_idxs | apply w_lds); iterate 3 exact rfl) | (apply inI_of <;> omega))
          all_goals first
            | (exfalso; omega)
            | (refine ⟨(i + 1, some k), ⟨by simp only; omega, ?_⟩, by simp only; omega, by simp only [bestA, ← eb]; exact ⟨lee rfl (by (repeat (first | exact le_nil | refine le_eq rfl rfl ?_))), by (repeat (first | exact lo_nil | refine lo_dead ?_ | refine lo_eq rfl ?_)), rfl, rfl⟩⟩
               simp only [BestOk, ← esp, ← eb]
               exact ⟨j1, Hl.next_keep j2 fun hz => by simp only [gY] at hz; omega⟩)
        · by_cases hbt : (geti a 1 - geti b 1) * (geti (gets xss (i : Nat)) 0 - geti a 0) < (geti a 1 - geti (gets xss (i : Nat)) 1) * (geti b 0 - geti a 0) ∨ ((geti a 1 - geti (gets xss (i : Nat)) 1) * (geti b 0 - geti a 0) = (geti a 1 - geti b 1) * (geti (gets xss (i : Nat)) 0 - geti a 0) ∧ geti (gets xss (i : Nat)) 1 < geti b 1)
          · repeat' (first | (apply AOps.nil; try simp only [List.nil_append, List.cons_append, List.set_cons_zero, List.set_cons_succ, List.length_cons, List.length_nil, Nat.reduceAdd, AV.sh, AV.sh1, AV.sh0, AO.sh, List.map_cons, List.map_nil, Nat.zero_add, Nat.add_zero, setAll]) | ((apply AOps.splitP; exact rfl; exact rfl) <;> intro h) | (apply w_move; exact rfl; exact rfl) | (apply w_assign; exact rfl; exact rfl) | apply AWp.seq | apply AWp.region | ((apply AWp.condP; exact rfl) <;> intro h) | (apply AWp.condT; exact rfl) | (apply AWp.condF; exact rfl) | apply AWp.block | apply AWp.exit | apply AWp.skip | (apply AWp.regionQ; kernel_rfl; kernel_rfl) | (apply w_skip; exact rfl) | (apply w_pickT; exact rfl; exact rfl; exact rfl) | (apply w_pickF; exact rfl; exact rfl; exact rfl) | (apply w_len; exact rfl; exact rfl; first | exact .ints _ | exact .intss _ | exact .sli rfl | exact .sls rfl | exact .slr rfl | exact .orow rfl | exact .nil) | omega | ((first | apply w_lss | apply w_gtr | apply w_geq | apply w_eql | apply w_add | apply w_sub | apply w_mul | apply w_idx | apply w_ld); iterate 3 exact rfl) | ((first | apply w_idxs | apply w_lds); iterate 3 exact rfl) | (apply inI_of <;> omega))
            all_goals first
              | (exfalso; omega)
              | (refine ⟨(i + 1, some i), ⟨by simp only; omega, ?_⟩, by simp only; omega, by simp only [bestA]; exact ⟨lee rfl (by (repeat (first | exact le_nil | refine le_eq rfl rfl ?_))), by (repeat (first | exact lo_nil | refine lo_dead ?_ | refine lo_eq rfl ?_)), rfl, rfl⟩⟩
                 simp only [BestOk, ← esp]
                 exact ⟨hi, Hl.next_new j2 (by simp only [gY]; omega) (by rw [ecr]; simp only [gY]; omega)⟩)
          · repeat' (first | (apply AOps.nil; try simp only [List.nil_append, List.cons_append, List.set_cons_zero, List.set_cons_succ, List.length_cons, List.length_nil, Nat.reduceAdd, AV.sh, AV.sh1, AV.sh0, AO.sh, List.map_cons, List.map_nil, Nat.zero_add, Nat.add_zero, setAll]) | ((apply AOps.splitP; exact rfl; exact rfl) <;> intro h) | (apply w_move; exact rfl; exact rfl) | (apply w_assign; exact rfl; exact rfl) | apply AWp.seq | apply AWp.region | ((apply AWp.condP; exact rfl) <;> intro h) | (apply AWp.condT; exact rfl) | (apply AWp.condF; exact rfl) | apply AWp.block | apply AWp.exit | apply AWp.skip | (apply AWp.regionQ; kernel_rfl; kernel_rfl) | (apply w_skip; exact rfl) | (apply w_pickT; exact rfl; exact rfl; exact rfl) | (apply w_pickF; exact rfl; exact rfl; exact rfl) | (apply w_len; exact rfl; exact rfl; first | exact .ints _ | exact .intss _ | exact .sli rfl | exact .sls rfl | exact .slr rfl | exact .orow rfl | exact .nil) | omega | ((first | apply w_lss | apply w_gtr | apply w_geq | apply w_eql | apply w_add | apply w_sub | apply w_mul | apply w_idx | apply w_ld); iterate 3 exact rfl) | ((first | apply w_idxs | apply w_lds); iterate 3 exact rfl) | (apply inI_of <;> omega))
            all_goals first
              | (exfalso; omega)
              | (refine ⟨(i + 1, some k), ⟨by simp only; omega, ?_⟩, by simp only; omega, by simp only [bestA, ← eb]; exact ⟨lee rfl (by (repeat (first | exact le_nil | refine le_eq rfl rfl ?_))), by (repeat (first | exact lo_nil | refine lo_dead ?_ | refine lo_eq rfl ?_)), rfl, rfl⟩⟩
                 simp only [BestOk, ← esp, ← eb]
                 exact ⟨j1, Hl.next_keep j2 fun hz => by rw [ecr]; simp only [gY]; omega⟩)
    · have e : i = xss.length := by omega
      subst e
      cases o with
      | none =>
        simp only [bestA]
        repeat' (first | (apply AOps.nil; try simp only [List.nil_append, List.cons_append, List.set_cons_zero, List.set_cons_succ, List.length_cons, List.length_nil, Nat.reduceAdd, AV.sh, AV.sh1, AV.sh0, AO.sh, List.map_cons, List.map_nil, Nat.zero_add, Nat.add_zero, setAll]) | (apply w_move; exact rfl; exact rfl) | (apply w_assign; exact rfl; exact rfl) | apply AWp.seq | apply AWp.region | ((apply AWp.condP; exact rfl) <;> intro h) | apply AWp.block | apply AWp.ret | apply AWp.exit | apply AWp.skip | (apply w_len; exact rfl; exact rfl; first | exact .ints _ | exact .intss _ | exact .sli rfl | exact .sls rfl | exact .slr rfl | exact .orow rfl | exact .nil) | omega | ((first | apply w_lss | apply w_eql); iterate 3 exact rfl))
        exact ⟨_, _, _, .v1 Try.results39 rfl, .sls rfl, rfl, by rw [verts_eq (fun r hr => (hp r hr).1) (i2.done fun q hq => j1 q ((sp_all xss q).2 hq))]⟩
      | some k =>
        obtain ⟨j1, j2⟩ := j1
        obtain ⟨b1, b2, b3⟩ := hpi k j1
        have hn : Hl.isNext gX gY (· ∈ xss) a (gets xss (k : Nat)) := by
          have : Sp xss xss.length = (· ∈ xss) := funext fun q => propext (sp_all xss q)
          rw [← this]; exact j2
        have hlt := hn.2.1
        simp only [gY] at hlt i3
        simp only [bestA]
        have hown := l01Own_c (gets xss (k : Nat)) (by omega)
        have el : (V ++ [a]).length = V.length + 1 := by simp
        repeat' (first | (apply AOps.nil; try simp only [List.nil_append, List.cons_append, List.set_cons_zero, List.set_cons_succ, List.length_cons, List.length_nil, Nat.reduceAdd, AV.sh, AV.sh1, AV.sh0, AO.sh, List.map_cons, List.map_nil, Nat.zero_add, Nat.add_zero, setAll]) | (apply w_move; exact rfl; exact rfl) | (apply w_assign; exact rfl; exact rfl) | apply AWp.seq | apply AWp.region | ((apply AWp.condP; exact rfl) <;> intro h) | apply AWp.block | apply AWp.ret | apply AWp.exit | apply AWp.skip | (apply w_len; exact rfl; exact rfl; first | exact .ints _ | exact .intss _ | exact .sli rfl | exact .sls rfl | exact .slr rfl | exact .orow rfl | exact .nil) | ((first | apply w_bsr1 | apply w_lss | apply w_eql | apply w_idx); iterate 3 exact rfl) | (apply w_appr; exact rfl; exact rfl; exact rfl; exact rfl; exact rfl; exact rfl; exact rfl; rotate_left 1; simp only [Env.mp, List.map_cons, List.map_nil, List.set_cons_zero, List.set_cons_succ, AV.kill, AV.kill1, AO.kill, AV.rin, AV.rin1, AV.noRow, AV.noRow1, AO.via, reduceIte, Nat.reduceEqDiff, Nat.reduceLT, Env.up, Nat.zero_ne_one, Nat.one_ne_zero, Nat.reduceAdd, List.cons_append, List.nil_append]; rotate_left 1) | (apply w_callm (hown); (focus ((repeat (first | exact im_nil | refine im_cons rfl (.ints _) ?_)); done)); rintro r os0 ⟨rfl, rfl⟩; try simp only [List.nil_append, List.cons_append, List.set_cons_zero, List.set_cons_succ, List.length_cons, List.length_nil, Nat.reduceAdd, AV.sh, AV.sh1, AV.sh0, AO.sh, List.map_cons, List.map_nil, Nat.zero_add, Nat.add_zero, setAll]) | omega)
        exact ⟨(V ++ [a], k), ⟨j1, i2.step hn, by simp only [gY, el]; omega⟩, by simp only [gY, ← ea]; omega, ⟨lee rfl (by (repeat (first | exact le_nil | refine le_eq rfl rfl ?_))), by (repeat (first | exact lo_nil | refine lo_dead ?_ | refine lo_eq rfl ?_)), rfl, rfl⟩⟩
end Go.Proofs.Ythlfdhooiekgjaa
/-
  Edges put together by their ratios: the chain of the vertices is the hull of all sums of some edges. No condition.
-/
namespace Go.Proofs.Ythlfdhooiekgjaa
open Go Go.RowKit
open Hl (cr lexle GW GWf isNext)

/-- The sum of a number over a list of rows. -/
def sS (F : List Int → Int) : List (List Int) → Int
  | [] => 0
  | e :: L => F e + sS F L
theorem sS_append (F : List Int → Int) : ∀ A B, sS F (A ++ B) = sS F A + sS F B
  | [], B => by simp [sS]
  | a :: A, B => by rw [List.cons_append, sS, sS, sS_append F A B]; omega
theorem sS_perm (F : List Int → Int) {A B : List (List Int)} (h : A.Perm B) : sS F A = sS F B := by
  induction h with
  | nil => rfl
  | cons x _ ih => rw [sS, sS, ih]
  | swap x y l => rw [sS, sS, sS, sS]; omega
  | trans _ _ h1 h2 => rw [h1, h2]
theorem sS_nonneg {F : List Int → Int} : ∀ {A : List (List Int)}, (∀ e ∈ A, 0 ≤ F e) → 0 ≤ sS F A
  | [], _ => Int.le_refl _
  | a :: A, h => by
    have h1 := h a (by simp)
    have h2 := sS_nonneg (A := A) fun e he => h e (by simp [he])
    rw [sS]; omega
theorem sS_le {F G : List Int → Int} : ∀ {A : List (List Int)}, (∀ e ∈ A, F e ≤ G e) → sS F A ≤ sS G A
  | [], _ => Int.le_refl _
  | a :: A, h => by
    have h1 := h a (by simp)
    have h2 := sS_le (A := A) fun e he => h e (by simp [he])
    rw [sS, sS]; omega
theorem sS_zero {F : List Int → Int} : ∀ {A : List (List Int)}, (∀ e ∈ A, 0 ≤ F e) → sS F A = 0 → ∀ e ∈ A, F e = 0
  | [], _, _ => by simp
  | a :: A, h, hz => by
    have h1 := h a (by simp)
    have h2 := sS_nonneg (A := A) fun e he => h e (by simp [he])
    rw [sS] at hz
    intro e he
    rcases List.mem_cons.1 he with rfl | he
    · omega
    · exact sS_zero (fun e he => h e (by simp [he])) (by omega) e he
theorem sS_congr {F G : List Int → Int} {A : List (List Int)} (h : ∀ e ∈ A, F e = G e) : sS F A = sS G A :=
  Int.le_antisymm (sS_le fun e he => by rw [h e he]; exact Int.le_refl _) (sS_le fun e he => by rw [h e he]; exact Int.le_refl _)
theorem sS_add (F G : List Int → Int) : ∀ A, sS (fun e => F e + G e) A = sS F A + sS G A
  | [] => by simp [sS]
  | a :: A => by rw [sS, sS, sS, sS_add F G A]; omega
theorem sS_mul (c : Int) (F : List Int → Int) : ∀ A, sS (fun e => c * F e) A = c * sS F A
  | [] => by simp [sS]
  | a :: A => by rw [sS, sS, sS_mul c F A, Int.mul_add]

/-- How much less steep e is than l: its sign. -/
def wS (l e : List Int) : Int := geti l 1 * geti e 0 - geti l 0 * geti e 1
def EP (e : List Int) : Prop := e.length = 2 ∧ (1 ≤ geti e 0 ∧ geti e 0 ≤ 100000) ∧ (1 ≤ geti e 1 ∧ geti e 1 ≤ 100000)
def E0 (e : List Int) : Int := geti e 0
def E1 (e : List Int) : Int := geti e 1
def cut (p : Int → Bool) (l : List Int) (F : List Int → Int) (e : List Int) : Int := if p (wS l e) then F e else 0
def le0 (x : Int) : Bool := decide (x ≤ 0)
def lt0 (x : Int) : Bool := decide (x < 0)
theorem cut_le (l : List Int) (F : List Int → Int) (e : List Int) : cut le0 l F e = if wS l e ≤ 0 then F e else 0 := by simp [cut, le0]
theorem cut_lt (l : List Int) (F : List Int → Int) (e : List Int) : cut lt0 l F e = if wS l e < 0 then F e else 0 := by simp [cut, lt0]

/-- L: the edges of xss, those of one ratio added up, the steepest first. -/
structure JoinOf (xss L : List (List Int)) : Prop where
  pos : ∀ l ∈ L, l.length = 2 ∧ 1 ≤ geti l 0 ∧ 1 ≤ geti l 1
  tot : sS E0 L = sS E0 xss ∧ sS E1 L = sS E1 xss
  at_ : ∀ A l B, L = A ++ l :: B → sS E0 A = sS (cut lt0 l E0) xss ∧ sS E1 A = sS (cut lt0 l E1) xss ∧ sS E0 A + E0 l = sS (cut le0 l E0) xss ∧ sS E1 A + E1 l = sS (cut le0 l E1) xss

/-- The points of a chain. -/
def vfP (p : List Int) : List (List Int) → List (List Int)
  | [] => [p]
  | l :: L => p :: vfP [geti p 0 + geti l 0, geti p 1 - geti l 1] L
theorem vfP_ne (p : List Int) (L : List (List Int)) : ∃ r, vfP p L = p :: r := by cases L <;> exact ⟨_, rfl⟩

/-- A point: the first one and some of the edges. -/
def SelP (xss : List (List Int)) (p q : List Int) : Prop := ∃ T U, (T ++ U).Perm xss ∧ geti q 0 = geti p 0 + sS E0 T ∧ geti q 1 = geti p 1 - sS E1 T

theorem sel_cr {xss : List (List Int)} (hx : ∀ e ∈ xss, EP e) {p a b q l : List Int} (hq : SelP xss p q)
    (ha0 : geti a 0 = geti p 0 + sS (cut lt0 l E0) xss) (ha1 : geti a 1 = geti p 1 - sS (cut lt0 l E1) xss) (hb0 : geti b 0 = geti a 0 + geti l 0) (hb1 : geti b 1 = geti a 1 - geti l 1) (hbl : geti b 1 = geti p 1 - sS (cut le0 l E1) xss) :
    0 ≤ cr gX gY a b q ∧ (cr gX gY a b q = 0 → gY b ≤ gY q) := by
  obtain ⟨T, U, hp, q0, q1⟩ := hq
  have hT : ∀ e ∈ T, EP e := fun e he => hx e (hp.mem_iff.1 (List.mem_append.2 (.inl he)))
  have hU : ∀ e ∈ U, EP e := fun e he => hx e (hp.mem_iff.1 (List.mem_append.2 (.inr he)))
  have s0 : sS (cut lt0 l E0) xss = sS (cut lt0 l E0) T + sS (cut lt0 l E0) U := by rw [← sS_perm _ hp, sS_append]
  have s1 : sS (cut lt0 l E1) xss = sS (cut lt0 l E1) T + sS (cut lt0 l E1) U := by rw [← sS_perm _ hp, sS_append]
  have s2 : sS (cut le0 l E1) xss = sS (cut le0 l E1) T + sS (cut le0 l E1) U := by rw [← sS_perm _ hp, sS_append]
  have hw : ∀ A, sS (wS l) A = geti l 1 * sS E0 A - geti l 0 * sS E1 A := fun A => by
    rw [← sS_mul, ← sS_mul]
    have := sS_add (fun e => wS l e) (fun e => geti l 0 * E1 e) A
    have h2 : sS (fun e => wS l e + geti l 0 * E1 e) A = sS (fun e => geti l 1 * E0 e) A := sS_congr fun e _ => by simp only [wS, E0, E1]; omega
    rw [h2] at this
    have h3 : sS (wS l) A = sS (fun e => wS l e) A := rfl
    omega
  have hc : ∀ A, sS (cut lt0 l (wS l)) A = geti l 1 * sS (cut lt0 l E0) A - geti l 0 * sS (cut lt0 l E1) A := fun A => by
    rw [← sS_mul, ← sS_mul]
    have := sS_add (fun e => cut lt0 l (wS l) e) (fun e => geti l 0 * cut lt0 l E1 e) A
    have h2 : sS (fun e => cut lt0 l (wS l) e + geti l 0 * cut lt0 l E1 e) A = sS (fun e => geti l 1 * cut lt0 l E0 e) A := sS_congr fun e _ => by
      simp only [cut_lt]; split
      · simp only [wS, E0, E1]; omega
      · simp
    rw [h2] at this
    have h3 : sS (cut lt0 l (wS l)) A = sS (fun e => cut lt0 l (wS l) e) A := rfl
    omega
  have key : cr gX gY a b q = sS (wS l) T - sS (cut lt0 l (wS l)) T - sS (cut lt0 l (wS l)) U := by
    rw [hw T, hc T, hc U]
    unfold cr
    simp only [gX, gY]
    rw [hb0, hb1, q0, q1, ha0, ha1, s0, s1]
    grind
  have k1 : sS (cut lt0 l (wS l)) T ≤ sS (wS l) T := sS_le fun e _ => by rw [cut_lt]; split <;> omega
  have k2 : 0 ≤ sS (fun e => -1 * cut lt0 l (wS l) e) U := sS_nonneg fun e _ => by rw [cut_lt]; split <;> omega
  have k3 := sS_mul (-1) (cut lt0 l (wS l)) U
  refine ⟨by omega, fun hz => ?_⟩
  have d1 : sS (fun e => wS l e + -1 * cut lt0 l (wS l) e) T = 0 := by
    rw [sS_add, sS_mul]
    have h3 : sS (wS l) T = sS (fun e => wS l e) T := rfl
    omega
  have d2 := sS_zero (fun e _ => by rw [cut_lt]; split <;> omega) d1
  have m1 : sS E1 T ≤ sS (cut le0 l E1) T := sS_le fun e he => by
    have := d2 e he
    rw [cut_lt] at this
    rw [cut_le]
    split at this
    · rw [if_pos (by omega)]; exact Int.le_refl _
    · rw [if_pos (by omega)]; exact Int.le_refl _
  have m2 : 0 ≤ sS (cut le0 l E1) U := sS_nonneg fun e he => by
    rw [cut_le]; split
    · have := (hU e he).2.2; simp only [E1]; omega
    · omega
  show geti b 1 ≤ geti q 1
  omega
theorem sel_le {xss : List (List Int)} (hx : ∀ e ∈ xss, EP e) {p q : List Int} (hq : SelP xss p q) : geti p 0 ≤ geti q 0 ∧ geti q 1 ≤ geti p 1 ∧ geti p 1 - sS E1 xss ≤ geti q 1 ∧ (geti p 0 = geti q 0 → geti q 1 = geti p 1) := by
  obtain ⟨T, U, hp, q0, q1⟩ := hq
  have hT : ∀ e ∈ T, EP e := fun e he => hx e (hp.mem_iff.1 (List.mem_append.2 (.inl he)))
  have hU : ∀ e ∈ U, EP e := fun e he => hx e (hp.mem_iff.1 (List.mem_append.2 (.inr he)))
  have n0 : 0 ≤ sS E0 T := sS_nonneg fun e he => by have := (hT e he).2.1; simp only [E0]; omega
  have n1 : 0 ≤ sS E1 T := sS_nonneg fun e he => by have := (hT e he).2.2; simp only [E1]; omega
  have n2 : 0 ≤ sS E1 U := sS_nonneg fun e he => by have := (hU e he).2.2; simp only [E1]; omega
  have s1 : sS E1 xss = sS E1 T + sS E1 U := by rw [← sS_perm _ hp, sS_append]
  refine ⟨by omega, by omega, by omega, fun h => ?_⟩
  have z : sS E0 T = 0 := by omega
  have hz := sS_zero (fun e he => by have := (hT e he).2.1; simp only [E0]; omega) z
  have : sS E1 T = 0 := by
    cases T with
    | nil => rfl
    | cons e T => have a := hz e (by simp); have b := (hT e (by simp)).2.1; simp only [E0] at a; omega
  omega

theorem vf_gwf {xss : List (List Int)} (hx : ∀ e ∈ xss, EP e) {S : List Int → Prop} {p : List Int} (hS : ∀ q, S q → SelP xss p q) :
    ∀ (B A : List (List Int)) (a : List Int), JoinOf xss (A ++ B) → geti a 0 = geti p 0 + sS E0 A → geti a 1 = geti p 1 - sS E1 A →
      (∀ b ∈ vfP a B, S b) → GWf gX gY S (vfP a B)
  | [], A, a, hJ, a0, a1, hm => by
    rw [List.append_nil] at hJ
    intro q hq
    have := (sel_le hx (hS q hq)).2.2.1
    show geti a 1 ≤ geti q 1
    have := hJ.tot.2
    omega
  | l :: B, A, a, hJ, a0, a1, hm => by
    have hl := hJ.pos l (by simp)
    obtain ⟨j0, j1, j2, j3⟩ := hJ.at_ A l B rfl
    obtain ⟨r, hr⟩ := vfP_ne [geti a 0 + geti l 0, geti a 1 - geti l 1] B
    have hb : S [geti a 0 + geti l 0, geti a 1 - geti l 1] := hm _ (by rw [vfP, hr]; simp)
    have rec_ := vf_gwf hx hS B (A ++ [l]) [geti a 0 + geti l 0, geti a 1 - geti l 1] (by rw [List.append_assoc]; exact hJ)
      (by rw [sS_append]; simp only [sS, E0, geti]; simp [geti] at *; omega) (by rw [sS_append]; simp only [sS, E1, geti]; simp [geti] at *; omega) (fun b hb' => hm b (by rw [vfP]; simp [hb']))
    rw [vfP, hr]
    rw [hr] at rec_
    refine ⟨⟨hb, ?_, fun q hq hy => ?_⟩, rec_⟩
    · show geti [geti a 0 + geti l 0, geti a 1 - geti l 1] 1 < geti a 1
      simp [geti] at *; omega
    · refine sel_cr (l := l) hx (hS q hq) (by omega) (by omega) (by simp [geti]) (by simp [geti]) ?_
      simp only [E1] at j3
      have : geti [geti a 0 + geti l 0, geti a 1 - geti l 1] 1 = geti a 1 - geti l 1 := by simp [geti]
      rw [this]; omega
/-- The chain is the hull. -/
theorem vf_has {xss zss L : List (List Int)} (hx : ∀ e ∈ xss, EP e) {p : List Int} (hJ : JoinOf xss L) (hS : ∀ q ∈ zss, SelP xss p q) (hm : ∀ b ∈ vfP p L, b ∈ zss) : HasV zss (vfP p L) := by
  obtain ⟨r, hr⟩ := vfP_ne p L
  have hg := vf_gwf hx (S := (· ∈ zss)) hS L [] p hJ (by simp [sS]) (by simp [sS]) hm
  rw [hr] at hg ⊢
  refine ⟨p, r, rfl, hm p (by rw [hr]; simp), fun q hq => ?_, hg⟩
  have := sel_le hx (hS q hq)
  unfold lexle
  simp only [gX, gY]
  omega
end Go.Proofs.Ythlfdhooiekgjaa
/-
  Edges put together one after the other, in the order of their ratios. No condition.
-/
namespace Go.Proofs.Ythlfdhooiekgjaa
open Go Go.RowKit

theorem wS_tr (a b c : List Int) : geti b 1 * wS a c = geti c 1 * wS a b + geti a 1 * wS b c := by unfold wS; grind
theorem wS_self (a : List Int) : wS a a = 0 := by unfold wS; grind
theorem wS_neg (a b : List Int) : wS b a = -wS a b := by unfold wS; grind
theorem wS_le {a b c : List Int} (ha : 1 ≤ geti a 1) (hb : 1 ≤ geti b 1) (hc : 1 ≤ geti c 1) (h1 : 0 ≤ wS a b) (h2 : 0 ≤ wS b c) : 0 ≤ wS a c := by
  have e := wS_tr a b c
  have p := Int.mul_nonneg (show 0 ≤ geti c 1 by omega) h1
  have q := Int.mul_nonneg (show 0 ≤ geti a 1 by omega) h2
  apply Classical.byContradiction
  intro hn
  have := Int.mul_pos (show 0 < geti b 1 by omega) (show 0 < -wS a c by omega)
  grind
theorem wS_lt1 {a b c : List Int} (ha : 1 ≤ geti a 1) (hb : 1 ≤ geti b 1) (hc : 1 ≤ geti c 1) (h1 : 0 < wS a b) (h2 : 0 ≤ wS b c) : 0 < wS a c := by
  have e := wS_tr a b c
  have p := Int.mul_pos (show 0 < geti c 1 by omega) h1
  have q := Int.mul_nonneg (show 0 ≤ geti a 1 by omega) h2
  apply Classical.byContradiction
  intro hn
  have := Int.mul_nonneg (show 0 ≤ geti b 1 by omega) (show 0 ≤ -wS a c by omega)
  grind
theorem wS_lt2 {a b c : List Int} (ha : 1 ≤ geti a 1) (hb : 1 ≤ geti b 1) (hc : 1 ≤ geti c 1) (h1 : 0 ≤ wS a b) (h2 : 0 < wS b c) : 0 < wS a c := by
  have e := wS_tr a b c
  have p := Int.mul_nonneg (show 0 ≤ geti c 1 by omega) h1
  have q := Int.mul_pos (show 0 < geti a 1 by omega) h2
  apply Classical.byContradiction
  intro hn
  have := Int.mul_nonneg (show 0 ≤ geti b 1 by omega) (show 0 ≤ -wS a c by omega)
  grind
/-- Two of one ratio, added. -/
def plE (l e : List Int) : List Int := [geti l 0 + geti e 0, geti l 1 + geti e 1]
theorem plE_0 (l e : List Int) : geti (plE l e) 0 = geti l 0 + geti e 0 := rfl
theorem plE_1 (l e : List Int) : geti (plE l e) 1 = geti l 1 + geti e 1 := rfl
theorem wS_pl (a l e : List Int) : wS a (plE l e) = wS a l + wS a e := by unfold wS; rw [plE_0, plE_1]; grind
theorem wS_pl' {l e : List Int} (hl : 1 ≤ geti l 1) (he : 1 ≤ geti e 1) (h : wS l e = 0) (x : List Int) : (wS (plE l e) x < 0 ↔ wS l x < 0) ∧ (wS (plE l e) x ≤ 0 ↔ wS l x ≤ 0) := by
  have e1 : geti l 1 * wS (plE l e) x = (geti l 1 + geti e 1) * wS l x := by
    have h' := h
    unfold wS at h' ⊢
    rw [plE_0, plE_1]
    grind
  have key : ∀ (u v p q : Int), 0 < p → 0 < q → p * u = q * v → ((u < 0 ↔ v < 0) ∧ (u ≤ 0 ↔ v ≤ 0)) := by
    intro u v p q hp hq he
    rcases Int.lt_trichotomy v 0 with h | h | h
    · have : u < 0 := by
        apply Classical.byContradiction; intro hn
        have a := Int.mul_nonneg (show 0 ≤ p by omega) (show 0 ≤ u by omega)
        have b := Int.mul_pos hq (show 0 < -v by omega)
        grind
      omega
    · subst h
      have : u = 0 := by
        rw [Int.mul_zero] at he
        rcases Int.mul_eq_zero.1 he with h | h <;> omega
      omega
    · have : 0 < u := by
        apply Classical.byContradiction; intro hn
        have a := Int.mul_nonneg (show 0 ≤ p by omega) (show 0 ≤ -u by omega)
        have b := Int.mul_pos hq h
        grind
      omega
  exact key _ _ _ _ (by omega) (by omega) e1

/-- What is known while the edges are put together. -/
structure JI (Y L : List (List Int)) : Prop where
  join : JoinOf Y L
  none : Y = [] → L = []
  asc : ∀ A l B, L = A ++ l :: B → ∀ a ∈ A, 0 < wS a l
  last : Y ≠ [] → ∃ A l, L = A ++ [l] ∧ (∀ y ∈ Y, 0 ≤ wS y l) ∧ ∃ y ∈ Y, wS l y = 0
theorem JI.nil : JI [] [] := ⟨⟨by simp, ⟨rfl, rfl⟩, fun A l B h => by simp at h⟩, fun _ => rfl, fun A l B h => by simp at h, fun h => absurd rfl h⟩
theorem app_cases {A B C : List (List Int)} {x y : List Int} (h : A ++ [x] = B ++ y :: C) : (C = [] ∧ B = A ∧ y = x) ∨ ∃ D, A = B ++ y :: D ∧ C = D ++ [x] := by
  rcases List.eq_nil_or_concat C with rfl | ⟨D, z, rfl⟩
  · left
    have := List.append_inj' h rfl
    exact ⟨rfl, this.1.symm, by simpa using this.2.symm⟩
  · right
    rw [List.concat_eq_append] at h ⊢
    rw [show B ++ y :: (D ++ [z]) = (B ++ y :: D) ++ [z] by simp] at h
    have := List.append_inj' h rfl
    exact ⟨D, this.1, by simpa using this.2.symm⟩
theorem sS_snoc (F : List Int → Int) (Y : List (List Int)) (e : List Int) : sS F (Y ++ [e]) = sS F Y + F e := by rw [sS_append]; simp [sS]
/-- One more of the last ratio. -/
theorem JI.same {Y A : List (List Int)} {l e : List Int} (h : JI Y (A ++ [l])) (hne : Y ≠ []) (he : EP e) (hs : ∀ y ∈ Y, 0 ≤ wS y e) (hz : wS l e = 0) : JI (Y ++ [e]) (A ++ [plE l e]) := by
  have hl := h.join.pos l (by simp)
  have asc : ∀ a ∈ A, 0 < wS a l := h.asc A l [] rfl
  have hA : ∀ a ∈ A, 1 ≤ geti a 1 := fun a ha => (h.join.pos a (by simp [ha])).2.2
  have aE : ∀ a ∈ A, 0 < wS a e := fun a ha => wS_lt1 (hA a ha) hl.2.2 (by have := he.2.2; omega) (asc a ha) (by omega)
  have cl : ∀ F x, cut lt0 (plE l e) F x = cut lt0 l F x := fun F x => by
    rw [cut_lt, cut_lt]
    have := (wS_pl' hl.2.2 he.2.2.1 hz x).1
    simp only [this]
  have cl2 : ∀ F x, cut le0 (plE l e) F x = cut le0 l F x := fun F x => by
    rw [cut_le, cut_le]
    have := (wS_pl' hl.2.2 he.2.2.1 hz x).2
    simp only [this]
  refine ⟨⟨?_, ?_, ?_⟩, by simp, ?_, fun _ => ⟨A, plE l e, rfl, ?_, e, by simp, ?_⟩⟩
  · intro x hx
    rcases List.mem_append.1 hx with hx | hx
    · exact h.join.pos x (by simp [hx])
    · simp only [List.mem_singleton] at hx
      subst hx
      have := he.2.1; have := he.2.2
      exact ⟨rfl, by rw [plE_0]; omega, by rw [plE_1]; omega⟩
  · have := h.join.tot
    rw [sS_snoc, sS_snoc] at this ⊢
    rw [sS_snoc, sS_snoc]
    simp only [E0, E1] at *
    rw [plE_0, plE_1]; omega
  · intro B x C hB
    rcases app_cases hB with ⟨rfl, rfl, rfl⟩ | ⟨D, rfl, rfl⟩
    · obtain ⟨j0, j1, j2, j3⟩ := h.join.at_ B l [] rfl
      simp only [sS_snoc]
      have z1 : ∀ F, cut lt0 l F e = 0 := fun F => by rw [cut_lt, if_neg (by omega)]
      have z2 : ∀ F, cut le0 l F e = F e := fun F => by rw [cut_le, if_pos (by omega)]
      have f1 : ∀ F, sS (cut lt0 (plE l e) F) Y = sS (cut lt0 l F) Y := fun F => sS_congr fun x _ => cl F x
      have f2 : ∀ F, sS (cut le0 (plE l e) F) Y = sS (cut le0 l F) Y := fun F => sS_congr fun x _ => cl2 F x
      rw [f1, f1, f2, f2, cl, cl, cl2, cl2, z1, z1, z2, z2]
      simp only [E0, E1] at *
      rw [plE_0, plE_1]; omega
    · obtain ⟨j0, j1, j2, j3⟩ := h.join.at_ B x (D ++ [l]) (by simp)
      have hx := aE x (by simp)
      simp only [sS_snoc]
      have z1 : ∀ F, cut lt0 x F e = 0 := fun F => by rw [cut_lt, if_neg (by omega)]
      have z2 : ∀ F, cut le0 x F e = 0 := fun F => by rw [cut_le, if_neg (by omega)]
      rw [z1, z1, z2, z2]; omega
  · intro B x C hB a ha
    rcases app_cases hB with ⟨rfl, rfl, rfl⟩ | ⟨D, rfl, rfl⟩
    · rw [wS_pl]
      have := asc a ha; have := aE a ha; omega
    · exact h.asc B x (D ++ [l]) (by simp) a ha
  · intro y hy
    rw [wS_pl]
    rcases List.mem_append.1 hy with hy | hy
    · obtain ⟨A', l', e1, e2, _⟩ := h.last hne
      have := List.append_inj' e1 rfl
      have : l = l' := by simpa using this.2
      subst this
      have := e2 y hy; have := hs y hy; omega
    · simp only [List.mem_singleton] at hy
      subst hy
      rw [wS_self, wS_neg, hz]; omega
  · have := (wS_pl' hl.2.2 he.2.2.1 hz e)
    omega
/-- One of a ratio that is less steep. -/
theorem JI.push {Y L : List (List Int)} {e : List Int} (h : JI Y L) (hY : ∀ y ∈ Y, EP y) (he : EP e) (hs : ∀ y ∈ Y, 0 ≤ wS y e) (hz : ∀ A l, L = A ++ [l] → wS l e ≠ 0) : JI (Y ++ [e]) (L ++ [e]) := by
  have he1 : 1 ≤ geti e 1 := he.2.2.1
  have hall : (∀ l ∈ L, 0 < wS l e) ∧ ∀ y ∈ Y, 0 < wS y e := by
    by_cases hne : Y = []
    · have := h.none hne
      subst hne; subst this
      simp
    · obtain ⟨A, l, rfl, e2, y0, hy0, e3⟩ := h.last hne
      have hl := h.join.pos l (by simp)
      have hy1 := (hY y0 hy0).2.2.1
      have p1 : 0 ≤ wS l e := wS_le hl.2.2 hy1 he1 (by omega) (hs y0 hy0)
      have p2 : 0 < wS l e := by have := hz A l rfl; omega
      refine ⟨fun x hx => ?_, fun y hy => ?_⟩
      · rcases List.mem_append.1 hx with hx | hx
        · exact wS_lt1 (h.join.pos x (by simp [hx])).2.2 hl.2.2 he1 (h.asc A l [] rfl x hx) (by omega)
        · simp only [List.mem_singleton] at hx; subst hx; exact p2
      · exact wS_lt2 (hY y hy).2.2.1 hl.2.2 he1 (e2 y hy) p2
  refine ⟨⟨?_, ?_, ?_⟩, by simp, ?_, fun _ => ⟨L, e, rfl, ?_, e, by simp, wS_self e⟩⟩
  · intro x hx
    rcases List.mem_append.1 hx with hx | hx
    · exact h.join.pos x hx
    · simp only [List.mem_singleton] at hx
      subst hx
      exact ⟨he.1, he.2.1.1, he.2.2.1⟩
  · have := h.join.tot
    rw [sS_snoc, sS_snoc, sS_snoc, sS_snoc]; omega
  · intro B x C hB
    rcases app_cases hB with ⟨rfl, rfl, rfl⟩ | ⟨D, rfl, rfl⟩
    · have hn : ∀ y ∈ Y, wS x y < 0 := fun y hy => by have := hall.2 y hy; rw [wS_neg] at this; omega
      have f1 : ∀ F, sS (cut lt0 x F) Y = sS F Y := fun F => sS_congr fun y hy => by rw [cut_lt, if_pos (hn y hy)]
      have f2 : ∀ F, sS (cut le0 x F) Y = sS F Y := fun F => sS_congr fun y hy => by rw [cut_le, if_pos (by have := hn y hy; omega)]
      have z1 : ∀ F, cut lt0 x F x = 0 := fun F => by rw [cut_lt, wS_self, if_neg (by omega)]
      have z2 : ∀ F, cut le0 x F x = F x := fun F => by rw [cut_le, wS_self, if_pos (by omega)]
      simp only [sS_snoc]
      rw [f1, f1, f2, f2, z1, z1, z2, z2]
      have := h.join.tot
      omega
    · obtain ⟨j0, j1, j2, j3⟩ := h.join.at_ B x D rfl
      have hx := hall.1 x (by simp)
      simp only [sS_snoc]
      have z1 : ∀ F, cut lt0 x F e = 0 := fun F => by rw [cut_lt, if_neg (by omega)]
      have z2 : ∀ F, cut le0 x F e = 0 := fun F => by rw [cut_le, if_neg (by omega)]
      rw [z1, z1, z2, z2]; omega
  · intro B x C hB a ha
    rcases app_cases hB with ⟨rfl, rfl, rfl⟩ | ⟨D, rfl, rfl⟩
    · exact hall.1 a ha
    · exact h.asc B x D rfl a ha
  · intro y hy
    rcases List.mem_append.1 hy with hy | hy
    · exact hs y hy
    · simp only [List.mem_singleton] at hy; subst hy; rw [wS_self]; omega
theorem JoinOf.perm {X Y L : List (List Int)} (h : JoinOf X L) (hp : X.Perm Y) : JoinOf Y L :=
  ⟨h.pos, by rw [← sS_perm _ hp, ← sS_perm _ hp]; exact h.tot, fun A l B hL => by rw [← sS_perm _ hp, ← sS_perm _ hp, ← sS_perm _ hp, ← sS_perm _ hp]; exact h.at_ A l B hL⟩
end Go.Proofs.Ythlfdhooiekgjaa
/-
  Chains of sorted edges: the corners of the joined chain lie on the chain of the sorted ones. No condition.
-/
namespace Go.Proofs.Ythlfdhooiekgjaa
open Go Go.RowKit

theorem vfP_row {L : List (List Int)} : ∀ {p : List Int}, p.length = 2 → ∀ q ∈ vfP p L, q.length = 2 := by
  induction L with
  | nil => intro p hp q hq; simp only [vfP, List.mem_singleton] at hq; rw [hq]; exact hp
  | cons l L ih =>
    intro p hp q hq
    simp only [vfP, List.mem_cons] at hq
    rcases hq with rfl | hq
    · exact hp
    · exact ih (p := [geti p 0 + geti l 0, geti p 1 - geti l 1]) rfl q hq
theorem vfP_len (L : List (List Int)) : ∀ p, (vfP p L).length = L.length + 1 := by
  induction L with
  | nil => intro p; rfl
  | cons l L ih => intro p; rw [vfP, List.length_cons, ih, List.length_cons]
theorem vfP_mem {p : List Int} (hp : p.length = 2) {q : List Int} : ∀ {T U : List (List Int)}, q.length = 2 → geti q 0 = geti p 0 + sS E0 T → geti q 1 = geti p 1 - sS E1 T → q ∈ vfP p (T ++ U) := by
  intro T
  induction T generalizing p with
  | nil =>
    intro U hq h0 h1
    have : q = p := row2_ext hq hp (by simp only [sS] at h0; omega) (by simp only [sS] at h1; omega)
    obtain ⟨r, hr⟩ := vfP_ne p ([] ++ U)
    rw [hr, this]; simp
  | cons t T ih =>
    intro U hq h0 h1
    rw [List.cons_append, vfP]
    refine List.mem_cons_of_mem _ (ih rfl hq ?_ ?_)
    · rw [h0, sS]; simp only [E0]; simp [geti]; omega
    · rw [h1, sS]; simp only [E1]; simp [geti]; omega
theorem vfP_of {p : List Int} {q : List Int} : ∀ {L : List (List Int)}, q ∈ vfP p L → ∃ T U, L = T ++ U ∧ geti q 0 = geti p 0 + sS E0 T ∧ geti q 1 = geti p 1 - sS E1 T := by
  intro L
  induction L generalizing p with
  | nil =>
    intro hq
    simp only [vfP, List.mem_singleton] at hq
    exact ⟨[], [], rfl, by rw [hq]; simp [sS], by rw [hq]; simp [sS]⟩
  | cons l L ih =>
    intro hq
    simp only [vfP, List.mem_cons] at hq
    rcases hq with rfl | hq
    · exact ⟨[], l :: L, rfl, by simp [sS], by simp [sS]⟩
    · obtain ⟨T, U, e, h0, h1⟩ := ih hq
      refine ⟨l :: T, U, by rw [e]; rfl, ?_, ?_⟩
      · rw [h0, sS]; simp only [E0]; simp [geti]; omega
      · rw [h1, sS]; simp only [E1]; simp [geti]; omega
/-- The last point. -/
theorem vfP_all {p : List Int} (hp : p.length = 2) {L : List (List Int)} {q : List Int} (hq : q.length = 2) (h0 : geti q 0 = geti p 0 + sS E0 L) (h1 : geti q 1 = geti p 1 - sS E1 L) : q ∈ vfP p L := by
  have := vfP_mem hp (T := L) (U := []) hq h0 h1
  rwa [List.append_nil] at this

/-- The steepest first. -/
def StS (S : List (List Int)) : Prop := S.Pairwise fun a b => 0 ≤ wS a b
theorem stS_cut {S : List (List Int)} (hs : StS S) (hp : ∀ e ∈ S, 1 ≤ geti e 1) {l : List Int} (hl : 1 ≤ geti l 1) :
    ∃ T U, S = T ++ U ∧ ∀ F, sS (cut lt0 l F) S = sS F T := by
  induction S with
  | nil => exact ⟨[], [], rfl, fun F => rfl⟩
  | cons e S ih =>
    obtain ⟨h1, h2⟩ := List.pairwise_cons.1 hs
    by_cases hc : wS l e < 0
    · obtain ⟨T, U, e1, e2⟩ := ih h2 fun x hx => hp x (by simp [hx])
      exact ⟨e :: T, U, by rw [e1]; rfl, fun F => by rw [sS, sS, e2, cut_lt, if_pos hc]⟩
    · refine ⟨[], e :: S, rfl, fun F => ?_⟩
      have hz : ∀ x ∈ e :: S, cut lt0 l F x = 0 := by
        intro x hx
        rw [cut_lt, if_neg]
        rcases List.mem_cons.1 hx with rfl | hx
        · exact hc
        · have := wS_le hl (hp e (by simp)) (hp x (by simp [hx])) (by omega) (h1 x hx)
          omega
      have := sS_congr (F := cut lt0 l F) (G := fun _ => 0) (A := e :: S) hz
      rw [this]
      have hzero : ∀ A : List (List Int), sS (fun _ => 0) A = 0 := by
        intro A; induction A with
        | nil => rfl
        | cons a A ih => rw [sS, ih]; rfl
      rw [hzero]; rfl

/-- The corners of the joined chain lie on the chain of the sorted edges. -/
theorem vf_sub {S L : List (List Int)} (hs : StS S) (hp : ∀ e ∈ S, 1 ≤ geti e 1) (hJ : JoinOf S L) {p : List Int} (hpl : p.length = 2) {q : List Int} (hq : q ∈ vfP p L) : q ∈ vfP p S := by
  have hql := vfP_row hpl q hq
  obtain ⟨A, B, e, h0, h1⟩ := vfP_of hq
  cases B with
  | nil =>
    rw [List.append_nil] at e
    subst e
    exact vfP_all hpl hql (by rw [h0, hJ.tot.1]) (by rw [h1, hJ.tot.2])
  | cons l B =>
    have hl := hJ.pos l (by rw [e]; simp)
    obtain ⟨j0, j1, _, _⟩ := hJ.at_ A l B e
    obtain ⟨T, U, e1, e2⟩ := stS_cut hs hp hl.2.2
    rw [e1]
    exact vfP_mem hpl hql (by rw [h0, j0, e2]) (by rw [h1, j1, e2])
/-- All points of the chain are the first one and some of the edges. -/
theorem vf_sel {S X : List (List Int)} (hp : S.Perm X) {p q : List Int} (hq : q ∈ vfP p S) : SelP X p q := by
  obtain ⟨T, U, e, h0, h1⟩ := vfP_of hq
  exact ⟨T, U, e ▸ hp, h0, h1⟩
/-- The hull of the chain of the sorted edges. -/
theorem vf_hull {S X L : List (List Int)} (hp : S.Perm X) (hs : StS S) (hx : ∀ e ∈ X, EP e) (hJ : JoinOf X L) {p : List Int} (hpl : p.length = 2) : verts (vfP p S) = vfP p L :=
  verts_eq (vfP_row hpl) (vf_has hx hJ (fun _ hq => vf_sel hp hq) fun _ hb => vf_sub hs (fun e he => (hx e (hp.mem_iff.1 he)).2.2.1) (hJ.perm hp.symm) hpl hb)
end Go.Proofs.Ythlfdhooiekgjaa
/-
  Edges put in order one after the other; the points of a chain one after the other. No condition.
-/
namespace Go.Proofs.Ythlfdhooiekgjaa
open Go Go.RowKit

def E60 (e : List Int) : Prop := e.length = 2 ∧ (1 ≤ geti e 0 ∧ geti e 0 ≤ 60) ∧ (1 ≤ geti e 1 ∧ geti e 1 ≤ 60)
theorem E60.ep {e : List Int} (h : E60 e) : EP e := ⟨h.1, ⟨h.2.1.1, by have := h.2.1.2; omega⟩, ⟨h.2.2.1, by have := h.2.2.2; omega⟩⟩
/-- One more edge in its place. -/
def insE (e : List Int) : List (List Int) → List (List Int)
  | [] => [e]
  | s :: S => if 0 ≤ wS s e then s :: insE e S else e :: s :: S
theorem insE_perm (e : List Int) : ∀ S, (insE e S).Perm (e :: S)
  | [] => List.Perm.refl _
  | s :: S => by
    rw [insE]; split
    · exact ((insE_perm e S).cons s).trans (List.Perm.swap e s S)
    · exact List.Perm.refl _
theorem insE_stS {e : List Int} (he : 1 ≤ geti e 1) : ∀ {S : List (List Int)}, StS S → (∀ s ∈ S, 1 ≤ geti s 1) → StS (insE e S)
  | [], _, _ => by simp [insE, StS]
  | s :: S, hs, hp => by
    obtain ⟨h1, h2⟩ := List.pairwise_cons.1 hs
    have hp' : ∀ x ∈ S, 1 ≤ geti x 1 := fun x hx => hp x (by simp [hx])
    rw [insE]; split
    · rename_i hc
      refine List.pairwise_cons.2 ⟨fun x hx => ?_, insE_stS he h2 hp'⟩
      rcases List.mem_cons.1 ((insE_perm e S).mem_iff.1 hx) with rfl | hx
      · exact hc
      · exact h1 x hx
    · rename_i hc
      have hes : 0 ≤ wS e s := by rw [wS_neg]; omega
      refine List.pairwise_cons.2 ⟨fun x hx => ?_, hs⟩
      rcases List.mem_cons.1 hx with rfl | hx
      · exact hes
      · exact wS_le he (hp s (by simp)) (hp' x hx) hes (h1 x hx)
/-- The first n edges in order. -/
def srtE (xss : List (List Int)) : Nat → List (List Int)
  | 0 => []
  | n + 1 => insE (xss.getD n []) (srtE xss n)
theorem srtE_perm (xss : List (List Int)) : ∀ n, n ≤ xss.length → (srtE xss n).Perm (xss.take n)
  | 0, _ => by simp [srtE]
  | n + 1, h => by
    rw [srtE]
    have ih := srtE_perm xss n (by omega)
    have e : xss.take (n + 1) = xss.take n ++ [xss.getD n []] := by
      rw [List.take_add_one, List.getElem?_eq_getElem (by omega), List.getD_eq_getElem?_getD, List.getElem?_eq_getElem (by omega)]; rfl
    rw [e]
    exact ((insE_perm _ _).trans (ih.cons _)).trans (List.perm_append_comm (l₁ := [xss.getD n []]))
theorem srtE_mem {xss : List (List Int)} {n : Nat} (h : n ≤ xss.length) {x : List Int} (hx : x ∈ srtE xss n) : x ∈ xss := List.mem_of_mem_take ((srtE_perm xss n h).mem_iff.1 hx)
theorem srtE_stS {xss : List (List Int)} (hp : ∀ x ∈ xss, 1 ≤ geti x 1) : ∀ n, n ≤ xss.length → StS (srtE xss n)
  | 0, _ => by simp [srtE, StS]
  | n + 1, h => insE_stS (hp _ (by rw [List.getD_eq_getElem?_getD, List.getElem?_eq_getElem (by omega)]; exact List.getElem_mem _)) (srtE_stS hp n (by omega)) fun s hs => hp s (srtE_mem (by omega) hs)
theorem srtE_all (xss : List (List Int)) : (srtE xss xss.length).Perm xss := by
  have := srtE_perm xss xss.length (Nat.le_refl _)
  rwa [List.take_length] at this

/-! ### Points one after the other -/
theorem vfP_0 (p : List Int) (L : List (List Int)) : (vfP p L).getD 0 [] = p := by
  obtain ⟨r, hr⟩ := vfP_ne p L
  rw [hr]; rfl
theorem vfP_succ : ∀ (L : List (List Int)) (p : List Int) (n : Nat), n < L.length →
    (vfP p L).getD (n + 1) [] = [geti ((vfP p L).getD n []) 0 + geti (L.getD n []) 0, geti ((vfP p L).getD n []) 1 - geti (L.getD n []) 1]
  | [], p, n, h => by simp at h
  | l :: L, p, 0, _ => by
    rw [vfP]
    show (vfP _ L).getD 0 [] = _
    rw [vfP_0]; rfl
  | l :: L, p, n + 1, h => by
    rw [vfP]
    exact vfP_succ L _ n (by simpa using h)
theorem vfP_take (L : List (List Int)) (p : List Int) (n : Nat) (h : n < L.length) :
    (vfP p L).take (n + 1) ++ [[geti ((vfP p L).getD n []) 0 + geti (L.getD n []) 0, geti ((vfP p L).getD n []) 1 - geti (L.getD n []) 1]] = (vfP p L).take (n + 2) := by
  have hl := vfP_len L p
  rw [← vfP_succ L p n h, List.take_add_one (i := n + 1), List.getElem?_eq_getElem (by omega), List.getD_eq_getElem?_getD, List.getElem?_eq_getElem (by omega)]; rfl
theorem take_gets (V : List (List Int)) (n i : Nat) (h : i < n) : (V.take n).getD i [] = V.getD i [] := by
  rw [List.getD_eq_getElem?_getD, List.getElem?_take, if_pos h, List.getD_eq_getElem?_getD]
theorem sS_take_le {F : List Int → Int} {B : Int} (hB : 0 ≤ B) {xss : List (List Int)} (h : ∀ x ∈ xss, 0 ≤ F x ∧ F x ≤ B) (n : Nat) : 0 ≤ sS F (xss.take n) ∧ sS F (xss.take n) ≤ B * xss.length := by
  refine ⟨sS_nonneg fun e he => (h e (List.mem_of_mem_take he)).1, ?_⟩
  have : ∀ A : List (List Int), (∀ x ∈ A, F x ≤ B) → sS F A ≤ B * A.length := by
    intro A
    induction A with
    | nil => intro _; simp [sS]
    | cons a A ih =>
      intro hA
      have h1 := hA a (by simp)
      have h2 := ih fun x hx => hA x (by simp [hx])
      rw [sS, List.length_cons, Int.natCast_add, Int.mul_add]
      simp only [Int.natCast_one, Int.mul_one]
      omega
  have h3 := this (xss.take n) fun x hx => (h x (List.mem_of_mem_take hx)).2
  have h4 : B * ((xss.take n).length : Int) ≤ B * xss.length := Int.mul_le_mul_of_nonneg_left (by rw [List.length_take]; omega) hB
  omega
theorem sS_take_succ (F : List Int → Int) (xss : List (List Int)) (n : Nat) (h : n < xss.length) : sS F (xss.take (n + 1)) = sS F (xss.take n) + F (xss.getD n []) := by
  rw [List.take_add_one, List.getElem?_eq_getElem h, List.getD_eq_getElem?_getD, List.getElem?_eq_getElem h, sS_append]; simp [sS]
/-- All coordinates of a chain that starts high enough. -/
theorem vfP_box {L : List (List Int)} (hL : ∀ l ∈ L, 0 ≤ geti l 0 ∧ 0 ≤ geti l 1) {p q : List Int} (hq : q ∈ vfP p L) :
    (geti p 0 ≤ geti q 0 ∧ geti q 0 ≤ geti p 0 + sS E0 L) ∧ (geti p 1 - sS E1 L ≤ geti q 1 ∧ geti q 1 ≤ geti p 1) := by
  obtain ⟨T, U, e, h0, h1⟩ := vfP_of hq
  have t0 : 0 ≤ sS E0 T := sS_nonneg fun x hx => (hL x (by rw [e]; simp [hx])).1
  have t1 : 0 ≤ sS E1 T := sS_nonneg fun x hx => (hL x (by rw [e]; simp [hx])).2
  have u0 : 0 ≤ sS E0 U := sS_nonneg fun x hx => (hL x (by rw [e]; simp [hx])).1
  have u1 : 0 ≤ sS E1 U := sS_nonneg fun x hx => (hL x (by rw [e]; simp [hx])).2
  have s0 : sS E0 L = sS E0 T + sS E0 U := by rw [e, sS_append]
  have s1 : sS E1 L = sS E1 T + sS E1 U := by rw [e, sS_append]
  omega
theorem sS_len {F : List Int → Int} : ∀ {A : List (List Int)}, (∀ e ∈ A, 1 ≤ F e) → (A.length : Int) ≤ sS F A
  | [], _ => by simp [sS]
  | a :: A, h => by
    have h1 := h a (by simp)
    have h2 := sS_len (A := A) fun e he => h e (by simp [he])
    rw [sS, List.length_cons, Int.natCast_add]
    simp only [Int.natCast_one]
    omega
theorem JoinOf.len {X L : List (List Int)} (h : JoinOf X L) : (L.length : Int) ≤ sS E0 X := by
  rw [← h.tot.1]
  exact sS_len fun e he => (h.pos e he).2.1
end Go.Proofs.Ythlfdhooiekgjaa
/-
  slices.SortFunc at slices of slices, by the library's own contract laid at this dump in plain words. No condition.
-/
namespace Go.Proofs.Ythlfdhooiekgjaa
open Go Go.RowKit Go.Shelf
def laysSort_ren : Go.Shelf.Ren := ⟨fun | 6 => 66 | 15 => 79 | 14 => 78 | 28 => 90 | 29 => 91 | 20 => 82 | 21 => 83 | 22 => 84 | 23 => 85 | 24 => 86 | 25 => 87 | 26 => 88 | 27 => 89 | 46 => 94 | 47 => 95 | 48 => 96 | 49 => 97 | 50 => 98 | 57 => 100 | n => n, fun | 22 => 24 | 24 => 38 | 25 => 68 | 3 => 3 | 39 => 59 | 0 => 0 | 53 => 86 | 55 => 36 | 4 => 4 | 46 => 79 | 45 => 78 | 50 => 83 | 5 => 5 | 9 => 9 | 66 => 89 | 70 => 93 | 76 => 95 | 77 => 96 | n => n, fun | n => n⟩
theorem laysSort : Go.Proofs.SlLaysF.n6 Try.prog laysSort_ren := {
  mixed := by kernel_rfl
  f6 := ⟨Try.f66.name, by decide, Try.func66.trans (congrArg some (by kernel_rfl))⟩
  f14 := ⟨Try.f78.name, by decide, Try.func78.trans (congrArg some (by kernel_rfl))⟩
  f15 := Try.func79.trans (congrArg some (by kernel_rfl))
  f20 := ⟨Try.f82.name, by decide, Try.func82.trans (congrArg some (by kernel_rfl))⟩
  f21 := ⟨Try.f83.name, by decide, Try.func83.trans (congrArg some (by kernel_rfl))⟩
  f22 := ⟨Try.f84.name, by decide, Try.func84.trans (congrArg some (by kernel_rfl))⟩
  f23 := ⟨Try.f85.name, by decide, Try.func85.trans (congrArg some (by kernel_rfl))⟩
  f24 := ⟨Try.f86.name, by decide, Try.func86.trans (congrArg some (by kernel_rfl))⟩
  f25 := ⟨Try.f87.name, by decide, Try.func87.trans (congrArg some (by kernel_rfl))⟩
  f26 := ⟨Try.f88.name, by decide, Try.func88.trans (congrArg some (by kernel_rfl))⟩
  f27 := ⟨Try.f89.name, by decide, Try.func89.trans (congrArg some (by kernel_rfl))⟩
  f28 := Try.func90.trans (congrArg some (by kernel_rfl))
  f29 := Try.func91.trans (congrArg some (by kernel_rfl))
  f46 := ⟨Try.f94.name, by decide, Try.func94.trans (congrArg some (by kernel_rfl))⟩
  f47 := Try.func95.trans (congrArg some (by kernel_rfl))
  f48 := Try.func96.trans (congrArg some (by kernel_rfl))
  f49 := ⟨Try.f97.name, by decide, Try.func97.trans (congrArg some (by kernel_rfl))⟩
  f50 := ⟨Try.f98.name, by decide, Try.func98.trans (congrArg some (by kernel_rfl))⟩
  f57 := ⟨Try.f100.name, by decide, Try.func100.trans (congrArg some (by kernel_rfl))⟩
  t0 := Try.underlying0
  a0 := Try.isAgg0
  z0 := Try.sizeOf0
  v0 := Try.zeroValue0
  t3 := Try.underlying3
  a3 := Try.isAgg3
  z3 := Try.sizeOf3
  v3 := Try.zeroValue3
  t4 := Try.underlying4
  a4 := Try.isAgg4
  z4 := Try.sizeOf4
  v4 := Try.zeroValue4
  t5 := Try.underlying5
  a5 := Try.isAgg5
  z5 := Try.sizeOf5
  v5 := Try.zeroValue5
  t9 := Try.underlying9
  a9 := Try.isAgg9
  z9 := Try.sizeOf9
  v9 := Try.zeroValue9
  t22 := Try.underlying24
  a22 := Try.isAgg24
  z22 := Try.sizeOf24
  v22 := Try.zeroValue24
  a24 := Try.isAgg38
  z24 := Try.sizeOf38
  t25 := Try.underlying68
  a25 := Try.isAgg68
  z25 := Try.sizeOf68
  v25 := Try.zeroValue68
  t39 := Try.underlying59
  a39 := Try.isAgg59
  z39 := Try.sizeOf59
  v39 := Try.zeroValue59
  t45 := Try.underlying78
  a45 := Try.isAgg78
  z45 := Try.sizeOf78
  v45 := Try.zeroValue78
  t46 := Try.underlying79
  a46 := Try.isAgg79
  z46 := Try.sizeOf79
  v46 := Try.zeroValue79
  t50 := Try.underlying83
  a50 := Try.isAgg83
  z50 := Try.sizeOf83
  v50 := Try.zeroValue83
  t53 := Try.underlying86
  a53 := Try.isAgg86
  z53 := Try.sizeOf86
  v53 := Try.zeroValue86
  t55 := Try.underlying36
  a55 := Try.isAgg36
  z55 := Try.sizeOf36
  v55 := Try.zeroValue36
  t66 := Try.underlying89
  a66 := Try.isAgg89
  z66 := Try.sizeOf89
  v66 := Try.zeroValue89
  t70 := Try.underlying93
  a70 := Try.isAgg93
  z70 := Try.sizeOf93
  v70 := Try.zeroValue93
  t76 := Try.underlying95
  a76 := Try.isAgg95
  z76 := Try.sizeOf95
  v76 := Try.zeroValue95
  t77 := Try.underlying96
  a77 := Try.isAgg96
  z77 := Try.sizeOf96
  v77 := Try.zeroValue96 }
open Go.RowKit Go.Lib Go.Sort in
theorem slices_SortFunc {α : Type} [Inhabited α] (enc : α → Value) (h1 : OneCell enc) (cf : α → α → Int) (hO : SWO (ltOf cf)) (g : Nat) (cb : Array Value) (blk off cap : Nat) (d : Array α) (w : World) (eg : ∀ args w, (callFunc g args).run Try.prog w = .ok (.enter g args) w) (hcmp : CmpLays1 Try.prog g cb enc cf blk off d.size w) (hH : Holds enc w blk off d) (hblk : blk < w.heap.size) (hsz : d.size < 4611686018427387904) :
    Calls Try.prog 66 #[.slice (some ⟨blk, off, none⟩) d.size cap, .func (.func g) #[] cb] w fun e w' =>
      e = .returned (.tuple #[]) ∧ ∃ d' n os, PermIn 0 d.size d d' ∧ SortedIn (ltOf cf) 0 d.size d' ∧ w' = sortWorld enc w blk off n d' os := Any.slices_SortFunc laysSort enc h1 cf hO g cb blk off cap d w eg hcmp hH hblk hsz
end Go.Proofs.Ythlfdhooiekgjaa
