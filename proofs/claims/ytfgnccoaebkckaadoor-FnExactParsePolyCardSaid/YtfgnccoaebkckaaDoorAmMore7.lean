/-
  Own slices whose cells are rows of another own slice: literal ones, appends, cuts; the two made one. No condition.
-/
import Derived.Test.YtfgnccoaebkckaaDoorAmMore2
namespace Go.Proofs.YtfgnccoaebkckaaDoor
open Go Go.RowKit

theorem map_orow_kill (h k : Nat) (idx : List Nat) : (idx.map (AV.orow k)).map (AV.kill h) = idx.map (AV.orow k) := by
  rw [List.map_map]; rfl
theorem orow_kill (h k : Nat) (idx : List Nat) (j : Nat) : ((idx.map (AV.orow k)).getD j .any).kill h = (idx.map (AV.orow k)).getD j .any := by
  rw [← getD_map_kill, map_orow_kill]

section
variable {P : Program} {env : Env} {os : List AO} {d : Option Tmp} {ty : TypeId} {pos : String} {af : Array Edge} {g : Option (Nat × Bool)}

/-- An empty slice of rows. -/
theorem l_bsx0 {t e : TypeId} {bytes : Nat} [ht : TSlice P t e] [he : TElem P e (.slice none 0 0) bytes] (k : Nat) : LOp P ⟨d, .buildSlice t 0 #[], ty, pos, af, g⟩ env os (.own os.length) env (os ++ [.slr e (([] : List Nat).map (AV.orow k))]) := by
  refine l_new fun base w gs tm hr => ?_
  obtain ⟨ii, hi, hs, hz, hby⟩ := he.info
  refine ⟨w.alloc (.cells #[] e), ⟨.slice (some ⟨w.heap.size, 0, none⟩) 0 0, w.heap.size, [w.heap.size], []⟩, ?_, below_alloc w _, fun b hb => by simp at hb; simp [hb], fun ok gs' => ?_⟩
  · simp [execOp, Instr.buildSlice, run_underlying ht.und, sizeOf, typeInfo, hi, Instr.fill, newRow, ar0]
  · exact ⟨[], ⟨by simp, .inr ⟨w.heap.size, 0, _, rfl, hr.hb, heap_alloc_new w _, Nat.le_refl _, by simp [maxLen], by simp, by simp⟩⟩, rfl, fun i => .any _, .inr ⟨rfl, rfl⟩⟩

/-- A literal slice of one row of 'k'. -/
theorem l_bsx1 {t e : TypeId} {bytes : Nat} [ht : TSlice P t e] [he : TElem P e (.slice none 0 0) bytes] {x : Operand} {k i : Nat} {e2 e3 : TypeId} {xss : List (List Int)} (hx : AV.ev env x = .orow k i) (hk : os[k]? = some (.sls e2 e3 xss)) :
    LOp P ⟨d, .buildSlice t 1 #[(0, x)], ty, pos, af, g⟩ env os (.osub os.length 0 1) env (os ++ [.bx e [.orow k i]]) := by
  intro base w gs tm hr
  have hxv := hr.ev x
  rw [hx] at hxv
  generalize hv : Act.eval ⟨tm, []⟩ x = v at hxv
  cases hxv with
  | @orow _ _ gk _ hgk hrow =>
    obtain ⟨us, bs, mb, b1, b2, b3, b4, b5, _⟩ := hr.ho _ _ _ hgk hk
    have hu := hrow
    rw [b4] at hu
    obtain ⟨ua, uc, eu⟩ := ownsRow_slice (b5 _ _ hu).1
    obtain ⟨ii, hi, hs, hz, hby⟩ := he.info
    have hbel := below_alloc w (.cells [v].toArray e)
    have hlt : w.heap.size < (w.alloc (.cells [v].toArray e)).heap.size := by simp
    have hno : AO.bx e [.orow k i] ≠ .dead → ∀ b, b ∈ [w.heap.size] → w.heap.size ≤ b ∧ b < (w.alloc (.cells [v].toArray e)).heap.size := fun _ b hb => by simp at hb; omega
    let gn : Gh := ⟨.pointer (some ⟨w.heap.size, 0, none⟩), w.heap.size, [w.heap.size], []⟩
    have hgs : ∀ (i : Nat) g', gs[i]? = some g' → (gs ++ [gn])[i]? = some g' := fun i g' e => by
      rw [List.getElem?_append_left (List.getElem?_eq_some_iff.1 e).1]; exact e
    refine ⟨.slice (some ⟨w.heap.size, 0, none⟩) 1 1, _, gs ++ [gn], .inl ?_, hr.new hbel _ _ hno ?_, ?_, hbel.mono hr.hb⟩
    · simp [execOp, Instr.buildSlice, run_underlying ht.und, sizeOf, typeInfo, zeroValue, hi, hs, hz, Instr.fill, newRow, hv, eu, Value.cells, ar1]
    · refine ⟨[v], heap_alloc_new w _, hr.hb, rfl, rfl, rfl, ?_, fun i => ?_⟩
      · intro c hc; simp at hc; subst hc; rw [eu]; rfl
      · match i with
        | 0 => exact .orow (hgs _ _ hgk) hrow
        | i + 1 => exact .any _
    · have := RV.osub (w := w.alloc (.cells [v].toArray e)) (ok := okOf (gs ++ [gn]) (os ++ [.bx e [.orow k i]])) (off := 0) (len := 1) (cap := 1) (p := some ⟨w.heap.size, 0, none⟩) (len_new (gs := gs) (g := gn)) (fun _ => rfl) (Nat.le_refl _) (by simp [maxLen])
      rw [hr.hl] at this
      exact this

set_option maxHeartbeats 1000000 in
/-- One row is appended. -/
theorem l_append_x {t e : TypeId} {bytes : Nat} [ht : TSlice P t e] [he : TElem P e (.slice none 0 0) bytes] {x y : Operand} {h m k i : Nat} {e' T : TypeId} {idx : List Nat}
    (hx : AV.ev env x = .own h) (hs : os[h]? = some (.slr e' (idx.map (AV.orow k)))) (hee : e' = e) (hy : AV.ev env y = .osub m 0 1) (hm : os[m]? = some (.bx T [.orow k i])) (hb : (idx.length + 1) * bytes ≤ 140737488355328) :
    LOp P ⟨d, .call { callee := .builtin .append, args := #[x, y], argTypes := #[t, t] }, ty, pos, af, g⟩ env os (.own h) (env.mp (AV.kill h)) ((os.map (AO.kill h)).set h (.slr e ((idx ++ [i]).map (AV.orow k)))) := by
  subst hee
  intro base w gs tm hr
  have hxv := hr.ev x
  rw [hx] at hxv
  have hyv := hr.ev y
  rw [hy] at hyv
  generalize hv : Act.eval ⟨tm, []⟩ x = v at hxv
  generalize hu : Act.eval ⟨tm, []⟩ y = u at hyv
  cases hxv with
  | @own _ gh hg =>
  cases hyv with
  | @osub _ _ _ cap pa gm hgm hp hc hcm =>
    have epa := hp (by omega)
    subst epa
    obtain ⟨cs, m1, m2, m3, m4, m5, m6, m7⟩ := hr.ho _ _ _ hgm hm
    have hcs := m7 0
    simp only [List.getD_cons_zero] at hcs
    obtain ⟨c0, rfl⟩ : ∃ c0, cs = [c0] := by
      match cs, m5 with
      | [c0], _ => exact ⟨c0, rfl⟩
    simp only [List.getD_cons_zero] at hcs
    obtain ⟨vs, a1, a2, a3, a4⟩ := hr.ho _ _ _ hg hs
    have a2' : vs.length = idx.length := by simpa using a2
    obtain ⟨ii, hi, hsz, hz, hby⟩ := he.info
    have h64 : vs.length + 1 ≤ maxLen := by
      have := he.pos
      have : idx.length + 1 ≤ (idx.length + 1) * bytes := Nat.le_mul_of_pos_right _ this
      simp only [maxLen]; omega
    obtain ⟨v', w', r1, r2, r3, r4, r5⟩ := run_append_own_at (P := P) w base t ty e' ii _ 1 bytes ht.und hi hz hsz hby rfl (by omega) gh.v vs.length vs a1 ⟨gm.b, 0, none⟩ 1 cap [c0] (by simp)
      (fun j u hj => by
        have hj0 : j = 0 := by have := (List.getElem?_eq_some_iff.1 hj).1; simp at this; exact this
        subst hj0
        rw [add_none, cell_of_row w _ _ _ _ (0, 0) m1]
        simpa using hj)
      (fun u hu => by simp at hu; subst hu; exact m6 _ (by simp)) h64 (by rw [a2']; exact hb) hr.hb
    have hgb : ∀ b, b ∉ gh.bl → some b ≠ gh.v.ownBlock := fun b hb e => hb (a4.mem e.symm)
    let g' : Gh := ⟨v', v'.ownBlock.getD 0, v'.ownBlock.toList, gh.rows⟩
    have hgb' : GB g' := by
      show (v'.ownBlock = none ∧ v'.ownBlock.toList = []) ∨ (v'.ownBlock = some (v'.ownBlock.getD 0) ∧ v'.ownBlock.toList = [v'.ownBlock.getD 0])
      cases v'.ownBlock with
      | none => exact .inl ⟨rfl, rfl⟩
      | some b => exact .inr ⟨rfl, rfl⟩
    have hlt : ∀ b, v'.ownBlock = some b → b < w'.heap.size := by
      intro b hb
      rcases r2.2 with ⟨e1, _⟩ | ⟨gg, cc, cur, e1, _, hgg, _⟩
      · rw [e1] at hb; cases hb
      · rw [e1] at hb; cases hb; exact (Array.getElem?_eq_some_iff.1 hgg).1
    refine ⟨v', w', gs.set h g', .inl ?_, hr.turn hg hs trivial g' (.slr e' ((idx ++ [i]).map (AV.orow k))) (fun b hb hn => r3.block b hb (hgb b hn)) r3.size ?_ (fun i v hv => hv) ?_, ?_, ?_⟩
    · have r1' := r1
      simp only [execOp, resolve, invoke, builtin, Sem.run_bind, Sem.run_pure, Result.andThen_ok, List.map_toArray, List.map_cons, List.map_nil, hv, hu, r1']
    · intro b hb
      have hb' : v'.ownBlock = some b := by
        have hb2 : b ∈ v'.ownBlock.toList := hb
        cases hvb : v'.ownBlock with
        | none => rw [hvb] at hb2; simp at hb2
        | some c => rw [hvb] at hb2; simp at hb2; rw [hb2]
      refine ⟨?_, hlt b hb'⟩
      rcases r5 with r5 | r5
      · left; rw [hb'] at r5; exact a4.mem r5.symm
      · right; rw [hb'] at r5; cases r5; exact Nat.le_refl _
    · intro kp tn
      refine ⟨vs ++ [c0], by simpa using r2, by simp [a2'], fun j => ?_, hgb'⟩
      rcases Nat.lt_trichotomy j vs.length with hj | hj | hj
      · have e1 : (vs ++ [c0]).getD j undef = vs.getD j undef := by simp only [List.getD_eq_getElem?_getD]; rw [List.getElem?_append_left hj]
        have e2 : ((idx ++ [i]).map (AV.orow k)).getD j .any = (idx.map (AV.orow k)).getD j .any := by
          rw [List.map_append]; simp only [List.getD_eq_getElem?_getD]; rw [List.getElem?_append_left (by simp; omega)]
        rw [e1, e2, ← orow_kill h]
        exact (a3 j).kill kp tn
      · subst hj
        have e1 : (vs ++ [c0]).getD vs.length undef = c0 := by simp [List.getD_eq_getElem?_getD]
        have e2 : ((idx ++ [i]).map (AV.orow k)).getD vs.length .any = .orow k i := by
          rw [List.map_append, a2']; simp [List.getD_eq_getElem?_getD]
        rw [e1, e2]
        exact hcs.kill (h := h) kp tn
      · have e2 : ((idx ++ [i]).map (AV.orow k)).getD j .any = .any := by
          rw [List.getD_eq_getElem?_getD, List.getElem?_eq_none (by simp; omega)]; rfl
        rw [e2]
        exact .any _
    · have hk : h < gs.length := (List.getElem?_eq_some_iff.1 hg).1
      exact RV.own (g := g') (by simp [hk])
    · refine ⟨r3.os, r3.tape, r3.output, r3.size, fun b hb => r3.block b (by have := hr.hb; omega) (hgb b fun hm => ?_)⟩
      have := (hr.hn _ _ _ hg hs (by simp) b hm).1
      omega

/-- The slice is cut behind. -/
theorem l_cut_x {t e : TypeId} [ht : TSlice P t e] [he : TCell P e] {x y : Operand} {h k : Nat} {e' : TypeId} {idx : List Nat} {n : Int} (hx : AV.ev env x = .own h) (hs : os[h]? = some (.slr e' (idx.map (AV.orow k)))) (hy : AV.ev env y = .i n) (h0 : 0 < n) (h1 : n ≤ idx.length) :
    LOp P ⟨d, .slice t x none (some y) none, ty, pos, af, g⟩ env os (.own h) (env.mp (AV.kill h)) ((os.map (AO.kill h)).set h (.slr e' ((idx.take n.toNat).map (AV.orow k)))) := by
  intro base w gs tm hr
  have hxv := hr.ev x
  rw [hx] at hxv
  generalize hv : Act.eval ⟨tm, []⟩ x = v at hxv
  cases hxv with
  | @own _ gh hg =>
    obtain ⟨vs, a1, a2, a3, a4⟩ := hr.ho _ _ _ hg hs
    have a2' : vs.length = idx.length := by simpa using a2
    rcases a1.2 with ⟨_, c2⟩ | ⟨gg, cap, cur, c1, c2, c3, c4, c5, c6, c7⟩
    · omega
    have e1 := elem_of (P := P) ht.und
    have hrun := run_slice_h (P := P) w t (some ⟨gg, 0, none⟩) vs.length cap (by rw [e1]; exact ht.und) .i64 n (by omega) (by omega)
    rw [e1, run_size] at hrun
    have hat := run_sliceAt_slice (P := P) w t (.slice (some ⟨gg, 0, none⟩) vs.length cap) none (some (.int .i64 n)) none (by rw [e1]; exact ht.und)
    have ev' : sliced (some ⟨gg, 0, none⟩) 0 n.toNat cap 1 = .slice (some ⟨gg, 0, none⟩) n.toNat cap := by
      rw [sliced, if_neg (by omega)]; simp [add_none]
    let g' : Gh := ⟨.slice (some ⟨gg, 0, none⟩) n.toNat cap, gh.b, gh.bl, gh.rows⟩
    have egg : gh.b = gg ∧ gh.bl = [gg] := by
      rcases a4 with ⟨q1, _⟩ | ⟨q1, q2⟩
      · rw [c1] at q1; cases q1
      · rw [c1] at q1; cases q1; exact ⟨rfl, q2⟩
    have hlt : gg < w.heap.size := (Array.getElem?_eq_some_iff.1 c3).1
    refine ⟨.slice (some ⟨gg, 0, none⟩) n.toNat cap, w, gs.set h g', .inl ?_, hr.turn hg hs trivial g' (.slr e' ((idx.take n.toNat).map (AV.orow k))) (fun b hb hn => rfl) (Nat.le_refl _) (fun b hb => ⟨.inl hb, ?_⟩) (fun i v hv => hv) ?_, ?_, Below.refl _ _⟩
    · simp only [execOp, hv, c1, hr.evv hy, Option.map_none, Option.map_some, Sem.run_bind, hat, hrun, Result.andThen_ok, Sem.run_pure, ev']
    · have hb2 : b ∈ gh.bl := hb
      rw [egg.2] at hb2
      simp at hb2
      omega
    · intro kp tn
      refine ⟨vs.take n.toNat, ⟨by simp, .inr ⟨gg, cap, cur, ?_, c2, c3, ?_, c5, c6, ?_⟩⟩, by simp; omega, fun j => ?_, .inr ⟨?_, ?_⟩⟩
      · show Value.slice (some ⟨gg, 0, none⟩) n.toNat cap = _
        have : (vs.take n.toNat).length = n.toNat := by simp; omega
        rw [this]
      · simp; omega
      · rw [← c7, List.take_take]
        congr 1
        simp; omega
      · by_cases hj : j < n.toNat
        · have q1 : (vs.take n.toNat).getD j undef = vs.getD j undef := by simp only [List.getD_eq_getElem?_getD]; rw [List.getElem?_take, if_pos hj]
          have q2 : ((idx.take n.toNat).map (AV.orow k)).getD j .any = (idx.map (AV.orow k)).getD j .any := by
            rw [List.map_take]; simp only [List.getD_eq_getElem?_getD]; rw [List.getElem?_take, if_pos hj]
          rw [q1, q2, ← orow_kill h]
          exact (a3 j).kill kp tn
        · have q2 : ((idx.take n.toNat).map (AV.orow k)).getD j .any = .any := by
            rw [List.getD_eq_getElem?_getD, List.getElem?_eq_none (by simp; omega)]; rfl
          rw [q2]
          exact .any _
      · show Value.ownBlock (Value.slice (some ⟨gg, 0, none⟩) n.toNat cap) = some gh.b
        rw [egg.1]; rfl
      · show gh.bl = [gh.b]
        rw [egg.2, egg.1]
    · have hk : h < gs.length := (List.getElem?_eq_some_iff.1 hg).1
      exact RV.own (g := g') (by simp [hk])
end

theorem nodup_sel {bs : List (List Nat)} {idx : List Nat} (h : bs.flatten.Nodup) (hi : idx.Nodup) (hlt : ∀ i ∈ idx, i < bs.length) : ((idx.map fun i => bs.getD i []).flatten).Nodup := by
  unfold List.Nodup at h ⊢
  rw [List.pairwise_flatten] at h ⊢
  obtain ⟨h1, h2⟩ := h
  refine ⟨?_, ?_⟩
  · intro l hl
    obtain ⟨i, hi', rfl⟩ := List.mem_map.1 hl
    have := hlt i hi'
    rw [List.getD_eq_getElem?_getD, List.getElem?_eq_getElem this]
    exact h1 _ (List.getElem_mem this)
  · rw [List.pairwise_map]
    refine List.Pairwise.imp_of_mem ?_ hi
    intro a b ha hb hab
    have la := hlt a ha
    have lb := hlt b hb
    rw [List.getD_eq_getElem?_getD, List.getElem?_eq_getElem la, List.getD_eq_getElem?_getD, List.getElem?_eq_getElem lb]
    rw [List.pairwise_iff_getElem] at h2
    rcases Nat.lt_or_gt_of_ne hab with hl | hl
    · exact h2 a b la lb hl
    · exact fun x hx y hy e => h2 b a lb la hl y hy x hx e.symm

set_option maxHeartbeats 1000000 in
/-- The slice 'p' of rows of 'k' takes these rows; the rest of 'k' is no more. -/
theorem Rel.merge {base : Nat} {w : World} {gs : List Gh} {env : Env} {os : List AO} {tm : Array Value} (h : Rel base w gs env os tm) {p k : Nat} {e e2 e3 : TypeId} {xss : List (List Int)} {idx : List Nat} (hs : os[p]? = some (.slr e (idx.map (AV.orow k)))) (hk : os[k]? = some (.sls e3 e2 xss)) (hnd : idx.Nodup) :
    ∃ gs', Rel base w gs' (env.mp (AV.noRow p)) (((os.map (AO.via (AV.noRow p) p)).set p (.sls e e2 (idx.map fun i => xss.getD i []))).set k .dead) tm := by
  have hne : p ≠ k := fun e => by subst e; rw [hs] at hk; cases hk
  have hpo : p < os.length := (List.getElem?_eq_some_iff.1 hs).1
  have hko : k < os.length := (List.getElem?_eq_some_iff.1 hk).1
  obtain ⟨gp, hgp⟩ : ∃ x, gs[p]? = some x := ⟨_, List.getElem?_eq_getElem (by rw [h.hl]; exact hpo)⟩
  obtain ⟨gk, hgk⟩ : ∃ x, gs[k]? = some x := ⟨_, List.getElem?_eq_getElem (by rw [h.hl]; exact hko)⟩
  obtain ⟨vs, a1, a2, a3, a4⟩ := h.ho _ _ _ hgp hs
  obtain ⟨us, bs, mb, b1, b2, b3, b4, b5, b6, b7, b8⟩ := h.ho _ _ _ hgk hk
  have a2' : vs.length = idx.length := by simpa using a2
  have row : ∀ (j : Nat) u, vs[j]? = some u → ∃ i, idx[j]? = some i ∧ us[i]? = some u := by
    intro j u hj
    have hjl := (List.getElem?_eq_some_iff.1 hj).1
    have hrv := a3 j
    obtain ⟨i, hi⟩ : ∃ i, idx[j]? = some i := ⟨_, List.getElem?_eq_getElem (by omega)⟩
    rw [List.getD_eq_getElem?_getD, hj, List.getD_eq_getElem?_getD, List.getElem?_map, hi] at hrv
    simp only [Option.getD_some, Option.map_some] at hrv
    cases hrv with
    | @orow _ _ g0 _ q1 q2 =>
      rw [hgk] at q1
      cases q1
      rw [b4] at q2
      exact ⟨i, hi, q2⟩
  have hidx : ∀ i ∈ idx, i < bs.length := by
    intro i hi
    obtain ⟨j, hj⟩ := List.getElem?_of_mem hi
    have hjl := (List.getElem?_eq_some_iff.1 hj).1
    obtain ⟨i', q1, q2⟩ := row j _ (List.getElem?_eq_getElem (by omega))
    rw [hj] at q1
    cases q1
    have := (List.getElem?_eq_some_iff.1 q2).1
    omega
  let cs : List (List Nat) := idx.map fun i => bs.getD i []
  let g' : Gh := ⟨gp.v, gp.b, gp.bl ++ cs.flatten, vs⟩
  have hcs : ∀ b, b ∈ cs.flatten → b ∈ bs.flatten := by
    intro b hb
    obtain ⟨l, hl, hbl⟩ := List.mem_flatten.1 hb
    obtain ⟨i, hi, rfl⟩ := List.mem_map.1 hl
    have hil := hidx i hi
    rw [List.getD_eq_getElem?_getD, List.getElem?_eq_getElem hil] at hbl
    exact List.mem_flatten.2 ⟨_, List.getElem_mem hil, hbl⟩
  have hsk : ∀ b, b ∈ cs.flatten → b ∈ gk.bl := fun b hb => by rw [b7]; exact List.mem_append.2 (.inr (hcs b hb))
  have hgl : p < gs.length := by rw [h.hl]; exact hpo
  have sv : SameV p gs (gs.set p g') := by
    refine ⟨fun j z hj hz => ?_, fun z hz => ⟨g', by simp [hgl], ?_, ?_⟩⟩
    · rw [List.getElem?_set, if_neg (fun e => hj e.symm)]; exact hz
    · rw [hgp] at hz; cases hz; rfl
    · rw [hgp] at hz; cases hz; rfl
  refine ⟨gs.set p g', h.absorb hgp hs trivial hgk hk trivial hne g' _ (AV.noRow p) rfl (fun _ _ _ => rfl) (Nat.le_refl _) ?_ (fun kp hv => hv.noRow kp sv) ?_⟩
  · intro b hb
    rcases List.mem_append.1 hb with hb | hb
    · exact ⟨.inl hb, (h.hn _ _ _ hgp hs (by simp) b hb).2⟩
    · exact ⟨.inr (.inl (hsk b hb)), (h.hn _ _ _ hgk hk (by simp) b (hsk b hb)).2⟩
  · intro kp
    refine ⟨vs, cs, gp.bl, a1, by simp [a2'], by simp [cs], rfl, fun j u hj => ?_, a4, rfl, ?_⟩
    · obtain ⟨i, q1, q2⟩ := row j u hj
      have g1 : (idx.map fun i => xss.getD i []).getD j [] = xss.getD i [] := by
        rw [List.getD_eq_getElem?_getD, List.getElem?_map, q1]; rfl
      have g2 : cs.getD j [] = bs.getD i [] := by
        show (idx.map fun i => bs.getD i []).getD j [] = _
        rw [List.getD_eq_getElem?_getD, List.getElem?_map, q1]; rfl
      rw [g1, g2]
      exact b5 i u q2
    · show (gp.bl ++ cs.flatten).Nodup
      rw [List.nodup_append]
      refine ⟨a4.nodup, nodup_sel ?_ hnd hidx, ?_⟩
      · rw [b7] at b8
        exact (List.nodup_append.1 b8).2.1
      · intro a ha b hb e
        subst e
        exact h.hd p k gp gk _ _ hne hgp hgk hs hk (by simp) (by simp) a ha (hsk a hb)

theorem AWp.merge {P : Program} {c : Code} {N : APost} {X : Nat → APost} {Rt : APost} {env : Env} {os : List AO} {p k : Nat} {e e2 e3 : TypeId} {xss : List (List Int)} {idx : List Nat} (hs : os[p]? = some (.slr e (idx.map (AV.orow k)))) (hk : os[k]? = some (.sls e3 e2 xss)) (hnd : idx.Nodup)
    (h : AWp P c N X Rt (env.mp (AV.noRow p)) (((os.map (AO.via (AV.noRow p) p)).set p (.sls e e2 (idx.map fun i => xss.getD i []))).set k .dead)) : AWp P c N X Rt env os := by
  intro base w0 w gs tm hr hb
  obtain ⟨gs', hr'⟩ := hr.merge hs hk hnd
  exact h base w0 w gs' tm hr' hb

section
variable {P : Program} {env : Env} {os : List AO} {d : Tmp} {ty : TypeId} {pos : String} {af : Array Edge} {l rest : List Oper} {K : APost}
theorem w_bsx0 {t e : TypeId} {bytes : Nat} [TSlice P t e] [TElem P e (.slice none 0 0) bytes] {m : Nat} (k : Nat) (hm : os.length = m) (h' : AOps P .seq l rest K (env.up d (.own m)) (os ++ [.slr e (([] : List Nat).map (AV.orow k))])) :
    AOps P .seq l (⟨some d, .buildSlice t 0 #[], ty, pos, af, none⟩ :: rest) K env os := AOps.lo (hm ▸ l_bsx0 k) h'
theorem w_bsx1 {t e : TypeId} {bytes : Nat} [TSlice P t e] [TElem P e (.slice none 0 0) bytes] {x : Operand} {k i m : Nat} {e2 e3 : TypeId} {xss : List (List Int)} (hx : evo env x = some (.orow k i)) (hk : os[k]? = some (.sls e2 e3 xss)) (hm : os.length = m)
    (h' : AOps P .seq l rest K (env.up d (.osub m 0 1)) (os ++ [.bx e [.orow k i]])) :
    AOps P .seq l (⟨some d, .buildSlice t 1 #[(0, x)], ty, pos, af, none⟩ :: rest) K env os := AOps.lo (hm ▸ l_bsx1 (ev_of hx) hk) h'
theorem w_appx {t e : TypeId} {bytes : Nat} [TSlice P t e] [TElem P e (.slice none 0 0) bytes] {x y : Operand} {h m k i : Nat} {e' T : TypeId} {idx : List Nat}
    (hx : evo env x = some (.own h)) (hs : os[h]? = some (.slr e' (idx.map (AV.orow k)))) (hee : e' = e) (hy : evo env y = some (.osub m 0 1)) (hm : os[m]? = some (.bx T [.orow k i])) (hb : (idx.length + 1) * bytes ≤ 140737488355328)
    (h' : AOps P .seq l rest K (Env.up (env.mp (AV.kill h)) d (.own h)) ((os.map (AO.kill h)).set h (.slr e ((idx ++ [i]).map (AV.orow k))))) :
    AOps P .seq l (⟨some d, .call { callee := .builtin .append, args := #[x, y], argTypes := #[t, t] }, ty, pos, af, none⟩ :: rest) K env os := AOps.lo (l_append_x (ev_of hx) hs hee (ev_of hy) hm hb) h'
theorem w_cutx {t e : TypeId} [TSlice P t e] [TCell P e] {x y : Operand} {h k : Nat} {e' : TypeId} {idx : List Nat} {n : Int} (hx : evo env x = some (.own h)) (hs : os[h]? = some (.slr e' (idx.map (AV.orow k)))) (hy : evo env y = some (.i n)) (h0 : 0 < n) (h1 : n ≤ idx.length)
    (h' : AOps P .seq l rest K (Env.up (env.mp (AV.kill h)) d (.own h)) ((os.map (AO.kill h)).set h (.slr e' ((idx.take n.toNat).map (AV.orow k))))) :
    AOps P .seq l (⟨some d, .slice t x none (some y) none, ty, pos, af, none⟩ :: rest) K env os := AOps.lo (l_cut_x (ev_of hx) hs (ev_of hy) h0 h1) h'
end
end Go.Proofs.YtfgnccoaebkckaaDoor
