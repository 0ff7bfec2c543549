/-
  Rows that go into own slices by append; literal slices of rows. No condition.
-/
import Derived.Test.YtfgnccoaebkckaaDoorAmMore
namespace Go.Proofs.YtfgnccoaebkckaaDoor
open Go Go.RowKit

/-- The slice 'k' is now the row j of 'p'; what names p's own value or block is lost. -/
def AV.rin1 (k p j : Nat) : AV → AV
  | .own i => if i = k then .orow p j else if i = p then .any else .own i
  | .optr i n => if i = p then .any else .optr i n
  | .osub i a b => if i = p then .any else .osub i a b
  | .agg _ => .any
  | .tup _ => .any
  | a => a
def AV.rin (k p j : Nat) : AV → AV
  | .own i => if i = k then .orow p j else if i = p then .any else .own i
  | .optr i n => if i = p then .any else .optr i n
  | .osub i a b => if i = p then .any else .osub i a b
  | .agg l => .agg (l.map (AV.rin1 k p j))
  | .tup l => .tup (l.map (AV.rin1 k p j))
  | a => a

section
variable {w w' : World} {ok ok' : Nat → Prop} {gs gs' : List Gh} {p k j : Nat} {gk g' : Gh}

structure RowIn (p k j : Nat) (gs gs' : List Gh) : Prop where
  other : ∀ (i : Nat) g, i ≠ p → gs[i]? = some g → gs'[i]? = some g
  rows : ∀ g, gs[p]? = some g → ∃ g', gs'[p]? = some g' ∧ ∀ (i : Nat) v, g.rows[i]? = some v → g'.rows[i]? = some v
  row : ∀ gk, gs[k]? = some gk → ∃ g', gs'[p]? = some g' ∧ g'.rows[j]? = some gk.v

theorem RV.rin1 (kp : Keeps ok ok' w w') (s : RowIn p k j gs gs') {v : Value} {a : AV} (hv : RV w ok gs v a) : RV w' ok' gs' v (a.rin1 k p j) := by
  cases hv with
  | any v => exact .any v
  | val v => exact .val v
  | ints h => exact .ints (h.mono kp)
  | intss h => exact .intss (h.mono kp)
  | @ro v r h => exact .ro (r.up kp h)
  | iptr h h1 h2 => exact .iptr (h.mono kp) h1 h2
  | iiptr h h1 h2 => exact .iiptr (h.mono kp) h1 h2
  | @own i g h1 =>
    simp only [AV.rin1]; split
    · subst_vars
      obtain ⟨g', a1, a2⟩ := s.row _ h1
      exact .orow a1 a2
    · split
      · exact .any _
      · exact .own (s.other _ _ ‹_› h1)
  | optr h1 =>
    simp only [AV.rin1]; split
    · exact .any _
    · exact .optr (s.other _ _ ‹_› h1)
  | osub h1 h2 h3 h4 =>
    simp only [AV.rin1]; split
    · exact .any _
    · exact .osub (s.other _ _ ‹_› h1) h2 h3 h4
  | @orow h i g v h1 h2 =>
    by_cases e : h = p
    · subst e
      obtain ⟨g', a1, a2⟩ := s.rows _ h1
      exact .orow a1 (a2 _ _ h2)
    · exact .orow (s.other _ _ e h1) h2
  | @orptr h i n blk m c g h1 h2 =>
    by_cases e : h = p
    · subst e
      obtain ⟨g', a1, a2⟩ := s.rows _ h1
      exact .orptr a1 (a2 _ _ h2)
    · exact .orptr (s.other _ _ e h1) h2
  | agg _ _ _ => exact .any _
  | tup _ _ => exact .any _

theorem RV.rin (kp : Keeps ok ok' w w') (s : RowIn p k j gs gs') {v : Value} {a : AV} (hv : RV w ok gs v a) : RV w' ok' gs' v (a.rin k p j) := by
  cases hv with
  | any v => exact .any v
  | val v => exact .val v
  | ints h => exact .ints (h.mono kp)
  | intss h => exact .intss (h.mono kp)
  | @ro v r h => exact .ro (r.up kp h)
  | iptr h h1 h2 => exact .iptr (h.mono kp) h1 h2
  | iiptr h h1 h2 => exact .iiptr (h.mono kp) h1 h2
  | @own i g h1 => exact RV.rin1 kp s (.own h1)
  | optr h1 => exact RV.rin1 kp s (.optr h1)
  | osub h1 h2 h3 h4 => exact RV.rin1 kp s (.osub h1 h2 h3 h4)
  | orow h1 h2 => exact RV.rin1 kp s (.orow h1 h2)
  | orptr h1 h2 => exact RV.rin1 kp s (.orptr h1 h2)
  | agg h1 h3 h2 => exact .agg (by simpa using h1) h3 fun i => by rw [getD_map_f _ rfl]; exact (h2 i).rin1 kp s
  | tup h1 h2 => exact .tup (by simpa using h1) fun i => by rw [getD_map_f _ rfl]; exact (h2 i).rin1 kp s
end

section
variable {P : Program} {env : Env} {os : List AO} {d : Option Tmp} {ty : TypeId} {pos : String} {af : Array Edge} {g : Option (Nat × Bool)}

/-- An empty slice of rows. -/
theorem l_bsr0 {t e e2 : TypeId} {bytes : Nat} [ht : TSlice P t e] [he : TElem P e (.slice none 0 0) bytes] [TSlice P e e2] : LOp P ⟨d, .buildSlice t 0 #[], ty, pos, af, g⟩ env os (.own os.length) env (os ++ [.sls e e2 []]) := by
  refine l_new fun base w gs tm hr => ?_
  obtain ⟨ii, hi, hs, hz, hby⟩ := he.info
  refine ⟨w.alloc (.cells #[] e), ⟨.slice (some ⟨w.heap.size, 0, none⟩) 0 0, w.heap.size, [w.heap.size], []⟩, ?_, below_alloc w _, fun b hb => by simp at hb; simp [hb], fun ok gs' => ?_⟩
  · simp [execOp, Instr.buildSlice, run_underlying ht.und, sizeOf, typeInfo, hi, Instr.fill, newRow, ar0]
  · refine ⟨[], [], [w.heap.size], ⟨by simp, .inr ⟨w.heap.size, 0, _, rfl, hr.hb, heap_alloc_new w _, Nat.le_refl _, by simp [maxLen], by simp, by simp⟩⟩, rfl, rfl, rfl, fun i u hu => (by cases hu), .inr ⟨rfl, rfl⟩, by simp, by simp⟩

/-- A literal slice of one row: a block whose cell names the row. -/
theorem l_bsr1 {t e : TypeId} {bytes : Nat} [ht : TSlice P t e] [he : TElem P e (.slice none 0 0) bytes] {x : Operand} {k : Nat} {e3 : TypeId} {ys : List Int} (hx : AV.ev env x = .own k) (hk : os[k]? = some (.sli e3 ys)) :
    LOp P ⟨d, .buildSlice t 1 #[(0, x)], ty, pos, af, g⟩ env os (.osub os.length 0 1) env (os ++ [.bx e [.own k]]) := by
  intro base w gs tm hr
  have hxv := hr.ev x
  rw [hx] at hxv
  generalize hv : Act.eval ⟨tm, []⟩ x = v at hxv
  cases hxv with
  | @own _ gk hgk =>
    obtain ⟨b1, b2, b3⟩ := hr.ho _ _ _ hgk hk
    obtain ⟨ua, uc, eu⟩ := ownsRow_slice b1
    obtain ⟨ii, hi, hs, hz, hby⟩ := he.info
    have hbel := below_alloc w (.cells [gk.v].toArray e)
    have hlt : w.heap.size < (w.alloc (.cells [gk.v].toArray e)).heap.size := by simp
    have hno : AO.bx e [.own k] ≠ .dead → ∀ b, b ∈ [w.heap.size] → w.heap.size ≤ b ∧ b < (w.alloc (.cells [gk.v].toArray e)).heap.size := fun _ b hb => by simp at hb; omega
    let gn : Gh := ⟨.pointer (some ⟨w.heap.size, 0, none⟩), w.heap.size, [w.heap.size], []⟩
    have hgs : ∀ (i : Nat) g', gs[i]? = some g' → (gs ++ [gn])[i]? = some g' := fun i g' e => by
      rw [List.getElem?_append_left (List.getElem?_eq_some_iff.1 e).1]; exact e
    refine ⟨.slice (some ⟨w.heap.size, 0, none⟩) 1 1, _, gs ++ [gn], .inl ?_, hr.new hbel _ _ hno ?_, ?_, hbel.mono hr.hb⟩
    · simp [execOp, Instr.buildSlice, run_underlying ht.und, sizeOf, typeInfo, zeroValue, hi, hs, hz, Instr.fill, newRow, hv, eu, Value.cells, ar1]
    · refine ⟨[gk.v], heap_alloc_new w _, hr.hb, rfl, rfl, rfl, ?_, fun i => ?_⟩
      · intro c hc; simp at hc; subst hc; rw [eu]; rfl
      · match i with
        | 0 => exact .own (hgs _ _ hgk)
        | i + 1 => exact .any _
    · have := RV.osub (w := w.alloc (.cells [gk.v].toArray e)) (ok := okOf (gs ++ [gn]) (os ++ [.bx e [.own k]])) (off := 0) (len := 1) (cap := 1) (p := some ⟨w.heap.size, 0, none⟩) (len_new (gs := gs) (g := gn)) (fun _ => rfl) (Nat.le_refl _) (by simp [maxLen])
      rw [hr.hl] at this
      exact this

theorem nodup_rows {m m' fl c : List Nat} (h : (m ++ fl).Nodup) (hm : m'.Nodup) (hmm : ∀ b, b ∈ m' → b ∉ fl ∧ b ∉ c) (hc : c.Nodup) (hd : ∀ b, b ∈ c → b ∉ m ++ fl) : (m' ++ (fl ++ c)).Nodup := by
  simp only [List.nodup_append, List.mem_append] at *
  obtain ⟨h1, h2, h3⟩ := h
  refine ⟨hm, ⟨h2, hc, ?_⟩, ?_⟩
  · intro a ha b hb e
    subst e
    exact hd a hb (.inr ha)
  · intro a ha b hb e
    subst e
    rcases hb with hb | hb
    · exact (hmm a ha).1 hb
    · exact (hmm a ha).2 hb

set_option maxHeartbeats 1000000 in
/-- One row is appended. -/
theorem l_append_row {t e e3 : TypeId} {bytes : Nat} [ht : TSlice P t e] [he : TElem P e (.slice none 0 0) bytes] {x y : Operand} {h m k : Nat} {e' e2 T : TypeId} {xss : List (List Int)} {ys : List Int}
    (hx : AV.ev env x = .own h) (hs : os[h]? = some (.sls e' e2 xss)) (hee : e' = e) (hy : AV.ev env y = .osub m 0 1) (hm : os[m]? = some (.bx T [.own k])) (hk : os[k]? = some (.sli e3 ys)) (he3 : e3 = e2)
    (hb : (xss.length + 1) * bytes ≤ 140737488355328) :
    LOp P ⟨d, .call { callee := .builtin .append, args := #[x, y], argTypes := #[t, t] }, ty, pos, af, g⟩ env os (.own h) (env.mp (AV.rin k h xss.length)) (((os.map (AO.via (AV.rin k h xss.length) h)).set h (.sls e e2 (xss ++ [ys]))).set k .dead) := by
  subst hee
  subst he3
  intro base w gs tm hr
  have hxv := hr.ev x
  rw [hx] at hxv
  have hyv := hr.ev y
  rw [hy] at hyv
  generalize hv : Act.eval ⟨tm, []⟩ x = v at hxv
  generalize hu : Act.eval ⟨tm, []⟩ y = u at hyv
  have hne : h ≠ k := fun e => by subst e; rw [hs] at hk; cases hk
  cases hxv with
  | @own _ gh hg =>
  cases hyv with
  | @osub _ _ _ cap pa gm hgm hp hc hcm =>
    have epa := hp (by omega)
    subst epa
    obtain ⟨cs, m1, m2, m3, m4, m5, m6, m7⟩ := hr.ho _ _ _ hgm hm
    have hcs := m7 0
    simp only [List.getD_cons_zero] at hcs
    obtain ⟨c0, rfl⟩ : ∃ c0, cs = [c0] := by
      match cs, m5 with
      | [c0], _ => exact ⟨c0, rfl⟩
    simp only [List.getD_cons_zero] at hcs
    cases hcs with
    | @own _ gk hgk =>
    obtain ⟨vs, bs, mb, a1, a2, a3, a4, a5, a6, a7, a8⟩ := hr.ho _ _ _ hg hs
    obtain ⟨b1, b2, b3⟩ := hr.ho _ _ _ hgk hk
    obtain ⟨ua, uc, eu⟩ := ownsRow_slice b1
    obtain ⟨ii, hi, hsz, hz, hby⟩ := he.info
    have h64 : vs.length + 1 ≤ maxLen := by
      have := he.pos
      have : xss.length + 1 ≤ (xss.length + 1) * bytes := Nat.le_mul_of_pos_right _ this
      simp only [maxLen]; omega
    obtain ⟨v', w', r1, r2, r3, r4, r5⟩ := run_append_own_at (P := P) w base t ty e' ii _ 1 bytes ht.und hi hz hsz hby rfl (by omega) gh.v vs.length vs a1 ⟨gm.b, 0, none⟩ 1 cap [gk.v] (by simp)
      (fun j u hj => by
        have hj0 : j = 0 := by have := (List.getElem?_eq_some_iff.1 hj).1; simp at this; exact this
        subst hj0
        rw [add_none, cell_of_row w _ _ _ _ (0, 0) m1]
        simpa using hj)
      (fun u hu => by simp at hu; subst hu; rw [eu]; rfl) h64 (by rw [a2]; exact hb) hr.hb
    have emb : gh.v.ownBlock.toList = mb := by
      rcases a6 with ⟨c1, c2⟩ | ⟨c1, c2⟩
      · rw [c1, c2]; rfl
      · rw [c1, c2]; rfl
    have hgb : ∀ b, b ∉ gh.bl → some b ≠ gh.v.ownBlock := fun b hb e => hb (by rw [a7, ← emb, ← e]; simp)
    have hnotmb : ∀ b, b ∉ mb → some b ≠ gh.v.ownBlock := fun b hb e => hb (by rw [← emb, ← e]; simp)
    have hdis : ∀ c, c ∈ gk.bl → c ∉ gh.bl := hr.hd k h gk gh _ _ (fun e => hne e.symm) hgk hg hk hs (by simp) (by simp)
    have hlt : ∀ b, v'.ownBlock = some b → b < w'.heap.size := by
      intro b hb
      rcases r2.2 with ⟨e1, _⟩ | ⟨gg, cc, cur, e1, _, hgg, _⟩
      · rw [e1] at hb; cases hb
      · rw [e1] at hb; cases hb; exact (Array.getElem?_eq_some_iff.1 hgg).1
    have hhg : h < gs.length := (List.getElem?_eq_some_iff.1 hg).1
    have hbl0 : ∀ b, b ∈ gh.bl → b < w.heap.size := fun b hb => (hr.hn _ _ _ hg hs (by simp) b hb).2
    have hblk : ∀ b, b ∈ gk.bl → b < w.heap.size := fun b hb => (hr.hn _ _ _ hgk hk (by simp) b hb).2
    let g' : Gh := ⟨v', v'.ownBlock.getD 0, v'.ownBlock.toList ++ (bs ++ [gk.bl]).flatten, vs ++ [gk.v]⟩
    have efl : (bs ++ [gk.bl]).flatten = bs.flatten ++ gk.bl := by simp
    have hv'b : ∀ b, b ∈ v'.ownBlock.toList → v'.ownBlock = some b := fun b hb => by
      cases hvb : v'.ownBlock with
      | none => rw [hvb] at hb; simp at hb
      | some c => rw [hvb] at hb; simp at hb; rw [hb]
    have sv : RowIn h k xss.length gs (gs.set h g') := by
      refine ⟨fun j z hj hz => ?_, fun z hz => ⟨g', by simp [hhg], fun i u hiu => ?_⟩, fun z hz => ⟨g', by simp [hhg], ?_⟩⟩
      · rw [List.getElem?_set, if_neg (fun e => hj e.symm)]; exact hz
      · rw [hg] at hz; cases hz
        rw [a4] at hiu
        show (vs ++ [gk.v])[i]? = some u
        rw [List.getElem?_append_left (List.getElem?_eq_some_iff.1 hiu).1]; exact hiu
      · rw [hgk] at hz; cases hz
        show (vs ++ [gk.v])[xss.length]? = some gk.v
        rw [← a2]; simp
    -- a row's block is none of the outer one's
    have rowblk : ∀ (j : Nat) u, vs[j]? = some u → ∀ c, u.ownBlock = some c → c ∈ bs.flatten := by
      intro j u hj c hc
      have hjb : j < bs.length := by
        have := (List.getElem?_eq_some_iff.1 hj).1
        omega
      exact List.mem_flatten.2 ⟨bs.getD j [], by rw [List.getD_eq_getElem?_getD, List.getElem?_eq_getElem hjb]; simp, by rw [← (a5 j u hj).2.2, hc]; simp⟩
    have a8' : (mb ++ bs.flatten).Nodup := by rw [← a7]; exact a8
    have mbfl : ∀ b, b ∈ mb → b ∉ bs.flatten := fun b hb hb2 => (List.nodup_append.1 a8').2.2 b hb b hb2 rfl
    have keep : ∀ c, c < w.heap.size → c ∉ mb → w'.heap[c]? = w.heap[c]? := fun c hc hcm => r3.block c hc (hnotmb c hcm)
    refine ⟨v', w', gs.set h g', .inl ?_, hr.absorb hg hs trivial hgk hk trivial hne g' _ (AV.rin k h xss.length) rfl (fun b hb hn => r3.block b hb (hgb b hn)) r3.size ?_ (fun kp hv => hv.rin kp sv) ?_, ?_, ?_⟩
    · have r1' := r1
      simp only [execOp, resolve, invoke, builtin, Sem.run_bind, Sem.run_pure, Result.andThen_ok, List.map_toArray, List.map_cons, List.map_nil, hv, hu, r1']
    · intro b hb
      rcases List.mem_append.1 hb with hb | hb
      · have hb' := hv'b b hb
        refine ⟨?_, hlt b hb'⟩
        rcases r5 with r5 | r5
        · left
          rw [hb'] at r5
          exact Classical.byContradiction fun hn => hgb b hn r5
        · right; right
          rw [hb'] at r5; cases r5; exact Nat.le_refl _
      · rw [efl] at hb
        rcases List.mem_append.1 hb with hb | hb
        · have : b ∈ gh.bl := by rw [a7]; exact List.mem_append.2 (.inr hb)
          exact ⟨.inl this, Nat.lt_of_lt_of_le (hbl0 b this) r3.size⟩
        · exact ⟨.inr (.inl hb), Nat.lt_of_lt_of_le (hblk b hb) r3.size⟩
    · intro kp
      refine ⟨vs ++ [gk.v], bs ++ [gk.bl], v'.ownBlock.toList, ?_, by simp [a2], by simp [a3], rfl, fun j u hj => ?_, ?_, rfl, ?_⟩
      · simpa using r2
      · rw [List.getElem?_append] at hj
        split at hj
        · rename_i hjl
          obtain ⟨q1, q2, q3⟩ := a5 j u hj
          have g1 : (xss ++ [ys]).getD j [] = xss.getD j [] := by
            simp only [List.getD_eq_getElem?_getD]; rw [List.getElem?_append_left (by omega)]
          have g2 : (bs ++ [gk.bl]).getD j [] = bs.getD j [] := by
            simp only [List.getD_eq_getElem?_getD]; rw [List.getElem?_append_left (by omega)]
          rw [g1, g2]
          refine ⟨ownsRow_of_block q1 fun c hc => ?_, q2, q3⟩
          have hcf := rowblk j u hj c hc
          exact keep c (hbl0 c (by rw [a7]; exact List.mem_append.2 (.inr hcf))) fun hm => mbfl c hm hcf
        · rename_i hjl
          have hj0 : j = vs.length := by
            have := (List.getElem?_eq_some_iff.1 hj).1
            simp at this; omega
          subst hj0
          simp at hj
          subst hj
          have g1 : (xss ++ [ys]).getD vs.length [] = ys := by rw [a2]; simp [List.getD_eq_getElem?_getD]
          have g2 : (bs ++ [gk.bl]).getD vs.length [] = gk.bl := by rw [a2, ← a3]; simp [List.getD_eq_getElem?_getD]
          rw [g1, g2]
          refine ⟨ownsRow_of_block b1 fun c hc => ?_, b2, b3.list⟩
          have hcm := b3.mem hc
          exact keep c (hblk c hcm) fun hm => hdis c hcm (by rw [a7]; exact List.mem_append.2 (.inl hm))
      · show (v'.ownBlock = none ∧ v'.ownBlock.toList = []) ∨ (v'.ownBlock = some (v'.ownBlock.getD 0) ∧ v'.ownBlock.toList = [v'.ownBlock.getD 0])
        cases v'.ownBlock with
        | none => exact .inl ⟨rfl, rfl⟩
        | some b => exact .inr ⟨rfl, rfl⟩
      · show (v'.ownBlock.toList ++ (bs ++ [gk.bl]).flatten).Nodup
        rw [efl]
        refine nodup_rows a8' ?_ ?_ b3.nodup (fun b hb => by rw [← a7]; exact hdis b hb)
        · cases v'.ownBlock <;> simp
        · intro b hb
          have hb' := hv'b b hb
          rcases r5 with r5 | r5
          · rw [hb'] at r5
            have hm : b ∈ mb := by rw [← emb, ← r5]; simp
            exact ⟨mbfl b hm, fun hc => hdis b hc (by rw [a7]; exact List.mem_append.2 (.inl hm))⟩
          · rw [hb'] at r5
            cases r5
            refine ⟨fun hc => ?_, fun hc => ?_⟩
            · have := hbl0 w.heap.size (by rw [a7]; exact List.mem_append.2 (.inr hc)); omega
            · have := hblk w.heap.size hc; omega
    · exact RV.own (g := g') (by simp [hhg])
    · refine ⟨r3.os, r3.tape, r3.output, r3.size, fun b hb => r3.block b (by have := hr.hb; omega) (hgb b fun hm => ?_)⟩
      have := (hr.hn _ _ _ hg hs (by simp) b hm).1
      omega
end

section
variable {P : Program} {env : Env} {os : List AO} {d : Tmp} {ty : TypeId} {pos : String} {af : Array Edge} {l rest : List Oper} {K : APost}
theorem w_bsr0 {t e e2 : TypeId} {bytes : Nat} [TSlice P t e] [TElem P e (.slice none 0 0) bytes] [TSlice P e e2] {m : Nat} (hm : os.length = m) (h' : AOps P .seq l rest K (env.up d (.own m)) (os ++ [.sls e e2 []])) :
    AOps P .seq l (⟨some d, .buildSlice t 0 #[], ty, pos, af, none⟩ :: rest) K env os := AOps.lo (hm ▸ l_bsr0) h'
theorem w_bsr1 {t e e3 : TypeId} {bytes : Nat} [TSlice P t e] [TElem P e (.slice none 0 0) bytes] {x : Operand} {k m : Nat} {ys : List Int} (hx : evo env x = some (.own k)) (hk : os[k]? = some (.sli e3 ys)) (hm : os.length = m)
    (h' : AOps P .seq l rest K (env.up d (.osub m 0 1)) (os ++ [.bx e [.own k]])) :
    AOps P .seq l (⟨some d, .buildSlice t 1 #[(0, x)], ty, pos, af, none⟩ :: rest) K env os := AOps.lo (hm ▸ l_bsr1 (ev_of hx) hk) h'
theorem w_appr {t e e3 : TypeId} {bytes : Nat} [TSlice P t e] [TElem P e (.slice none 0 0) bytes] {x y : Operand} {h m k : Nat} {e' e2 T : TypeId} {xss : List (List Int)} {ys : List Int}
    (hx : evo env x = some (.own h)) (hs : os[h]? = some (.sls e' e2 xss)) (hee : e' = e) (hy : evo env y = some (.osub m 0 1)) (hm : os[m]? = some (.bx T [.own k])) (hk : os[k]? = some (.sli e3 ys)) (he3 : e3 = e2)
    (hb : (xss.length + 1) * bytes ≤ 140737488355328) (h' : AOps P .seq l rest K (Env.up (env.mp (AV.rin k h xss.length)) d (.own h)) (((os.map (AO.via (AV.rin k h xss.length) h)).set h (.sls e e2 (xss ++ [ys]))).set k .dead)) :
    AOps P .seq l (⟨some d, .call { callee := .builtin .append, args := #[x, y], argTypes := #[t, t] }, ty, pos, af, none⟩ :: rest) K env os :=
  AOps.lo (l_append_row (ev_of hx) hs hee (ev_of hy) hm hk he3 hb) h'
end
end Go.Proofs.YtfgnccoaebkckaaDoor
