/-
  Parts of the proof, one behind the other: contracts of functions and plain laws. No condition.
-/
import Derived.Test.YtbalbiliejjnoaaPt3GraphDetermi
/-
  A row of own rows that grows in its place. No condition.
-/
namespace Go.Proofs.Ytbalbiliejjnoaa
open Go Go.RowKit

theorem ownsRow_lower {w : World} {base base' : Nat} {e : TypeId} {size : Nat} {v : Value} {n : Nat} {xs : List Value} (h : w.ownsRow base e size v n xs) (hb : base' ≤ base) : w.ownsRow base' e size v n xs := by
  obtain ⟨h1, h2⟩ := h
  refine ⟨h1, ?_⟩
  rcases h2 with h2 | ⟨g, cap, cur, hv, hb1, r⟩
  · exact .inl h2
  · exact .inr ⟨g, cap, cur, hv, Nat.le_trans hb hb1, r⟩
/-- Own rows, of which row i has grown and is not yet back in its cell. -/
def PendP (e e2 : TypeId) (xss : List (List Int)) (i : Nat) (base : Nat) (w : World) (g : Gh) : Prop :=
  ∃ (cs : List Value) (bs : List (List Nat)) (mb : List Nat), w.ownsRow base e 1 g.v cs.length cs ∧ cs.length = xss.length ∧ bs.length = xss.length ∧ g.rows.length = xss.length ∧ (∀ j : Nat, j ≠ i → g.rows[j]? = cs[j]?) ∧
    (∀ (j : Nat) u, g.rows[j]? = some u → w.ownsRow base e2 1 u (xss.getD j []).length ((xss.getD j []).map (Value.int .i64)) ∧ (∀ x ∈ xss.getD j [], inI x) ∧ u.ownBlock.toList = bs.getD j []) ∧
    ((g.v.ownBlock = none ∧ mb = []) ∨ (g.v.ownBlock = some g.b ∧ mb = [g.b])) ∧ g.bl = mb ++ bs.flatten ∧ g.bl.Nodup
theorem mem_main {g : Gh} {mb : List Nat} (h : (g.v.ownBlock = none ∧ mb = []) ∨ (g.v.ownBlock = some g.b ∧ mb = [g.b])) {k : Nat} (hk : g.v.ownBlock = some k) : k ∈ mb := by
  rcases h with ⟨h1, _⟩ | ⟨h1, h2⟩
  · rw [h1] at hk; cases hk
  · rw [h1] at hk; cases hk; rw [h2]; simp
theorem mem_row {bs : List (List Nat)} {j : Nat} {u : Value} (hj : j < bs.length) (h : u.ownBlock.toList = bs.getD j []) {k : Nat} (hk : u.ownBlock = some k) : k ∈ bs.flatten := by
  refine List.mem_flatten.2 ⟨bs.getD j [], ?_, by rw [← h, hk]; simp⟩
  rw [List.getD_eq_getElem?_getD, List.getElem?_eq_getElem hj]; exact List.getElem_mem _
def pendOb (e e2 : TypeId) (xss : List (List Int)) (i : Nat) : Ob where
  p := PendP e e2 xss i
  up {base w w' g} hb h := by
    obtain ⟨cs, bs, mb, a1, a2, a3, a4, a5, a6, a7, a8, a9⟩ := h
    refine ⟨cs, bs, mb, ownsRow_of_block a1 fun k hk => hb k (by rw [a8]; exact List.mem_append.2 (.inl (mem_main a7 hk))), a2, a3, a4, a5, fun j u hu => ?_, a7, a8, a9⟩
    obtain ⟨r1, r2, r3⟩ := a6 j u hu
    have hj := (List.getElem?_eq_some_iff.1 hu).1
    exact ⟨ownsRow_of_block r1 fun k hk => hb k (by rw [a8]; exact List.mem_append.2 (.inr (mem_row (by omega) r3 hk))), r2, r3⟩
  lower hl h := by
    obtain ⟨cs, bs, mb, a1, a2, a3, a4, a5, a6, a7, a8, a9⟩ := h
    exact ⟨cs, bs, mb, ownsRow_lower a1 hl, a2, a3, a4, a5, fun j u hu => ⟨ownsRow_lower (a6 j u hu).1 hl, (a6 j u hu).2⟩, a7, a8, a9⟩
  one h := by
    obtain ⟨cs, bs, mb, a1, _⟩ := h
    obtain ⟨a, c, e⟩ := ownsRow_slice a1
    rw [e]; exact ⟨rfl, rfl⟩

theorem nodup_setrow {mb : List Nat} {bs : List (List Nat)} {i : Nat} {c : List Nat} (h : (mb ++ bs.flatten).Nodup) (hi : i < bs.length) (hc : c.Nodup) (hn : ∀ x ∈ c, x ∈ bs.getD i [] ∨ x ∉ mb ++ bs.flatten) : (mb ++ (bs.set i c).flatten).Nodup := by
  rw [flatten_set c hi]
  rw [flatten_at hi] at h hn
  generalize (bs.take i).flatten = A at *
  generalize (bs.drop (i + 1)).flatten = B at *
  generalize bs.getD i [] = R at *
  simp only [List.nodup_append, List.mem_append] at h hn ⊢
  obtain ⟨h1, ⟨h2, ⟨h3, h4, h5⟩, h6⟩, h7⟩ := h
  refine ⟨h1, ⟨h2, ⟨hc, h4, fun a ha b hb e => ?_⟩, fun a ha b hb e => ?_⟩, fun a ha b hb e => ?_⟩
  · subst e
    rcases hn a ha with hr | hr
    · exact h5 a hr a hb rfl
    · exact hr (.inr (.inr (.inr hb)))
  · subst e
    rcases hb with hb | hb
    · rcases hn a hb with hr | hr
      · exact h6 a ha a (.inl hr) rfl
      · exact hr (.inr (.inl ha))
    · exact h6 a ha a (.inr hb) rfl
  · subst e
    rcases hb with hb | hb | hb
    · exact h7 a ha a (.inl hb) rfl
    · rcases hn a hb with hr | hr
      · exact h7 a ha a (.inr (.inl hr)) rfl
      · exact hr (.inl ha)
    · exact h7 a ha a (.inr (.inr hb)) rfl
theorem getD_set_if (xss : List (List Int)) (i j : Nat) (ys : List Int) (hi : i < xss.length) : (xss.set i ys).getD j [] = if j = i then ys else xss.getD j [] := by
  simp only [List.getD_eq_getElem?_getD, List.getElem?_set]
  by_cases e : i = j
  · subst e; simp [hi]
  · have e' : ¬ j = i := fun h => e h.symm
    simp [e, e']
theorem getD_set_ifn (bs : List (List Nat)) (i j : Nat) (c : List Nat) (hi : i < bs.length) : (bs.set i c).getD j [] = if j = i then c else bs.getD j [] := by
  simp only [List.getD_eq_getElem?_getD, List.getElem?_set]
  by_cases e : i = j
  · subst e; simp [hi]
  · have e' : ¬ j = i := fun h => e h.symm
    simp [e, e']

section
variable {P : Program} {env : Env} {os : List AO} {d : Option Tmp} {ty : TypeId} {pos : String} {af : Array Edge} {g : Option (Nat × Bool)}
set_option maxHeartbeats 2000000 in
/-- Numbers are appended to a row. -/
theorem l_append_orow {t2 e2' : TypeId} {bytes : Nat} [ht : TSlice P t2 e2'] [he : TElem P e2' (.int .i64 0) bytes] {x y : Operand} {h i k : Nat} {e e2 e3 : TypeId} {xss : List (List Int)} {ys : List Int} (hx : AV.ev env x = .orow h i) (hs : os[h]? = some (.sls e e2 xss)) (hi : i < xss.length) (he2 : e2 = e2')
    (hy : AV.ev env y = .own k) (hk : os[k]? = some (.sli e3 ys)) (hhk : (h == k) = false) (hp : 0 < ys.length) (hb : ((xss.getD i []).length + ys.length) * bytes ≤ 140737488355328) :
    LOp P ⟨d, .call { callee := .builtin .append, args := #[x, y], argTypes := #[t2, t2] }, ty, pos, af, g⟩ env os (.orow h i) (env.mp (AV.noRow h)) (((os.map (AO.via (AV.noRow h) h)).set h (.ob (pendOb e e2 (xss.set i (xss.getD i [] ++ ys)) i))).set k .dead) := by
  subst he2
  have hne : h ≠ k := by simpa using hhk
  intro base w gs tm hr
  have hxv := hr.ev x
  have hyv := hr.ev y
  rw [hx] at hxv
  rw [hy] at hyv
  generalize hv : Act.eval ⟨tm, []⟩ x = v at hxv
  generalize hu : Act.eval ⟨tm, []⟩ y = u at hyv
  cases hxv with
  | @orow _ _ gh _ hg hrow =>
  cases hyv with
  | @own _ gk hgk =>
    obtain ⟨vs, bs, mb, a1, a2, a3, a4, a5, a6, a7, a8⟩ := hr.ho _ _ _ hg hs
    obtain ⟨b1, b2, b3⟩ := hr.ho _ _ _ hgk hk
    have hrv : vs[i]? = some v := by rw [← a4]; exact hrow
    obtain ⟨r1, r2, r3⟩ := a5 i v hrv
    have hiv : i < vs.length := by omega
    have hib : i < bs.length := by omega
    obtain ⟨bk, ck, q1, q2, q3, q4⟩ := own_slice b1 (i := 0) (by simpa using hp)
    have hcells : ∀ (j : Nat) z, (ys.map (Value.int .i64))[j]? = some z → w.cell? ((⟨bk, 0, none⟩ : Addr).add j) = some z := by
      intro j z hz
      have hj := (List.getElem?_eq_some_iff.1 hz).1
      obtain ⟨bk', ck', p1, p2, p3, _⟩ := own_slice b1 (i := j) hj
      have eb : bk' = bk := by rw [q2] at p2; exact (Option.some.inj p2).symm
      subst eb
      rw [add_none, Nat.zero_add, p3]; exact hz
    obtain ⟨ii, hi', hsz, hz, hby⟩ := he.info
    have hml : (xss.getD i []).length + ys.length ≤ maxLen := by
      have hb0 := he.pos
      have : (xss.getD i []).length + ys.length ≤ ((xss.getD i []).length + ys.length) * bytes := Nat.le_mul_of_pos_right _ hb0
      simp only [maxLen]; omega
    obtain ⟨v', w', s1, s2, s3, _, s5⟩ := run_append_own_at (P := P) w base t2 ty e2 ii _ 1 bytes ht.und hi' hz hsz hby rfl (by omega) v _ _ r1 ⟨bk, 0, none⟩ ys.length ck (ys.map (Value.int .i64)) (by simp) hcells
      (fun z hz => by obtain ⟨n, _, rfl⟩ := List.mem_map.1 hz; rfl) hml hb hr.hb
    have hsub : ∀ b, v.ownBlock = some b → b ∈ bs.flatten := fun b hb => mem_row hib r3 hb
    have hgl : ∀ b, b ∈ gh.bl → b < w.heap.size := fun b hb => (hr.hn _ _ _ hg hs (by simp) b hb).2
    have hother : ∀ c, c < w.heap.size → c ∉ gh.bl → w'.heap[c]? = w.heap[c]? := fun c hc hcb => s3.block c hc fun e => hcb (by rw [a7]; exact List.mem_append.2 (.inr (hsub c e.symm)))
    have hvo : ∀ b, v'.ownBlock = some b → (v.ownBlock = some b ∨ b = w.heap.size) ∧ b < w'.heap.size := fun b hb => by
      refine ⟨?_, ?_⟩
      · rcases s5 with s5 | s5
        · left; rw [← s5]; exact hb
        · right; rw [s5] at hb; exact (Option.some.inj hb).symm
      · rcases s2.2 with ⟨e1, _⟩ | ⟨gg, cc, cur, e1, _, hgg, _⟩
        · rw [e1] at hb; cases hb
        · rw [e1] at hb; cases hb; exact (Array.getElem?_eq_some_iff.1 hgg).1
    let g' : Gh := ⟨gh.v, gh.b, mb ++ (bs.set i v'.ownBlock.toList).flatten, gh.rows.set i v'⟩
    have hhg : h < gs.length := (List.getElem?_eq_some_iff.1 hg).1
    have sv : SameV h gs (gs.set h g') := by
      refine ⟨fun j z hj hz => ?_, fun z hz => ⟨g', by simp [hhg], ?_⟩⟩
      · rw [List.getElem?_set, if_neg (fun e => hj e.symm)]; exact hz
      · rw [hg] at hz; cases hz; exact ⟨rfl, rfl⟩
    have hmem : ∀ c, c ∈ g'.bl → c ∈ gh.bl ∨ c = w.heap.size ∧ c < w'.heap.size := by
      intro c hc
      rcases List.mem_append.1 hc with hc | hc
      · left; rw [a7]; exact List.mem_append.2 (.inl hc)
      · rw [flatten_set _ hib] at hc
        rcases List.mem_append.1 hc with hc | hc
        · left; rw [a7, flatten_at hib]; simp [hc]
        · rcases List.mem_append.1 hc with hc | hc
          · have hc' : v'.ownBlock = some c := by
              cases hvb : v'.ownBlock with
              | none => rw [hvb] at hc; simp at hc
              | some z => rw [hvb] at hc; simp at hc; rw [hc]
            obtain ⟨h1, h2⟩ := hvo c hc'
            rcases h1 with h1 | h1
            · left; rw [a7]; exact List.mem_append.2 (.inr (hsub c h1))
            · exact .inr ⟨h1, h2⟩
          · left; rw [a7, flatten_at hib]; simp [hc]
    refine ⟨v', w', gs.set h g', .inl ?_, hr.absorb hg hs trivial hgk hk trivial hne g' _ (AV.noRow h) rfl hother s3.size ?_ (fun kp hv => hv.noRow kp sv) ?_, ?_, ?_⟩
    · simp only [execOp, resolve, invoke, builtin, Sem.run_bind, Sem.run_pure, Result.andThen_ok, List.map_toArray, List.map_cons, List.map_nil, hv, hu, q1, s1]
    · intro c hc
      rcases hmem c hc with h1 | ⟨h1, h2⟩
      · exact ⟨.inl h1, Nat.lt_of_lt_of_le (hgl c h1) s3.size⟩
      · exact ⟨.inr (.inr (Nat.le_of_eq h1.symm)), h2⟩
    · intro kp
      have a8' := a8
      rw [a7] at a8'
      have hnot : ∀ c, c < w.heap.size → v.ownBlock ≠ some c → w'.heap[c]? = w.heap[c]? := fun c hc hn => s3.block c hc fun e => hn e.symm
      refine ⟨vs, bs.set i v'.ownBlock.toList, mb, ?_, by simp [a2], by simp [a3], by simp [g', a4, a2], fun j hj => ?_, fun j z hz => ?_, a6, rfl, ?_⟩
      · refine ownsRow_of_block a1 fun c hc => hnot c (hgl c (by rw [a7]; exact List.mem_append.2 (.inl (mem_main a6 hc)))) fun e => ?_
        exact (List.nodup_append.1 a8').2.2 c (mem_main a6 hc) c (hsub c e) rfl
      · show (gh.rows.set i v')[j]? = _
        rw [List.getElem?_set, if_neg (fun e => hj e.symm), a4]
      · have hz' : (gh.rows.set i v')[j]? = some z := hz
        rw [List.getElem?_set] at hz'
        rw [getD_set_if _ _ _ _ hi, getD_set_ifn _ _ _ _ hib]
        by_cases e : j = i
        · subst e
          rw [if_pos rfl, if_pos (by rw [a4]; exact hiv)] at hz'
          cases hz'
          rw [if_pos rfl, if_pos rfl]
          refine ⟨by rw [List.length_append, List.map_append]; exact s2, fun n hn => ?_, rfl⟩
          rcases List.mem_append.1 hn with hn | hn
          · exact r2 n hn
          · exact b2 n hn
        · rw [if_neg (fun e' => e e'.symm), a4] at hz'
          rw [if_neg e, if_neg e]
          obtain ⟨t1, t2, t3⟩ := a5 j z hz'
          have hjl := (List.getElem?_eq_some_iff.1 hz').1
          refine ⟨ownsRow_of_block t1 fun c hc => hnot c (hgl c (by rw [a7]; exact List.mem_append.2 (.inr (mem_row (by omega) t3 hc)))) fun ev => ?_, t2, t3⟩
          have hfl := (List.nodup_append.1 a8').2.1
          have c1 : c ∈ bs.getD j [] := by rw [← t3, hc]; simp
          have c2 : c ∈ bs.getD i [] := by rw [← r3, ev]; simp
          have hpw := (List.pairwise_flatten.1 hfl).2
          rw [List.getD_eq_getElem?_getD, List.getElem?_eq_getElem (by omega)] at c1 c2
          have hpw' := List.pairwise_iff_getElem.1 hpw
          rcases Nat.lt_or_gt_of_ne e with hlt | hlt
          · exact hpw' j i (by omega) hib hlt c c1 c c2 rfl
          · exact hpw' i j hib (by omega) hlt c c2 c c1 rfl
      · refine nodup_setrow a8' hib ?_ fun c hc => ?_
        · cases v'.ownBlock <;> simp
        · have hc' : v'.ownBlock = some c := by
            cases hvb : v'.ownBlock with
            | none => rw [hvb] at hc; simp at hc
            | some z => rw [hvb] at hc; simp at hc; rw [hc]
          rcases (hvo c hc').1 with h1 | h1
          · left; rw [← r3, h1]; simp
          · right; intro hm
            have := hgl c (by rw [a7]; exact hm)
            omega
    · have hr' : (gh.rows.set i v')[i]? = some v' := by rw [List.getElem?_set, if_pos rfl, if_pos (by rw [a4]; exact hiv)]
      exact RV.orow (g := g') (by simp [hhg]) hr'
    · refine ⟨s3.os, s3.tape, s3.output, s3.size, fun b hb => s3.block b (by have := hr.hb; omega) fun e => ?_⟩
      have := (hr.hn _ _ _ hg hs (by simp) b (by rw [a7]; exact List.mem_append.2 (.inr (hsub b e.symm)))).1
      omega

/-- A grown row goes back into its cell. -/
theorem l_store_pend {t : TypeId} [ht : TCell P t] {x y : Operand} {h i : Nat} {e e2 : TypeId} {xss : List (List Int)} (hx : AV.ev env x = .optr h i) (hs : os[h]? = some (.ob (pendOb e e2 xss i))) (hi : i < xss.length) (hy : AV.ev env y = .orow h i) :
    LOp P ⟨d, .store t x y, ty, pos, af, g⟩ env os .any env (os.set h (.sls e e2 xss)) := by
  intro base w gs tm hr
  have hxv := hr.ev x
  have hyv := hr.ev y
  rw [hx] at hxv
  rw [hy] at hyv
  generalize hv : Act.eval ⟨tm, []⟩ x = v at hxv
  generalize hu : Act.eval ⟨tm, []⟩ y = u at hyv
  cases hxv with
  | @optr _ _ gh hg =>
  cases hyv with
  | @orow _ _ gh2 _ hg2 hrow =>
    have egg : gh2 = gh := by rw [hg] at hg2; exact (Option.some.inj hg2).symm
    subst egg
    obtain ⟨cs, bs, mb, a1, a2, a3, a4, a5, a6, a7, a8, a9⟩ := hr.ho _ _ _ hg hs
    obtain ⟨r1, r2, r3⟩ := a6 i u hrow
    obtain ⟨ua, uc, eu⟩ := ownsRow_slice r1
    have hic : i < cs.length := by omega
    obtain ⟨b, cap, e1, e2', e3', e4⟩ := own_slice a1 (i := i) hic
    have emb : mb = [gh2.b] ∧ gh2.v.ownBlock = some gh2.b := by
      rcases a7 with ⟨c1, _⟩ | ⟨c1, c2⟩
      · rw [c1] at e2'; cases e2'
      · exact ⟨c2, c1⟩
    have eb : gh2.b = b := by rw [emb.2] at e2'; exact Option.some.inj e2'
    have hcell : w.cell? ⟨gh2.b, i, none⟩ = some cs[i] := by rw [eb, e3']; simp [hic]
    have a1' := a1
    rw [e1] at a1'
    have hst := a1'.stored i u
    have hgb : gh2.b ∈ gh2.bl := by rw [a8, emb.1]; simp
    have hap : ∀ c, c ≠ gh2.b → (w.setCell ⟨b, i, none⟩ u).heap[c]? = w.heap[c]? := fun c hc => heap_setCell_other w ⟨b, i, none⟩ c u (fun e' => hc (by rw [eb]; exact e'))
    have hother : ∀ c, c < w.heap.size → c ∉ gh2.bl → (w.setCell ⟨b, i, none⟩ u).heap[c]? = w.heap[c]? := fun c _ hcb => hap c fun e => hcb (e ▸ hgb)
    have erows : cs.set i u = gh2.rows := by
      apply List.ext_getElem?
      intro j
      rw [List.getElem?_set]
      by_cases ej : i = j
      · subst ej; rw [if_pos rfl, if_pos hic, hrow]
      · rw [if_neg ej]; exact (a5 j (fun e => ej e.symm)).symm
    refine ⟨undef, w.setCell ⟨b, i, none⟩ u, gs, .inr ⟨?_, rfl⟩, hr.upd hg hs trivial _ trivial hother hst.2.size fun kp => ?_, .any _, ?_⟩
    · have := run_store_cell (P := P) (t := t) (a := ⟨gh2.b, i, none⟩) hcell (by rw [eb]; exact e4) (v := u) (by rw [eu]; rfl) (by rw [eu]; rfl)
      rw [eb] at this hv
      simp only [execOp, hv, hu, Sem.run_bind, this, Result.andThen_ok, Sem.run_pure]
    · refine ⟨gh2.rows, bs, mb, ?_, a4, a3, rfl, fun j z hz => ?_, a7, a8, a9⟩
      · rw [← erows, List.length_set, e1]; exact hst.1
      · obtain ⟨t1, t2, t3⟩ := a6 j z hz
        have hjl := (List.getElem?_eq_some_iff.1 hz).1
        refine ⟨ownsRow_of_block t1 fun c hc => hap c fun ec => ?_, t2, t3⟩
        have hm := mem_row (bs := bs) (by omega) t3 hc
        rw [a8] at a9
        exact (List.nodup_append.1 a9).2.2 gh2.b (by rw [emb.1]; simp) c hm ec.symm
    · have hbb : base ≤ b := by rw [← eb]; exact (hr.hn _ _ _ hg hs (by simp) gh2.b hgb).1
      exact (Below.refl _ _).setCell (p := ⟨b, i, none⟩) hbb _
end

section
variable {P : Program} {env : Env} {os : List AO} {d : Option Tmp} {ty : TypeId} {pos : String} {af : Array Edge} {g : Option (Nat × Bool)} {wl : Bool}
theorem q_idx_pend {t e0 : TypeId} [ht : TSlice P t e0] [he : TCell P e0] {x y : Operand} {h k : Nat} {e e2 : TypeId} {xss : List (List Int)} {i : Int} (hx : AV.ev env x = .own h) (hs : os[h]? = some (.ob (pendOb e e2 xss k))) (hy : AV.ev env y = .i i) (h0 : 0 ≤ i) (h1 : i < xss.length) :
    QOp P wl ⟨d, .indexAddr t x y, ty, pos, af, g⟩ env os (.optr h i.toNat) :=
  .of_run fun _ w gs tm hr => by
    have hh := hr.ev x
    rw [hx] at hh
    generalize hv : Act.eval ⟨tm, []⟩ x = v at hh
    cases hh with
    | @own _ gh hg =>
      refine ⟨_, .optr hg, fun w' _ => ?_⟩
      obtain ⟨cap, e1⟩ : ∃ cap, gh.v = .slice (some ⟨gh.b, 0, none⟩) xss.length cap := by
        obtain ⟨cs, bs, mb, a1, a2, a3, a4, a5, a6, a7, _⟩ := hr.ho _ _ _ hg hs
        obtain ⟨b, cap, e1, e2, _⟩ := own_slice a1 (i := i.toNat) (by omega)
        have : gh.b = b := by
          rcases a7 with ⟨h1, _⟩ | ⟨h1, _⟩
          · rw [h1] at e2; cases e2
          · rw [h1] at e2; cases e2; rfl
        rw [this, ← a2]; exact ⟨cap, e1⟩
      obtain ⟨ie, hi, hs1⟩ := he.info
      have hrun := run_idx ht.und hi hs1 ⟨gh.b, 0, none⟩ xss.length cap i h0 h1 w'
      simp only [execOp, hv, e1, hr.evv hy, Sem.run_bind, hrun, add_none, Nat.zero_add, Result.andThen_ok, Sem.run_pure]
end
section
variable {P : Program} {env : Env} {os : List AO} {d : Tmp} {ty : TypeId} {pos : String} {af : Array Edge} {g : Option (Nat × Bool)} {l rest : List Oper} {K : APost} {q : Md}
theorem w_apporow {t2 e2' : TypeId} {bytes : Nat} [TSlice P t2 e2'] [TElem P e2' (.int .i64 0) bytes] {x y : Operand} {h i k : Nat} {e e2 e3 : TypeId} {xss : List (List Int)} {ys : List Int} (hx : evo env x = some (.orow h i)) (hs : os[h]? = some (.sls e e2 xss)) (he2 : e2 = e2')
    (hy : evo env y = some (.own k)) (hk : os[k]? = some (.sli e3 ys)) (hhk : (h == k) = false) (hi : i < xss.length) (hp : 0 < ys.length) (hb : ((xss.getD i []).length + ys.length) * bytes ≤ 140737488355328)
    (h' : AOps P .seq l rest K (Env.up (env.mp (AV.noRow h)) d (.orow h i)) (((os.map (AO.via (AV.noRow h) h)).set h (.ob (pendOb e e2 (xss.set i (xss.getD i [] ++ ys)) i))).set k .dead)) :
    AOps P .seq l (⟨some d, .call { callee := .builtin .append, args := #[x, y], argTypes := #[t2, t2] }, ty, pos, af, none⟩ :: rest) K env os := AOps.lo (l_append_orow (ev_of hx) hs hi he2 (ev_of hy) hk hhk hp hb) h'
theorem w_idxpend {t e0 : TypeId} [TSlice P t e0] [TCell P e0] {x y : Operand} {h k : Nat} {e e2 : TypeId} {xss : List (List Int)} {i : Int} (hw : wantedA l env ⟨some d, .indexAddr t x y, ty, pos, af, g⟩ = some true) (hx : evo env x = some (.own h)) (hs : os[h]? = some (.ob (pendOb e e2 xss k))) (hy : evo env y = some (.i i)) (h0 : 0 ≤ i) (h1 : i < xss.length)
    (h' : AOps P q l rest K (env.up d (.optr h i.toNat)) os) : AOps P q l (⟨some d, .indexAddr t x y, ty, pos, af, g⟩ :: rest) K env os := AOps.qo hw (q_idx_pend (ev_of hx) hs (ev_of hy) h0 h1) h'
theorem w_stpend {t : TypeId} [TCell P t] {x y : Operand} {h i j : Nat} {e e2 : TypeId} {xss : List (List Int)} (hx : evo env x = some (.optr h j)) (hs : os[h]? = some (.ob (pendOb e e2 xss i))) (hy : evo env y = some (.orow h i)) (hj : j = i) (hi : i < xss.length)
    (h' : AOps P .seq l rest K env (os.set h (.sls e e2 xss))) : AOps P .seq l (⟨none, .store t x y, ty, pos, af, none⟩ :: rest) K env os := AOps.so (l_store_pend (ev_of (by rw [← hj]; exact hx)) hs hi (ev_of hy)) h'
end
end Go.Proofs.Ytbalbiliejjnoaa
/-
  The neighbours of all vertices. Condition: edges of a forest of at most 40 vertices.
-/
namespace Go.Proofs.Ytbalbiliejjnoaa
open Go Go.RowKit
attribute [local irreducible] AWp AOps ResIs Ret1 QOp LOp COp AFnV AFn Imms LeE LeO
set_option maxHeartbeats 1000000
set_option linter.unusedSimpArgs false
set_option linter.unusedVariables false

/-- The neighbours of all vertices, as the edges A tell them. -/
def nbL (n : Nat) (A : List (List Int)) : List (List Int) := (List.range n).map fun (v : Nat) => nearE A (v : Nat)
theorem nbL_len (n : Nat) (A : List (List Int)) : (nbL n A).length = n := by simp [nbL]
theorem nbL_get {n : Nat} {A : List (List Int)} {v : Nat} (h : v < n) : (nbL n A).getD v [] = nearE A (v : Nat) := by
  unfold nbL; rw [List.getD_eq_getElem?_getD, List.getElem?_map, List.getElem?_range h]; rfl
theorem nearE_snoc (A : List (List Int)) (e : List Int) (v : Int) : nearE (A ++ [e]) v = nearE A v ++ ((if geti e 0 = v then [geti e 1] else []) ++ (if geti e 1 = v then [geti e 0] else [])) := by
  unfold nearE; rw [List.flatMap_append]; simp
theorem nearE_len (A : List (List Int)) (v : Int) : (nearE A v).length ≤ 2 * A.length := by
  induction A with
  | nil => simp [nearE]
  | cons e A ih =>
    have : nearE (e :: A) v = ((if geti e 0 = v then [geti e 1] else []) ++ (if geti e 1 = v then [geti e 0] else [])) ++ nearE A v := by simp [nearE]
    rw [this, List.length_append, List.length_append, List.length_cons]
    split <;> split <;> simp <;> omega
theorem nb_step {n : Nat} {A : List (List Int)} {e : List Int} (he : EIn n e) {R1 : List (List Int)} (h1 : R1 = (nbL n A).set (geti e 0).toNat ((nbL n A).getD (geti e 0).toNat [] ++ [geti e 1])) :
    R1.set (geti e 1).toNat (R1.getD (geti e 1).toNat [] ++ [geti e 0]) = nbL n (A ++ [e]) := by
  obtain ⟨a1, a2, a3, a4⟩ := he
  have l0 := nbL_len n A
  have l1 : R1.length = n := by rw [h1, List.length_set]; exact l0
  apply List.ext_getElem?
  intro v
  by_cases hv : v < n
  · have g0 : (nbL n (A ++ [e]))[v]? = some (nearE (A ++ [e]) (v : Nat)) := by
      unfold nbL; rw [List.getElem?_map, List.getElem?_range hv]; rfl
    have g1 : ∀ u : Nat, u < n → R1.getD u [] = if u = (geti e 0).toNat then nearE A (u : Nat) ++ [geti e 1] else nearE A (u : Nat) := by
      intro u hu
      rw [h1, getD_set_if _ _ _ _ (by omega)]
      split
      · subst_vars; rw [nbL_get (by omega)]
      · exact nbL_get hu
    have g2 : (R1.set (geti e 1).toNat (R1.getD (geti e 1).toNat [] ++ [geti e 0]))[v]? = some (if v = (geti e 1).toNat then R1.getD (geti e 1).toNat [] ++ [geti e 0] else R1.getD v []) := by
      rw [List.getElem?_set]
      by_cases ev : (geti e 1).toNat = v
      · subst ev; rw [if_pos rfl, if_pos (by omega), if_pos rfl]
      · rw [if_neg ev, if_neg (fun h => ev h.symm), List.getD_eq_getElem?_getD, List.getElem?_eq_getElem (by omega)]; rfl
    rw [g0, g2, nearE_snoc]
    congr 1
    rw [g1 _ (by omega), g1 _ hv]
    by_cases e1 : v = (geti e 1).toNat
    · subst e1
      rw [if_pos rfl, if_neg (by omega), if_neg (by omega), if_pos (by omega)]; rfl
    · rw [if_neg e1]
      by_cases e0 : v = (geti e 0).toNat
      · subst e0
        rw [if_pos rfl, if_pos (by omega), if_neg (by omega)]; simp
      · rw [if_neg e0, if_neg (by omega), if_neg (by omega)]; simp
  · rw [List.getElem?_eq_none (by rw [List.length_set]; omega), List.getElem?_eq_none (by rw [nbL_len]; omega)]

/-- A forest of at most 40 vertices. -/
structure GrF (W : List Int) (E : List (List Int)) : Prop where
  n : 1 ≤ W.length ∧ W.length ≤ 40
  w : ∀ v : Int, -1000 ≤ geti W v ∧ geti W v ≤ 1000
  fo : FoE W.length E
  e : E.length ≤ 40
theorem GrF.at {W : List Int} {E : List (List Int)} (h : GrF W E) (k : Nat) (hk : k < E.length) : EIn W.length (gets E (k : Nat)) := h.fo.row _ (gets_mem (by omega) (by omega))
/-- All neighbours. -/
def nbs (W : List Int) (E : List (List Int)) : List (List Int) := (List.range W.length).map fun (v : Nat) => nearL E (v : Nat)
theorem nbs_eq {W : List Int} {E : List (List Int)} (h : GrF W E) : nbL W.length E = nbs W E := by
  unfold nbL nbs
  refine List.map_congr_left fun v _ => nearE_eq h.fo.row h.fo.srt _
theorem nbs_get {W : List Int} {E : List (List Int)} {v : Nat} (h : v < W.length) : (nbs W E).getD v [] = nearL E (v : Nat) := by
  unfold nbs; rw [List.getD_eq_getElem?_getD, List.getElem?_map, List.getElem?_range h]; rfl
theorem near_len {W : List Int} {E : List (List Int)} (h : GrF W E) (v : Int) : (nearL E v).length ≤ 40 := by
  have := nd_len (n := W.length) (h.fo.fst.nd v) (fun x hx => (h.fo.fst.bnd v x hx).1)
  have := h.n; omega

set_option maxHeartbeats 8000000 in
theorem neighboursOf_c (W : List Int) (E : List (List Int)) (h : GrF W E) : AFn Try.prog 50 [.agg [.ints W, .intss E]] (IsIntss 22 2 (nbs W E)) := by
  have hn := h.n
  have hE := h.e
  (refine AFn.start Try.func50 Try.ntmps50 rfl (by kernel_rfl) fun hk => ?_; simp only [Env.start, enumF, List.length_cons, List.length_nil, Nat.reduceAdd, Nat.reduceSub, List.cons_append, List.nil_append])
  repeat' (first | (apply AOps.nil; try simp only [List.nil_append, List.cons_append, List.set_cons_zero, List.set_cons_succ, List.length_cons, List.length_nil, Nat.reduceAdd, AV.sh, AV.sh1, AV.sh0, AO.sh, List.map_cons, List.map_nil, Nat.zero_add, Nat.add_zero, setAll]) | (apply w_move; exact rfl; exact rfl) | (apply w_assign; exact rfl; exact rfl) | apply AWp.seq | apply AWp.region | apply AWp.block | (apply w_len; exact rfl; exact rfl; first | exact .ints _ | exact .intss _ | exact .sli rfl | exact .sls rfl | exact .slr rfl | exact .orow rfl | exact .nil) | omega | ((first | apply w_ld | apply w_fa); iterate 3 exact rfl) | ((apply w_boxa); iterate 2 exact rfl) | (apply w_ldb; iterate 5 exact rfl) | (apply w_mkr; exact rfl; exact rfl; rotate_left 3; exact rfl; rotate_left 1))
  have e0 : List.replicate (W.length : Int).toNat ([] : List Int) = nbL W.length (E.take 0) := by
    apply List.ext_getElem (by simp [nbL])
    intro i h1 h2
    simp [nbL, nearE]
  rw [e0]
  refine AWp.loop (ι := Nat) (fun k => ⟨62, [(3, .own 1), (13, .intss E), (14, .i E.length), (15, .i k)]⟩) (fun k => [.bx 29 [.ints W, .intss E], .sls 22 2 (nbL W.length (E.take k))]) (fun k => k ≤ E.length) (fun k => E.length - k) 0 (by omega) ⟨lee rfl (by (repeat (first | exact le_nil | refine le_eq rfl rfl ?_))), by (repeat (first | exact lo_nil | refine lo_eq rfl ?_)), rfl, rfl⟩ ?_
  rintro k k0
  have hl := nbL_len W.length (E.take k)
  by_cases hk : k < E.length
  · obtain ⟨a1, a2, a3, a4⟩ := h.at k hk
    have hst := fun R1 => nb_step (A := E.take k) (R1 := R1) (h.at k hk)
    have et : E.take k ++ [gets E (k : Nat)] = E.take (k + 1) := by rw [List.take_succ_eq_append_getElem hk]; simp [gets, hk]
    rw [et] at hst
    have q0 : ((nbL W.length (E.take k)).getD (geti (gets E (k : Nat)) 0).toNat []).length ≤ 80 := by
      rw [nbL_get (by omega)]
      have := nearE_len (E.take k) (((geti (gets E (k : Nat)) 0).toNat : Nat) : Int)
      rw [List.length_take] at this; omega
    have q1 : ((nbL W.length (E.take k)).getD (geti (gets E (k : Nat)) 1).toNat []).length ≤ 80 := by
      rw [nbL_get (by omega)]
      have := nearE_len (E.take k) (((geti (gets E (k : Nat)) 1).toNat : Nat) : Int)
      rw [List.length_take] at this; omega
    generalize nbL W.length (E.take k) = R at *
    repeat' (first | (apply AOps.nil; try simp only [List.nil_append, List.cons_append, List.set_cons_zero, List.set_cons_succ, List.length_cons, List.length_nil, Nat.reduceAdd, AV.sh, AV.sh1, AV.sh0, AO.sh, List.map_cons, List.map_nil, Nat.zero_add, Nat.add_zero, setAll]) | (apply w_move; exact rfl; exact rfl) | (apply w_assign; exact rfl; exact rfl) | apply AWp.seq | apply AWp.region | ((apply AWp.condP; exact rfl) <;> intro h) | apply AWp.block | apply AWp.exit | apply AWp.skip | (apply w_len; exact rfl; exact rfl; first | exact .ints _ | exact .intss _ | exact .sli rfl | exact .sls rfl | exact .slr rfl | exact .orow rfl | exact .nil) | omega | ((first | apply w_lss | apply w_idx | apply w_ld); iterate 3 exact rfl) | ((first | apply w_idxs | apply w_lds); iterate 3 exact rfl))
    generalize gets E (k : Nat) = e at *
    obtain ⟨R1, eR1⟩ : ∃ R1, R1 = R.set (geti e 0).toNat (R.getD (geti e 0).toNat [] ++ [geti e 1]) := ⟨_, rfl⟩
    have hR1 := hst R1 eR1
    have l1 : R1.length = W.length := by rw [eR1, List.length_set]; exact hl
    have q2 : (R1.getD (geti e 1).toNat []).length ≤ 81 := by
      rw [eR1, getD_set_if _ _ _ _ (by omega)]
      split
      · rw [List.length_append, List.length_singleton]; omega
      · omega
    have b0 : ((R.getD (geti e 0).toNat []).length + [geti e 1].length) * 8 ≤ 140737488355328 := by rw [List.length_singleton]; omega
    have b1 : ((R1.getD (geti e 1).toNat []).length + [geti e 0].length) * 8 ≤ 140737488355328 := by rw [List.length_singleton]; omega
    refine AWp.regionG [] (by kernel_rfl) (envC := ⟨62, [(3, .own 1), (5, .ints e), (13, .intss E), (14, .i E.length), (15, .i k)]⟩) (osC := [.bx 29 [.ints W, .intss E], .sls 22 2 R1]) rfl rfl ?_ ?_
    · rw [eR1]
      repeat' (first | (apply AOps.nil; try simp only [List.nil_append, List.cons_append, List.set_cons_zero, List.set_cons_succ, List.length_cons, List.length_nil, Nat.reduceAdd, AV.sh, AV.sh1, AV.sh0, AO.sh, List.map_cons, List.map_nil, Nat.zero_add, Nat.add_zero, setAll]) | (apply w_move; exact rfl; exact rfl) | (apply w_apporow; exact rfl; exact rfl; exact rfl; exact rfl; exact rfl; exact rfl; rotate_left 3; simp only [Env.mp, List.map_cons, List.map_nil, List.set_cons_zero, List.set_cons_succ, AV.kill, AV.kill1, AO.kill, AV.noRow, AV.noRow1, AO.via, reduceIte, Nat.reduceEqDiff, Nat.reduceLT, Env.up, Nat.zero_ne_one, Nat.one_ne_zero, Nat.reduceAdd, List.cons_append, List.nil_append]; rotate_left 3) | (apply w_idxpend; iterate 4 exact rfl) | (apply w_stpend; exact rfl; exact rfl; exact rfl; exact rfl; rotate_left 1; simp only [Env.mp, List.map_cons, List.map_nil, List.set_cons_zero, List.set_cons_succ, AV.kill, AV.kill1, AO.kill, AV.noRow, AV.noRow1, AO.via, reduceIte, Nat.reduceEqDiff, Nat.reduceLT, Env.up, Nat.zero_ne_one, Nat.one_ne_zero, Nat.reduceAdd, List.cons_append, List.nil_append]; rotate_left 1) | apply AllOfG.nil | (apply AllOfG.consQ; exact rfl; exact rfl) | (apply AllOfG.consS; exact rfl; exact rfl) | (apply AAnyG.takeW; exact rfl; exact rfl; kernel_rfl; kernel_rfl) | (apply AAnyG.takeL; exact rfl; exact rfl; kernel_rfl) | (apply AAnyG.all; exact rfl) | (apply AAnyG.done; exact rfl) | omega | ((first | apply w_idx | apply w_ld); iterate 3 exact rfl) | ((apply w_bs1); iterate 2 exact rfl) | (apply w_idxo; exact rfl; exact rfl; (exact .sls rfl); exact rfl) | (apply w_ldls; iterate 4 exact rfl) | (apply inI_of <;> omega) | (simp <;> omega))
      all_goals (apply Or.inl; refine ⟨lee rfl ?_, ?_, rfl, rfl⟩; (focus ((repeat (first | exact le_nil | refine le_eq rfl rfl ?_)); done)); (focus ((repeat (first | exact lo_nil | refine lo_eq rfl ?_)); done)))
    clear eR1 hst
    repeat' (apply AOps.nil; try simp only [List.nil_append, List.cons_append, List.set_cons_zero, List.set_cons_succ, List.length_cons, List.length_nil, Nat.reduceAdd, AV.sh, AV.sh1, AV.sh0, AO.sh, List.map_cons, List.map_nil, Nat.zero_add, Nat.add_zero, setAll])
    refine AWp.regionG [] (by kernel_rfl) (envC := ⟨62, [(3, .own 1), (13, .intss E), (14, .i E.length), (15, .i k)]⟩) (osC := [.bx 29 [.ints W, .intss E], .sls 22 2 (R1.set (geti e 1).toNat (R1.getD (geti e 1).toNat [] ++ [geti e 0]))]) rfl rfl ?_ ?_
    · repeat' (first | (apply AOps.nil; try simp only [List.nil_append, List.cons_append, List.set_cons_zero, List.set_cons_succ, List.length_cons, List.length_nil, Nat.reduceAdd, AV.sh, AV.sh1, AV.sh0, AO.sh, List.map_cons, List.map_nil, Nat.zero_add, Nat.add_zero, setAll]) | (apply w_move; exact rfl; exact rfl) | (apply w_apporow; exact rfl; exact rfl; exact rfl; exact rfl; exact rfl; exact rfl; rotate_left 3; simp only [Env.mp, List.map_cons, List.map_nil, List.set_cons_zero, List.set_cons_succ, AV.kill, AV.kill1, AO.kill, AV.noRow, AV.noRow1, AO.via, reduceIte, Nat.reduceEqDiff, Nat.reduceLT, Env.up, Nat.zero_ne_one, Nat.one_ne_zero, Nat.reduceAdd, List.cons_append, List.nil_append]; rotate_left 3) | (apply w_idxpend; iterate 4 exact rfl) | (apply w_stpend; exact rfl; exact rfl; exact rfl; exact rfl; rotate_left 1; simp only [Env.mp, List.map_cons, List.map_nil, List.set_cons_zero, List.set_cons_succ, AV.kill, AV.kill1, AO.kill, AV.noRow, AV.noRow1, AO.via, reduceIte, Nat.reduceEqDiff, Nat.reduceLT, Env.up, Nat.zero_ne_one, Nat.one_ne_zero, Nat.reduceAdd, List.cons_append, List.nil_append]; rotate_left 1) | apply AllOfG.nil | (apply AllOfG.consQ; exact rfl; exact rfl) | (apply AllOfG.consS; exact rfl; exact rfl) | (apply AAnyG.takeW; exact rfl; exact rfl; kernel_rfl; kernel_rfl) | (apply AAnyG.takeL; exact rfl; exact rfl; kernel_rfl) | (apply AAnyG.all; exact rfl) | (apply AAnyG.done; exact rfl) | omega | ((first | apply w_idx | apply w_ld); iterate 3 exact rfl) | ((apply w_bs1); iterate 2 exact rfl) | (apply w_idxo; exact rfl; exact rfl; (exact .sls rfl); exact rfl) | (apply w_ldls; iterate 4 exact rfl) | (apply inI_of <;> omega) | (simp <;> omega))
      all_goals (apply Or.inl; refine ⟨lee rfl ?_, ?_, rfl, rfl⟩; (focus ((repeat (first | exact le_nil | refine le_eq rfl rfl ?_)); done)); (focus ((repeat (first | exact lo_nil | refine lo_eq rfl ?_)); done)))
    repeat' (first | (apply AOps.nil; try simp only [List.nil_append, List.cons_append, List.set_cons_zero, List.set_cons_succ, List.length_cons, List.length_nil, Nat.reduceAdd, AV.sh, AV.sh1, AV.sh0, AO.sh, List.map_cons, List.map_nil, Nat.zero_add, Nat.add_zero, setAll]) | (apply w_move; exact rfl; exact rfl) | apply AWp.region | ((apply w_add); iterate 3 exact rfl) | (apply inI_of <;> omega))
    exact ⟨k + 1, by omega, by omega, ⟨lee rfl (by (repeat (first | exact le_nil | refine le_eq rfl rfl ?_))), by (repeat (first | exact lo_nil | refine lo_eq rfl ?_ | refine lo_eq (congrArg (AO.sls _ _) (hR1)) ?_)), rfl, rfl⟩⟩
  · have ek : k = E.length := by omega
    subst ek
    rw [List.take_length, nbs_eq h]
    rw [List.take_length, nbs_eq h] at hl
    have hs : ∀ v : Nat, v < W.length → AFnU Try.prog 68 [.ints ((nbs W E).getD (v : Int).toNat [])] [] (fun v os => v = .tuple #[] ∧ os = []) := fun v hv => by
      rw [Int.toNat_natCast, nbs_get hv]
      exact sort_s _ (srt_of (h.fo.fst.srt _)) (by have := near_len h (v : Nat); omega)
    generalize nbs W E = R at *
    repeat' (first | (apply AOps.nil; try simp only [List.nil_append, List.cons_append, List.set_cons_zero, List.set_cons_succ, List.length_cons, List.length_nil, Nat.reduceAdd, AV.sh, AV.sh1, AV.sh0, AO.sh, List.map_cons, List.map_nil, Nat.zero_add, Nat.add_zero, setAll]) | (apply w_move; exact rfl; exact rfl) | apply AWp.seq | apply AWp.region | ((apply AWp.condP; exact rfl) <;> intro h) | apply AWp.block | apply AWp.exit | apply AWp.skip | (apply w_len; exact rfl; exact rfl; first | exact .ints _ | exact .intss _ | exact .sli rfl | exact .sls rfl | exact .slr rfl | exact .orow rfl | exact .nil) | omega | ((apply w_lss); iterate 3 exact rfl))
    refine AWp.loop (ι := Nat) (fun v => ⟨62, [(3, .own 1), (52, .own 1), (53, .i W.length), (54, .i v)]⟩) (fun v => [.bx 29 [.ints W, .intss E], .sls 22 2 R]) (fun v => v ≤ W.length) (fun v => W.length - v) 0 (by omega) ⟨lee rfl (by (repeat (first | exact le_nil | refine le_eq rfl rfl ?_ | refine le_eq rfl (congrArg AV.i (by omega)) ?_))), by (repeat (first | exact lo_nil | refine lo_eq rfl ?_)), rfl, rfl⟩ ?_
    rintro v v0
    by_cases hv : v < W.length
    · have hsv := hs v hv
      repeat' (first | (apply AOps.nil; try simp only [List.nil_append, List.cons_append, List.set_cons_zero, List.set_cons_succ, List.length_cons, List.length_nil, Nat.reduceAdd, AV.sh, AV.sh1, AV.sh0, AO.sh, List.map_cons, List.map_nil, Nat.zero_add, Nat.add_zero, setAll]) | (apply w_move; exact rfl; exact rfl) | (apply w_assign; exact rfl; exact rfl) | apply AWp.seq | apply AWp.region | ((apply AWp.condP; exact rfl) <;> intro h) | apply AWp.block | apply AWp.ret | apply AWp.exit | apply AWp.skip | (apply w_callu [] (hsv); (exact handed0); (focus ((repeat (first | exact imu_nil | refine imu_cons rfl (.orow rfl (by decide)) ?_)); done)); rintro v os0 ⟨rfl, rfl⟩; try simp only [List.nil_append, List.cons_append, List.set_cons_zero, List.set_cons_succ, List.length_cons, List.length_nil, Nat.reduceAdd, AV.sh, AV.sh1, AV.sh0, AO.sh, List.map_cons, List.map_nil, Nat.zero_add, Nat.add_zero, setAll]) | omega | ((first | apply w_lss | apply w_add | apply w_idx | apply w_ld); iterate 3 exact rfl) | (apply w_idxo; exact rfl; exact rfl; (exact .sls rfl); exact rfl) | (apply w_ldls; iterate 4 exact rfl) | (apply inI_of <;> omega))
      exact ⟨v + 1, by omega, by omega, ⟨lee rfl (by (repeat (first | exact le_nil | refine le_eq rfl rfl ?_))), by (repeat (first | exact lo_nil | refine lo_eq rfl ?_)), rfl, rfl⟩⟩
    · repeat' (first | (apply AOps.nil; try simp only [List.nil_append, List.cons_append, List.set_cons_zero, List.set_cons_succ, List.length_cons, List.length_nil, Nat.reduceAdd, AV.sh, AV.sh1, AV.sh0, AO.sh, List.map_cons, List.map_nil, Nat.zero_add, Nat.add_zero, setAll]) | (apply w_move; exact rfl; exact rfl) | (apply w_assign; exact rfl; exact rfl) | apply AWp.seq | apply AWp.region | ((apply AWp.condP; exact rfl) <;> intro h) | apply AWp.block | apply AWp.ret | apply AWp.exit | apply AWp.skip | omega | ((apply w_lss); iterate 3 exact rfl))
      exact ⟨_, _, _, .v1 Try.results50 rfl, .sls rfl, rfl, rfl⟩
end Go.Proofs.Ytbalbiliejjnoaa
/-
  Neighbours and trees, walked: the reference. Condition: a forest of at most 40 vertices.
-/
namespace Go.Proofs.Ytbalbiliejjnoaa
open Go Go.RowKit
attribute [local irreducible] AWp AOps ResIs Ret1 QOp LOp COp AFnV AFn Imms LeE LeO
set_option maxHeartbeats 1000000
set_option linter.unusedSimpArgs false
set_option linter.unusedVariables false

theorem all_nil' {α : Type} {p : α → Prop} : ∀ x ∈ ([] : List α), p x := fun _ h => by cases h
theorem all_cons' {α : Type} {p : α → Prop} {a : α} {l : List α} (h : p a) (hs : ∀ x ∈ l, p x) : ∀ x ∈ a :: l, p x := fun x hx => by
  rcases List.mem_cons.1 hx with rfl | hx
  · exact h
  · exact hs x hx
def nr1 (E : List (List Int)) (v : Int) : List Int := (E.filter fun e => decide (geti e 1 = v)).map fun e => geti e 0
def nr0 (E : List (List Int)) (v : Int) : List Int := (E.filter fun e => decide (geti e 0 = v)).map fun e => geti e 1
theorem near_cut (E : List (List Int)) (v : Int) : nearL E v = nr1 E v ++ nr0 E v := rfl
theorem nr1_len (E : List (List Int)) (v : Int) : (nr1 E v).length ≤ E.length := by
  unfold nr1; rw [List.length_map]; exact List.length_filter_le _ _
theorem nr0_len (E : List (List Int)) (v : Int) : (nr0 E v).length ≤ E.length := by
  unfold nr0; rw [List.length_map]; exact List.length_filter_le _ _
theorem nr1_snoc {E : List (List Int)} {k : Nat} (h : k < E.length) (v : Int) : nr1 (E.take (k + 1)) v = nr1 (E.take k) v ++ (if geti (gets E (k : Nat)) 1 = v then [geti (gets E (k : Nat)) 0] else []) := by
  have e : E[k] = gets E (k : Nat) := by simp [gets, h]
  unfold nr1
  rw [List.take_succ_eq_append_getElem h, List.filter_append, List.map_append, e]
  congr 1
  by_cases hc : geti (gets E (k : Nat)) 1 = v
  · rw [if_pos hc, List.filter_cons_of_pos (by exact decide_eq_true hc)]; rfl
  · rw [if_neg hc, List.filter_cons_of_neg (by simpa using hc)]; rfl
theorem nr0_snoc {E : List (List Int)} {k : Nat} (h : k < E.length) (v : Int) : nr0 (E.take (k + 1)) v = nr0 (E.take k) v ++ (if geti (gets E (k : Nat)) 0 = v then [geti (gets E (k : Nat)) 1] else []) := by
  have e : E[k] = gets E (k : Nat) := by simp [gets, h]
  unfold nr0
  rw [List.take_succ_eq_append_getElem h, List.filter_append, List.map_append, e]
  congr 1
  by_cases hc : geti (gets E (k : Nat)) 0 = v
  · rw [if_pos hc, List.filter_cons_of_pos (by exact decide_eq_true hc)]; rfl
  · rw [if_neg hc, List.filter_cons_of_neg (by simpa using hc)]; rfl

set_option maxHeartbeats 16000000 in
theorem l11Near_c (W : List Int) (E : List (List Int)) (h : GrF W E) (v : Int) : AFn Try.prog 26 [.agg [.ints W, .intss E], .i v] (IsInts 2 (nearL E v)) := by
  have hn := h.n
  have hE := h.e
  have hat := h.at
  (refine AFn.start Try.func26 Try.ntmps26 rfl (by kernel_rfl) fun hk => ?_; simp only [Env.start, enumF, List.length_cons, List.length_nil, Nat.reduceAdd, Nat.reduceSub, List.cons_append, List.nil_append])
  repeat' (first | (apply AOps.nil; try simp only [List.nil_append, List.cons_append, List.set_cons_zero, List.set_cons_succ, List.length_cons, List.length_nil, Nat.reduceAdd, AV.sh, AV.sh1, AV.sh0, AO.sh, List.map_cons, List.map_nil, Nat.zero_add, Nat.add_zero, setAll]) | (apply w_assign; exact rfl; exact rfl) | apply AWp.seq | apply AWp.region | apply AWp.block | ((apply w_boxa); iterate 2 exact rfl) | (apply w_bs0; iterate 1 exact rfl))
  refine AWp.loop (ι := Nat) (fun k => ⟨62, [(1, .i v), (2, .optr 0 0), (5, .own 1), (6, .i k)]⟩) (fun k => [.bx 29 [.ints W, .intss E], .sli 2 (nr1 (E.take k) v)]) (fun k => k ≤ E.length) (fun k => E.length - k) 0 (by omega) ⟨lee rfl (by (repeat (first | exact le_nil | refine le_eq rfl rfl ?_))), by (repeat (first | exact lo_nil | refine lo_eq rfl ?_)), rfl, rfl⟩ ?_
  intro k k0
  have hl := nr1_len (E.take k) v
  rw [List.length_take] at hl
  by_cases hk : k < E.length
  · obtain ⟨a1, a2, a3, a4⟩ := hat k hk
    have hs := nr1_snoc hk v
    have hbl : ((nr1 (E.take k) v).length + [geti (gets E (k : Nat)) 0].length) * 8 ≤ 140737488355328 := by
      simp only [List.length_cons, List.length_nil]; omega
    generalize nr1 (E.take k) v = L at *
    by_cases hc : geti (gets E (k : Nat)) 1 = v
    · rw [if_pos hc] at hs
      repeat' (first | (apply AOps.nil; try simp only [List.nil_append, List.cons_append, List.set_cons_zero, List.set_cons_succ, List.length_cons, List.length_nil, Nat.reduceAdd, AV.sh, AV.sh1, AV.sh0, AO.sh, List.map_cons, List.map_nil, Nat.zero_add, Nat.add_zero, setAll]) | (apply w_move; exact rfl; exact rfl) | (apply w_assign; exact rfl; exact rfl) | apply AWp.seq | apply AWp.region | ((apply AWp.condP; exact rfl) <;> intro h) | apply AWp.block | apply AWp.exit | apply AWp.skip | (apply w_len; exact rfl; exact rfl; first | exact .ints _ | exact .intss _ | exact .sli rfl | exact .sls rfl | exact .slr rfl | exact .orow rfl | exact .nil) | omega | ((first | apply w_lss | apply w_eql | apply w_add | apply w_idx | apply w_ld | apply w_fa); iterate 3 exact rfl) | ((first | apply w_idxs | apply w_lds); iterate 3 exact rfl) | ((apply w_bs1); iterate 2 exact rfl) | (apply w_ldb; iterate 5 exact rfl) | (apply w_app; exact rfl; exact rfl; exact rfl; exact rfl; (exact .sli rfl); rotate_left 1; simp only [Env.mp, List.map_cons, List.map_nil, List.set_cons_zero, List.set_cons_succ, AV.kill, AV.kill1, AO.kill, AV.noRow, AV.noRow1, AO.via, reduceIte, Nat.reduceEqDiff, Nat.reduceLT, Env.up, Nat.zero_ne_one, Nat.one_ne_zero, Nat.reduceAdd, List.cons_append, List.nil_append]; rotate_left 1) | (apply inI_of <;> omega))
      exact ⟨k + 1, by omega, by omega, ⟨lee rfl (by (repeat (first | exact le_nil | refine le_eq rfl rfl ?_))), by (repeat (first | exact lo_nil | refine lo_eq rfl ?_ | refine lo_eq (congrArg (AO.sli _) (hs.symm)) ?_)), rfl, rfl⟩⟩
    · rw [if_neg hc, List.append_nil] at hs
      repeat' (first | (apply AOps.nil; try simp only [List.nil_append, List.cons_append, List.set_cons_zero, List.set_cons_succ, List.length_cons, List.length_nil, Nat.reduceAdd, AV.sh, AV.sh1, AV.sh0, AO.sh, List.map_cons, List.map_nil, Nat.zero_add, Nat.add_zero, setAll]) | (apply w_move; exact rfl; exact rfl) | (apply w_assign; exact rfl; exact rfl) | apply AWp.seq | apply AWp.region | ((apply AWp.condP; exact rfl) <;> intro h) | apply AWp.block | apply AWp.exit | apply AWp.skip | (apply w_len; exact rfl; exact rfl; first | exact .ints _ | exact .intss _ | exact .sli rfl | exact .sls rfl | exact .slr rfl | exact .orow rfl | exact .nil) | omega | ((first | apply w_lss | apply w_eql | apply w_add | apply w_idx | apply w_ld | apply w_fa); iterate 3 exact rfl) | ((first | apply w_idxs | apply w_lds); iterate 3 exact rfl) | (apply w_ldb; iterate 5 exact rfl) | (apply inI_of <;> omega))
      exact ⟨k + 1, by omega, by omega, ⟨lee rfl (by (repeat (first | exact le_nil | refine le_eq rfl rfl ?_))), by (repeat (first | exact lo_nil | refine lo_eq rfl ?_ | refine lo_eq (congrArg (AO.sli _) (hs.symm)) ?_)), rfl, rfl⟩⟩
  have ek : k = E.length := by omega
  subst ek
  rw [List.take_length] at hl ⊢
  repeat' (first | (apply AOps.nil; try simp only [List.nil_append, List.cons_append, List.set_cons_zero, List.set_cons_succ, List.length_cons, List.length_nil, Nat.reduceAdd, AV.sh, AV.sh1, AV.sh0, AO.sh, List.map_cons, List.map_nil, Nat.zero_add, Nat.add_zero, setAll]) | (apply w_move; exact rfl; exact rfl) | (apply w_assign; exact rfl; exact rfl) | apply AWp.seq | apply AWp.region | ((apply AWp.condP; exact rfl) <;> intro h) | apply AWp.block | apply AWp.exit | apply AWp.skip | (apply w_len; exact rfl; exact rfl; first | exact .ints _ | exact .intss _ | exact .sli rfl | exact .sls rfl | exact .slr rfl | exact .orow rfl | exact .nil) | omega | ((first | apply w_lss | apply w_ld | apply w_fa); iterate 3 exact rfl) | (apply w_ldb; iterate 5 exact rfl))
  refine AWp.loop (ι := Nat) (fun k => ⟨62, [(1, .i v), (2, .optr 0 0), (5, .own 1), (7, .i k)]⟩) (fun k => [.bx 29 [.ints W, .intss E], .sli 2 (nr1 E v ++ nr0 (E.take k) v)]) (fun k => k ≤ E.length) (fun k => E.length - k) 0 (by omega) ⟨lee rfl (by (repeat (first | exact le_nil | refine le_eq rfl rfl ?_))), by (repeat (first | exact lo_nil | refine lo_eq rfl ?_ | refine lo_eq (congrArg (AO.sli _) ((List.append_nil _).symm)) ?_)), rfl, rfl⟩ ?_
  intro k k0
  have hl0 := nr0_len (E.take k) v
  rw [List.length_take] at hl0
  by_cases hk : k < E.length
  · obtain ⟨a1, a2, a3, a4⟩ := hat k hk
    have hs : nr1 E v ++ nr0 (E.take (k + 1)) v = (nr1 E v ++ nr0 (E.take k) v) ++ (if geti (gets E (k : Nat)) 0 = v then [geti (gets E (k : Nat)) 1] else []) := by rw [nr0_snoc hk, List.append_assoc]
    have hbl : ((nr1 E v ++ nr0 (E.take k) v).length + [geti (gets E (k : Nat)) 1].length) * 8 ≤ 140737488355328 := by
      simp only [List.length_cons, List.length_nil, List.length_append]; omega
    generalize nr1 E v ++ nr0 (E.take k) v = L at *
    by_cases hc : geti (gets E (k : Nat)) 0 = v
    · rw [if_pos hc] at hs
      repeat' (first | (apply AOps.nil; try simp only [List.nil_append, List.cons_append, List.set_cons_zero, List.set_cons_succ, List.length_cons, List.length_nil, Nat.reduceAdd, AV.sh, AV.sh1, AV.sh0, AO.sh, List.map_cons, List.map_nil, Nat.zero_add, Nat.add_zero, setAll]) | (apply w_move; exact rfl; exact rfl) | (apply w_assign; exact rfl; exact rfl) | apply AWp.seq | apply AWp.region | ((apply AWp.condP; exact rfl) <;> intro h) | apply AWp.block | apply AWp.ret | apply AWp.exit | apply AWp.skip | (apply w_len; exact rfl; exact rfl; first | exact .ints _ | exact .intss _ | exact .sli rfl | exact .sls rfl | exact .slr rfl | exact .orow rfl | exact .nil) | omega | ((first | apply w_lss | apply w_eql | apply w_add | apply w_idx | apply w_ld | apply w_fa); iterate 3 exact rfl) | ((first | apply w_idxs | apply w_lds); iterate 3 exact rfl) | ((apply w_bs1); iterate 2 exact rfl) | (apply w_ldb; iterate 5 exact rfl) | (apply w_app; exact rfl; exact rfl; exact rfl; exact rfl; (exact .sli rfl); rotate_left 1; simp only [Env.mp, List.map_cons, List.map_nil, List.set_cons_zero, List.set_cons_succ, AV.kill, AV.kill1, AO.kill, AV.noRow, AV.noRow1, AO.via, reduceIte, Nat.reduceEqDiff, Nat.reduceLT, Env.up, Nat.zero_ne_one, Nat.one_ne_zero, Nat.reduceAdd, List.cons_append, List.nil_append]; rotate_left 1) | (apply inI_of <;> omega))
      exact ⟨k + 1, by omega, by omega, ⟨lee rfl (by (repeat (first | exact le_nil | refine le_eq rfl rfl ?_))), by (repeat (first | exact lo_nil | refine lo_eq rfl ?_ | refine lo_eq (congrArg (AO.sli _) (hs.symm)) ?_)), rfl, rfl⟩⟩
    · rw [if_neg hc, List.append_nil] at hs
      repeat' (first | (apply AOps.nil; try simp only [List.nil_append, List.cons_append, List.set_cons_zero, List.set_cons_succ, List.length_cons, List.length_nil, Nat.reduceAdd, AV.sh, AV.sh1, AV.sh0, AO.sh, List.map_cons, List.map_nil, Nat.zero_add, Nat.add_zero, setAll]) | (apply w_move; exact rfl; exact rfl) | (apply w_assign; exact rfl; exact rfl) | apply AWp.seq | apply AWp.region | ((apply AWp.condP; exact rfl) <;> intro h) | apply AWp.block | apply AWp.ret | apply AWp.exit | apply AWp.skip | (apply w_len; exact rfl; exact rfl; first | exact .ints _ | exact .intss _ | exact .sli rfl | exact .sls rfl | exact .slr rfl | exact .orow rfl | exact .nil) | omega | ((first | apply w_lss | apply w_eql | apply w_add | apply w_idx | apply w_ld | apply w_fa); iterate 3 exact rfl) | ((first | apply w_idxs | apply w_lds); iterate 3 exact rfl) | (apply w_ldb; iterate 5 exact rfl) | (apply inI_of <;> omega))
      exact ⟨k + 1, by omega, by omega, ⟨lee rfl (by (repeat (first | exact le_nil | refine le_eq rfl rfl ?_))), by (repeat (first | exact lo_nil | refine lo_eq rfl ?_ | refine lo_eq (congrArg (AO.sli _) (hs.symm)) ?_)), rfl, rfl⟩⟩
  have ek : k = E.length := by omega
  subst ek
  rw [List.take_length, ← near_cut]
  repeat' (first | (apply AOps.nil; try simp only [List.nil_append, List.cons_append, List.set_cons_zero, List.set_cons_succ, List.length_cons, List.length_nil, Nat.reduceAdd, AV.sh, AV.sh1, AV.sh0, AO.sh, List.map_cons, List.map_nil, Nat.zero_add, Nat.add_zero, setAll]) | (apply w_move; exact rfl; exact rfl) | (apply w_assign; exact rfl; exact rfl) | apply AWp.seq | apply AWp.region | ((apply AWp.condP; exact rfl) <;> intro h) | apply AWp.block | apply AWp.ret | apply AWp.exit | apply AWp.skip | (apply w_len; exact rfl; exact rfl; first | exact .ints _ | exact .intss _ | exact .sli rfl | exact .sls rfl | exact .slr rfl | exact .orow rfl | exact .nil) | omega | ((first | apply w_lss | apply w_ld | apply w_fa); iterate 3 exact rfl) | (apply w_ldb; iterate 5 exact rfl))
  exact ⟨_, _, _, .v1 Try.results26 rfl, .sli rfl, rfl, rfl⟩

set_option maxHeartbeats 16000000 in
theorem l11Order_c (W : List Int) (E : List (List Int)) (h : GrF W E) (r : Int) (hr : 0 ≤ r ∧ r < W.length) :
    AFnC Try.prog 59 [.agg [.ints W, .intss E], .i r] [] (fun v os => v = .tup [.own 0, .own 1] ∧ ∃ o p, Tr W.length (nearL E) r o p ∧ os = [.sli 2 o, .sli 2 p]) := by
  have hn := h.n
  have hF := h.fo.fst
  have hstart := Inv.start (near := nearL E) hr
  have hnear := l11Near_c W E h
  (refine AFnC.start Try.func59 Try.ntmps59 rfl (by kernel_rfl) fun K => ?_; simp only [Env.start, enumF, List.map_cons, List.map_nil, AV.sh, List.length_cons, List.length_nil, Nat.reduceAdd, Nat.reduceSub, List.cons_append, List.nil_append])
  repeat' (first | (apply AOps.nil; try simp only [List.nil_append, List.cons_append, List.set_cons_zero, List.set_cons_succ, List.length_cons, List.length_nil, Nat.reduceAdd, AV.sh, AV.sh1, AV.sh0, AO.sh, List.map_cons, List.map_nil, Nat.zero_add, Nat.add_zero, setAll]) | (apply w_assign; exact rfl; exact rfl) | apply AWp.seq | apply AWp.region | apply AWp.block | ((apply w_boxa); iterate 2 exact rfl) | (apply w_bs0; iterate 1 exact rfl))
  refine AWp.loop (ι := Nat) (fun i => ⟨74, [(1, .i r), (2, .optr 1 0), (6, .own 2), (7, .i i)]⟩) (fun i => [.keep 1 K, .bx 29 [.ints W, .intss E], .sli 2 (List.replicate i (-1))]) (fun i => i ≤ W.length) (fun i => W.length - i) 0 (by omega) ⟨lee rfl (by (repeat (first | exact le_nil | refine le_eq rfl rfl ?_))), by (repeat (first | exact lo_nil | refine lo_eq rfl ?_)), rfl, rfl⟩ ?_
  intro i i0
  have hrl : (List.replicate i (-1 : Int)).length = i := List.length_replicate
  have hrs : List.replicate (i + 1) (-1 : Int) = List.replicate i (-1) ++ [-1] := List.replicate_succ'
  by_cases hi : i < W.length
  · have hbl : ((List.replicate i (-1 : Int)).length + [(-1 : Int)].length) * 8 ≤ 140737488355328 := by
      simp only [List.length_cons, List.length_nil]; omega
    generalize List.replicate i (-1 : Int) = L at *
    repeat' (first | (apply AOps.nil; try simp only [List.nil_append, List.cons_append, List.set_cons_zero, List.set_cons_succ, List.length_cons, List.length_nil, Nat.reduceAdd, AV.sh, AV.sh1, AV.sh0, AO.sh, List.map_cons, List.map_nil, Nat.zero_add, Nat.add_zero, setAll]) | (apply w_move; exact rfl; exact rfl) | (apply w_assign; exact rfl; exact rfl) | apply AWp.seq | apply AWp.region | ((apply AWp.condP; exact rfl) <;> intro h) | apply AWp.block | apply AWp.exit | apply AWp.skip | (apply w_len; exact rfl; exact rfl; first | exact .ints _ | exact .intss _ | exact .sli rfl | exact .sls rfl | exact .slr rfl | exact .orow rfl | exact .nil) | omega | ((first | apply w_lss | apply w_add | apply w_ld | apply w_fa); iterate 3 exact rfl) | ((apply w_bs1); iterate 2 exact rfl) | (apply w_ldb; iterate 5 exact rfl) | (apply w_app; exact rfl; exact rfl; exact rfl; exact rfl; (exact .sli rfl); rotate_left 1; simp only [Env.mp, List.map_cons, List.map_nil, List.set_cons_zero, List.set_cons_succ, AV.kill, AV.kill1, AO.kill, AV.noRow, AV.noRow1, AO.via, reduceIte, Nat.reduceEqDiff, Nat.reduceLT, Env.up, Nat.zero_ne_one, Nat.one_ne_zero, Nat.reduceAdd, List.cons_append, List.nil_append]; rotate_left 1) | (apply inI_of <;> omega))
    exact ⟨i + 1, by omega, by omega, ⟨lee rfl (by (repeat (first | exact le_nil | refine le_eq rfl rfl ?_))), by (repeat (first | exact lo_nil | refine lo_eq rfl ?_ | refine lo_eq (congrArg (AO.sli _) (hrs.symm)) ?_)), rfl, rfl⟩⟩
  have ei : i = W.length := by omega
  subst ei
  repeat' (first | (apply AOps.nil; try simp only [List.nil_append, List.cons_append, List.set_cons_zero, List.set_cons_succ, List.length_cons, List.length_nil, Nat.reduceAdd, AV.sh, AV.sh1, AV.sh0, AO.sh, List.map_cons, List.map_nil, Nat.zero_add, Nat.add_zero, setAll]) | (apply w_move; exact rfl; exact rfl) | (apply w_assign; exact rfl; exact rfl) | apply AWp.seq | apply AWp.region | ((apply AWp.condP; exact rfl) <;> intro h) | apply AWp.block | apply AWp.exit | apply AWp.skip | (apply w_len; exact rfl; exact rfl; first | exact .ints _ | exact .intss _ | exact .sli rfl | exact .sls rfl | exact .slr rfl | exact .orow rfl | exact .nil) | omega | ((first | apply w_lss | apply w_ld | apply w_fa); iterate 3 exact rfl) | ((apply w_bs1); iterate 2 exact rfl) | (apply w_ldb; iterate 5 exact rfl) | (apply inI_of <;> omega))
  refine AWp.loop (ι := Nat × List Int × List Int) (fun x => ⟨74, [(2, .optr 1 0), (6, .own 2), (8, .own 3), (9, .i x.1)]⟩) (fun x => [.keep 1 K, .bx 29 [.ints W, .intss E], .sli 2 x.2.2, .sli 2 x.2.1]) (fun x => Inv W.length (nearL E) r x.1 x.2.1 x.2.2) (fun x => W.length - x.1) (0, [r], List.replicate W.length (-1)) hstart ⟨lee rfl (by (repeat (first | exact le_nil | refine le_eq rfl rfl ?_))), by (repeat (first | exact lo_nil | refine lo_eq rfl ?_)), rfl, rfl⟩ ?_
  rintro ⟨i, o, p⟩ hI
  have hob := hI.bd
  have hle := hI.le
  simp only at hI hob hle
  have hpl := hI.len
  by_cases hi2 : i < o.length
  · obtain ⟨v, ev⟩ : ∃ v, v = geti o (((i : Nat) : Int).toNat : Nat) := ⟨_, rfl⟩
    have ev2 : o[i]? = some v := by
      rw [ev, Int.toNat_natCast]; simp [geti, List.getD_eq_getElem?_getD, List.getElem?_eq_getElem hi2]
    have hvm : v ∈ o := List.mem_of_getElem? ev2
    have hvr := hI.rng v hvm
    have hnv := hnear v
    have hnl := fun u => hF.bnd v u
    have hnd := hF.nd v
    have hin := hI.into ev2
    have hlen : (nearL E v).length ≤ W.length := nd_len hnd (fun x hx => (hF.bnd v x hx).1)
    repeat' (first | (apply AOps.nil; try simp only [List.nil_append, List.cons_append, List.set_cons_zero, List.set_cons_succ, List.length_cons, List.length_nil, Nat.reduceAdd, AV.sh, AV.sh1, AV.sh0, AO.sh, List.map_cons, List.map_nil, Nat.zero_add, Nat.add_zero, setAll]) | (apply w_move; exact rfl; exact rfl) | (apply w_assign; exact rfl; exact rfl) | apply AWp.seq | apply AWp.region | ((apply AWp.condP; exact rfl) <;> intro h) | apply AWp.block | apply AWp.ret | apply AWp.exit | apply AWp.skip | (apply w_len; exact rfl; exact rfl; first | exact .ints _ | exact .intss _ | exact .sli rfl | exact .sls rfl | exact .slr rfl | exact .orow rfl | exact .nil) | omega | ((apply w_lss); iterate 3 exact rfl))
    refine AWp.regionG [] (by kernel_rfl) (envC := ⟨74, [(2, .optr 1 0), (6, .own 2), (8, .own 3), (9, .i i), (10, .own 4)]⟩) (osC := [.keep 1 K, .bx 29 [.ints W, .intss E], .sli 2 p, .sli 2 o, .sli 2 (nearL E v)]) rfl (by first | exact rfl | (simp [AO.lim, AV.lim, bL_lim]; done)) ?_ ?_
    · rw [ev] at hnv ⊢
      repeat' (first | (apply AOps.nil; try simp only [List.nil_append, List.cons_append, List.set_cons_zero, List.set_cons_succ, List.length_cons, List.length_nil, Nat.reduceAdd, AV.sh, AV.sh1, AV.sh0, AO.sh, List.map_cons, List.map_nil, Nat.zero_add, Nat.add_zero, setAll]) | (apply w_move; exact rfl; exact rfl) | (apply w_assign; exact rfl; exact rfl) | apply AllOfG.nil | (apply AllOfG.consS; exact rfl; exact rfl) | (apply AAnyG.takeW; exact rfl; exact rfl; kernel_rfl; kernel_rfl) | (apply AAnyG.takeL; exact rfl; exact rfl; kernel_rfl) | (apply AAnyG.all; exact rfl) | (apply AAnyG.done; exact rfl) | (apply w_callm (hnv); (focus ((repeat (first | exact im_nil | refine im_cons rfl (im_agg2 (.ints _) (.intss _)) ?_ | refine im_cons rfl (.val _) ?_)); done)); rintro r os0 ⟨rfl, rfl⟩; try simp only [List.nil_append, List.cons_append, List.set_cons_zero, List.set_cons_succ, List.length_cons, List.length_nil, Nat.reduceAdd, AV.sh, AV.sh1, AV.sh0, AO.sh, List.map_cons, List.map_nil, Nat.zero_add, Nat.add_zero, setAll]) | omega | (apply w_idxo; exact rfl; exact rfl; (exact .sli rfl); exact rfl) | (apply w_ldo; iterate 4 exact rfl) | (apply w_ldst; iterate 5 exact rfl))
      all_goals (apply Or.inl; refine ⟨lee rfl ?_, ?_, rfl, (by first | exact rfl | (simp [AO.lim, AV.lim, bL_lim]; done))⟩; (focus ((repeat (first | exact le_nil | refine le_eq rfl rfl ?_)); done)); (focus ((repeat (first | exact lo_nil | refine lo_eq rfl ?_)); done)))
    clear hnv
    repeat' (first | (apply AOps.nil; try simp only [List.nil_append, List.cons_append, List.set_cons_zero, List.set_cons_succ, List.length_cons, List.length_nil, Nat.reduceAdd, AV.sh, AV.sh1, AV.sh0, AO.sh, List.map_cons, List.map_nil, Nat.zero_add, Nat.add_zero, setAll]) | (apply w_assign; exact rfl; exact rfl) | apply AWp.seq | apply AWp.region | apply AWp.block)
    refine AWp.loop (ι := Nat × List Int × List Int) (fun x => ⟨74, [(2, .optr 1 0), (6, .own 2), (8, .own 3), (9, .i i), (10, .own 4), (11, .i x.1)]⟩) (fun x => [.keep 1 K, .bx 29 [.ints W, .intss E], .sli 2 x.2.2, .sli 2 x.2.1, .sli 2 (nearL E v)]) (fun x => x.1 ≤ (nearL E v).length ∧ InvK W.length (nearL E) r i v ((nearL E v).take x.1) x.2.1 x.2.2) (fun x => (nearL E v).length - x.1) (0, o, p) ⟨by simp only; omega, hin⟩ ⟨lee rfl (by (repeat (first | exact le_nil | refine le_eq rfl rfl ?_))), by (repeat (first | exact lo_nil | refine lo_eq rfl ?_)), rfl, (by first | exact rfl | (simp [AO.lim, AV.lim, bL_lim]; done))⟩ ?_
    rintro ⟨k, o, p⟩ ⟨k0, hK⟩
    simp only at k0 hK
    have hob2 := hK.bd
    have hpl2 := hK.len
    have hat := hK.at_
    have hio : i < o.length := (List.getElem?_eq_some_iff.1 hat).1
    have hgv : geti o (((i : Nat) : Int).toNat : Nat) = v := by
      rw [Int.toNat_natCast]; simp [geti, List.getD_eq_getElem?_getD, hat]
    by_cases hk : k < (nearL E v).length
    · obtain ⟨u, eu⟩ : ∃ u, u = geti (nearL E v) (((k : Nat) : Int).toNat : Nat) := ⟨_, rfl⟩
      have eu2 : (nearL E v)[k]? = some u := by
        rw [eu, Int.toNat_natCast]; simp [geti, List.getD_eq_getElem?_getD, List.getElem?_eq_getElem hk]
      have hum : u ∈ nearL E v := List.mem_of_getElem? eu2
      obtain ⟨u0, _, _⟩ := hnl u hum
      have et : (nearL E v).take (k + 1) = (nearL E v).take k ++ [u] := by rw [List.take_add_one, eu2]; rfl
      have hdn : ∀ x ∈ (nearL E v).take k, x ∈ nearL E v := fun x hx => List.mem_of_mem_take hx
      have hud : u ∉ (nearL E v).take k := fun hx => by
        obtain ⟨j, hj, ej⟩ := List.mem_take_iff_getElem.1 hx
        have e1 : (nearL E v)[j]? = some u := by rw [List.getElem?_eq_getElem (by omega), ej]
        have := nd_get hnd e1 eu2
        omega
      have hskip := fun hu => hK.skip (u := u) hu
      have hpush := fun hu => hK.push hF hdn hum hud hu
      rw [← et] at hskip hpush
      generalize nearL E v = nv at *
      by_cases hup : u = geti p v
      · have hq := hskip hup
        have hup' : geti nv (((k : Nat) : Int).toNat : Nat) = geti p ((geti o (((i : Nat) : Int).toNat : Nat)).toNat : Nat) := by rw [hgv, Int.toNat_of_nonneg hvr.1, ← eu]; exact hup
        repeat' (first | (apply AOps.nil; try simp only [List.nil_append, List.cons_append, List.set_cons_zero, List.set_cons_succ, List.length_cons, List.length_nil, Nat.reduceAdd, AV.sh, AV.sh1, AV.sh0, AO.sh, List.map_cons, List.map_nil, Nat.zero_add, Nat.add_zero, setAll]) | (apply w_move; exact rfl; exact rfl) | apply AWp.seq | apply AWp.region | ((apply AWp.condP; exact rfl) <;> intro h) | apply AWp.block | apply AWp.exit | apply AWp.skip | (apply w_len; exact rfl; exact rfl; first | exact .ints _ | exact .intss _ | exact .sli rfl | exact .sls rfl | exact .slr rfl | exact .orow rfl | exact .nil) | omega | ((apply w_lss); iterate 3 exact rfl))
        refine AWp.regionQ (by kernel_rfl) (by kernel_rfl) ?_
        repeat' (first | (apply AOps.nil; try simp only [List.nil_append, List.cons_append, List.set_cons_zero, List.set_cons_succ, List.length_cons, List.length_nil, Nat.reduceAdd, AV.sh, AV.sh1, AV.sh0, AO.sh, List.map_cons, List.map_nil, Nat.zero_add, Nat.add_zero, setAll]) | (apply w_move; exact rfl; exact rfl) | (apply w_assign; exact rfl; exact rfl) | apply AWp.seq | apply AWp.region | ((apply AWp.condP; exact rfl) <;> intro h) | apply AWp.skip | omega | ((first | apply w_neq | apply w_add | apply w_idx | apply w_ld); iterate 3 exact rfl) | (apply w_idxo; exact rfl; exact rfl; (exact .sli rfl); exact rfl) | (apply w_ldo; iterate 4 exact rfl) | (apply inI_of <;> omega))
        all_goals try (exfalso; first | exact absurd hup' (by assumption) | exact absurd (by assumption) hup')
        exact ⟨(k + 1, o, p), ⟨by simp only; omega, hq⟩, by simp only; omega, ⟨lee rfl (by (repeat (first | exact le_nil | refine le_eq rfl rfl ?_))), by (repeat (first | exact lo_nil | refine lo_eq rfl ?_)), rfl, (by first | exact rfl | (simp [AO.lim, AV.lim, bL_lim]; done))⟩⟩
      · have hq := hpush hup
        have hup' : ¬ geti nv (((k : Nat) : Int).toNat : Nat) = geti p ((geti o (((i : Nat) : Int).toNat : Nat)).toNat : Nat) := by rw [hgv, Int.toNat_of_nonneg hvr.1, ← eu]; exact hup
        have hbl : (o.length + [u].length) * 8 ≤ 140737488355328 := by
          simp only [List.length_cons, List.length_nil]; omega
        repeat' (first | (apply AOps.nil; try simp only [List.nil_append, List.cons_append, List.set_cons_zero, List.set_cons_succ, List.length_cons, List.length_nil, Nat.reduceAdd, AV.sh, AV.sh1, AV.sh0, AO.sh, List.map_cons, List.map_nil, Nat.zero_add, Nat.add_zero, setAll]) | (apply w_move; exact rfl; exact rfl) | apply AWp.seq | apply AWp.region | ((apply AWp.condP; exact rfl) <;> intro h) | apply AWp.block | apply AWp.exit | apply AWp.skip | (apply w_len; exact rfl; exact rfl; first | exact .ints _ | exact .intss _ | exact .sli rfl | exact .sls rfl | exact .slr rfl | exact .orow rfl | exact .nil) | omega | ((apply w_lss); iterate 3 exact rfl))
        refine AWp.regionQ (by kernel_rfl) (by kernel_rfl) ?_
        repeat' (first | (apply AOps.nil; try simp only [List.nil_append, List.cons_append, List.set_cons_zero, List.set_cons_succ, List.length_cons, List.length_nil, Nat.reduceAdd, AV.sh, AV.sh1, AV.sh0, AO.sh, List.map_cons, List.map_nil, Nat.zero_add, Nat.add_zero, setAll]) | (apply w_move; exact rfl; exact rfl) | apply AWp.seq | apply AWp.region | ((apply AWp.condP; exact rfl) <;> intro h) | apply AWp.skip | omega | ((first | apply w_neq | apply w_idx | apply w_ld); iterate 3 exact rfl) | (apply w_idxo; exact rfl; exact rfl; (exact .sli rfl); exact rfl) | (apply w_ldo; iterate 4 exact rfl))
        all_goals try (exfalso; first | exact absurd hup' (by assumption) | exact absurd (by assumption) hup')
        refine AWp.regionG [] (by kernel_rfl) (envC := ⟨74, [(2, .optr 1 0), (6, .own 2), (8, .own 3), (9, .i i), (10, .own 4), (11, .i k)]⟩) (osC := [.keep 1 K, .bx 29 [.ints W, .intss E], .sli 2 (p.set u.toNat v), .sli 2 o, .sli 2 nv]) rfl (by first | exact rfl | (simp [AO.lim, AV.lim, bL_lim]; done)) ?_ ?_
        · rw [eu] at u0 ⊢
          rw [← hgv] at hvr ⊢
          repeat' (first | (apply AOps.nil; try simp only [List.nil_append, List.cons_append, List.set_cons_zero, List.set_cons_succ, List.length_cons, List.length_nil, Nat.reduceAdd, AV.sh, AV.sh1, AV.sh0, AO.sh, List.map_cons, List.map_nil, Nat.zero_add, Nat.add_zero, setAll]) | (apply w_move; exact rfl; exact rfl) | apply AllOfG.nil | (apply AllOfG.consS; exact rfl; exact rfl) | (apply AAnyG.takeW; exact rfl; exact rfl; kernel_rfl; kernel_rfl) | (apply AAnyG.takeL; exact rfl; exact rfl; kernel_rfl) | (apply AAnyG.all; exact rfl) | (apply AAnyG.done; exact rfl) | omega | (apply w_idxo; exact rfl; exact rfl; (exact .sli rfl); exact rfl) | (apply w_ldo; iterate 4 exact rfl) | (apply w_sti; exact rfl; exact rfl; rotate_left 1; exact rfl; rotate_left 2) | (apply inI_of <;> omega))
          all_goals (apply Or.inl; refine ⟨lee rfl ?_, ?_, rfl, (by first | exact rfl | (simp [AO.lim, AV.lim, bL_lim]; done))⟩; (focus ((repeat (first | exact le_nil | refine le_eq rfl rfl ?_)); done)); (focus ((repeat (first | exact lo_nil | refine lo_eq rfl ?_)); done)))
        generalize p.set u.toNat v = p' at *
        repeat' (first | (apply AOps.nil; try simp only [List.nil_append, List.cons_append, List.set_cons_zero, List.set_cons_succ, List.length_cons, List.length_nil, Nat.reduceAdd, AV.sh, AV.sh1, AV.sh0, AO.sh, List.map_cons, List.map_nil, Nat.zero_add, Nat.add_zero, setAll]) | (apply w_move; exact rfl; exact rfl) | (apply w_assign; exact rfl; exact rfl) | apply AWp.region | omega | ((first | apply w_add | apply w_idx | apply w_ld); iterate 3 exact rfl) | ((apply w_bs1); iterate 2 exact rfl) | (apply w_idxo; exact rfl; exact rfl; (exact .sli rfl); exact rfl) | (apply w_ldo; iterate 4 exact rfl) | (apply w_app; exact rfl; exact rfl; exact rfl; exact rfl; (exact .sli rfl); rotate_left 1; simp only [Env.mp, List.map_cons, List.map_nil, List.set_cons_zero, List.set_cons_succ, AV.kill, AV.kill1, AO.kill, AV.noRow, AV.noRow1, AO.via, reduceIte, Nat.reduceEqDiff, Nat.reduceLT, Env.up, Nat.zero_ne_one, Nat.one_ne_zero, Nat.reduceAdd, List.cons_append, List.nil_append]; rotate_left 1) | (apply inI_of <;> omega))
        rw [eu] at hbl u0
        repeat' (apply AOps.nil; try simp only [List.nil_append, List.cons_append, List.set_cons_zero, List.set_cons_succ, List.length_cons, List.length_nil, Nat.reduceAdd, AV.sh, AV.sh1, AV.sh0, AO.sh, List.map_cons, List.map_nil, Nat.zero_add, Nat.add_zero, setAll])
        exact ⟨(k + 1, o ++ [u], p'), ⟨by simp only; omega, hq⟩, by simp only; omega, by rw [eu]; exact ⟨lee rfl (by (repeat (first | exact le_nil | refine le_eq rfl rfl ?_))), by (repeat (first | exact lo_nil | refine lo_eq rfl ?_)), rfl, (by first | exact rfl | (simp [AO.lim, AV.lim, bL_lim]; done))⟩⟩
    · have ek : k = (nearL E v).length := by omega
      subst ek
      rw [List.take_length] at hK
      have hout := hK.out
      repeat' (first | (apply AOps.nil; try simp only [List.nil_append, List.cons_append, List.set_cons_zero, List.set_cons_succ, List.length_cons, List.length_nil, Nat.reduceAdd, AV.sh, AV.sh1, AV.sh0, AO.sh, List.map_cons, List.map_nil, Nat.zero_add, Nat.add_zero, setAll]) | (apply w_move; exact rfl; exact rfl) | (apply w_assign; exact rfl; exact rfl) | apply AWp.seq | apply AWp.region | ((apply AWp.condP; exact rfl) <;> intro h) | apply AWp.block | apply AWp.exit | apply AWp.skip | (apply w_len; exact rfl; exact rfl; first | exact .ints _ | exact .intss _ | exact .sli rfl | exact .sls rfl | exact .slr rfl | exact .orow rfl | exact .nil) | omega | ((first | apply w_lss | apply w_add); iterate 3 exact rfl) | (apply inI_of <;> omega))
      exact ⟨(i + 1, o, p), hout, by simp only; omega, ⟨lee rfl (by (repeat (first | exact le_nil | refine le_eq rfl rfl ?_))), by (repeat (first | exact lo_nil | refine lo_eq rfl ?_)), rfl, (by first | exact rfl | (simp [AO.lim, AV.lim, bL_lim]; done))⟩⟩
  · have ei : i = o.length := by omega
    subst ei
    repeat' (first | (apply AOps.nil; try simp only [List.nil_append, List.cons_append, List.set_cons_zero, List.set_cons_succ, List.length_cons, List.length_nil, Nat.reduceAdd, AV.sh, AV.sh1, AV.sh0, AO.sh, List.map_cons, List.map_nil, Nat.zero_add, Nat.add_zero, setAll]) | (apply w_move; exact rfl; exact rfl) | (apply w_assign; exact rfl; exact rfl) | apply AWp.seq | apply AWp.region | ((apply AWp.condP; exact rfl) <;> intro h) | apply AWp.block | apply AWp.ret | apply AWp.exit | apply AWp.skip | (apply w_len; exact rfl; exact rfl; first | exact .ints _ | exact .intss _ | exact .sli rfl | exact .sls rfl | exact .slr rfl | exact .orow rfl | exact .nil) | omega | ((apply w_lss); iterate 3 exact rfl))
    refine ⟨⟨74, [(4, .own 1), (5, .own 2)]⟩, [.sli 2 o, .sli 2 p], .tup [.own 0, .own 1], Turns.or ?_, ResIs.a2 rfl rfl rfl, all_cons' trivial (all_cons' trivial all_nil'), ⟨rfl, o, p, hI, rfl⟩, all_cons' trivial (all_cons' trivial all_nil')⟩
    (apply Or.inr; refine ⟨[0, 3, 2], ⟨by decide, fun x hx => Nat.lt_of_lt_of_le ((by decide : ∀ x ∈ ([0, 3, 2] : List Nat), x < 4) x hx) (Nat.le_of_ble_eq_true rfl)⟩, lee rfl ?_, ?_, rfl, (by first | exact rfl | (simp [AO.lim, AV.lim, bL_lim]; done))⟩; (focus ((repeat (first | exact le_nil | refine le_eq rfl rfl ?_)); done)); (focus ((repeat (first | exact lo_nil | refine lo_eq rfl ?_)); done)))
end Go.Proofs.Ytbalbiliejjnoaa
/-
  Numbers of components, walked: the reference. Condition: a forest of at most 40 vertices.
-/
namespace Go.Proofs.Ytbalbiliejjnoaa
open Go Go.RowKit
attribute [local irreducible] AWp AOps ResIs Ret1 QOp LOp COp AFnV AFn Imms LeE LeO
set_option maxHeartbeats 1000000
set_option linter.unusedSimpArgs false
set_option linter.unusedVariables false

theorem l01Index_at (L : List Int) (p : Int) (j0 : Nat) (hl : L.length ≤ 1000000) (h0 : j0 < L.length) (h1 : geti L (j0 : Nat) = p) (h2 : ∀ j : Nat, j < j0 → geti L (j : Nat) ≠ p) : AFnV Try.prog 45 [.ints L, .i p] (.int .i64 j0) := by
  (refine AFnV.start Try.func45 Try.ntmps45 rfl (by kernel_rfl) fun hk => ?_; simp only [Env.start, enumF, List.length_cons, List.length_nil, Nat.reduceAdd, Nat.reduceSub, List.cons_append, List.nil_append])
  repeat' (first | (apply AOps.nil; try simp only [List.nil_append, List.cons_append, List.set_cons_zero, List.set_cons_succ, List.length_cons, List.length_nil, Nat.reduceAdd, AV.sh, AV.sh1, AV.sh0, AO.sh, List.map_cons, List.map_nil, Nat.zero_add, Nat.add_zero, setAll]) | (apply w_assign; exact rfl; exact rfl) | apply AWp.seq | apply AWp.region | apply AWp.block)
  refine AWp.loop (ι := Nat) (fun i => ⟨19, [(0, .ints L), (1, .i p), (5, .i i)]⟩) (fun _ => []) (fun i => i ≤ j0) (fun i => j0 - i) 0 (by omega) ⟨lee rfl (by (repeat (first | exact le_nil | refine le_eq rfl rfl ?_))), by (repeat (exact lo_nil)), rfl, rfl⟩ ?_
  intro i i0
  by_cases e : i = j0
  · subst e
    repeat' (first | (apply AOps.nil; try simp only [List.nil_append, List.cons_append, List.set_cons_zero, List.set_cons_succ, List.length_cons, List.length_nil, Nat.reduceAdd, AV.sh, AV.sh1, AV.sh0, AO.sh, List.map_cons, List.map_nil, Nat.zero_add, Nat.add_zero, setAll]) | (apply w_move; exact rfl; exact rfl) | (apply w_assign; exact rfl; exact rfl) | apply AWp.seq | apply AWp.region | ((apply AWp.condP; exact rfl) <;> intro h) | apply AWp.block | apply AWp.ret | apply AWp.exit | apply AWp.skip | (apply w_len; exact rfl; exact rfl; first | exact .ints _ | exact .intss _ | exact .sli rfl | exact .sls rfl | exact .slr rfl | exact .orow rfl | exact .nil) | omega | ((first | apply w_lss | apply w_eql | apply w_idx | apply w_ld); iterate 3 exact rfl))
    exact .int Try.results45 rfl rfl
  · have := h2 i (by omega)
    repeat' (first | (apply AOps.nil; try simp only [List.nil_append, List.cons_append, List.set_cons_zero, List.set_cons_succ, List.length_cons, List.length_nil, Nat.reduceAdd, AV.sh, AV.sh1, AV.sh0, AO.sh, List.map_cons, List.map_nil, Nat.zero_add, Nat.add_zero, setAll]) | (apply w_move; exact rfl; exact rfl) | (apply w_assign; exact rfl; exact rfl) | apply AWp.seq | apply AWp.region | ((apply AWp.condP; exact rfl) <;> intro h) | apply AWp.block | apply AWp.ret | apply AWp.exit | apply AWp.skip | (apply w_len; exact rfl; exact rfl; first | exact .ints _ | exact .intss _ | exact .sli rfl | exact .sls rfl | exact .slr rfl | exact .orow rfl | exact .nil) | omega | ((first | apply w_lss | apply w_eql | apply w_add | apply w_idx | apply w_ld); iterate 3 exact rfl) | (apply inI_of <;> omega))
    exact ⟨i + 1, by omega, by omega, ⟨lee rfl (by (repeat (first | exact le_nil | refine le_eq rfl rfl ?_))), by (repeat (exact lo_nil)), rfl, rfl⟩⟩

set_option maxHeartbeats 16000000 in
theorem l11Labels_c (W : List Int) (E : List (List Int)) (h : GrF W E) : AFn Try.prog 44 [.agg [.ints W, .intss E]] (IsInts 2 (labS W.length (nearL E) W.length)) := by
  have hn := h.n
  have hF := h.fo.fst
  have hord := l11Order_c W E h
  have hstart := LbI.start (near := nearL E) (n := W.length) (by omega)
  (refine AFn.start Try.func44 Try.ntmps44 rfl (by kernel_rfl) fun hk => ?_; simp only [Env.start, enumF, List.length_cons, List.length_nil, Nat.reduceAdd, Nat.reduceSub, List.cons_append, List.nil_append])
  repeat' (first | (apply AOps.nil; try simp only [List.nil_append, List.cons_append, List.set_cons_zero, List.set_cons_succ, List.length_cons, List.length_nil, Nat.reduceAdd, AV.sh, AV.sh1, AV.sh0, AO.sh, List.map_cons, List.map_nil, Nat.zero_add, Nat.add_zero, setAll]) | (apply w_assign; exact rfl; exact rfl) | apply AWp.seq | apply AWp.region | apply AWp.block | ((apply w_boxa); iterate 2 exact rfl) | (apply w_bs0; iterate 1 exact rfl))
  refine AWp.loop (ι := Nat) (fun i => ⟨54, [(1, .optr 0 0), (3, .own 1), (4, .i 0), (5, .i i)]⟩) (fun i => [.bx 29 [.ints W, .intss E], .sli 2 (List.replicate i (-1))]) (fun i => i ≤ W.length) (fun i => W.length - i) 0 (by omega) ⟨lee rfl (by (repeat (first | exact le_nil | refine le_eq rfl rfl ?_))), by (repeat (first | exact lo_nil | refine lo_eq rfl ?_)), rfl, rfl⟩ ?_
  intro i i0
  have hrl : (List.replicate i (-1 : Int)).length = i := List.length_replicate
  have hrs : List.replicate (i + 1) (-1 : Int) = List.replicate i (-1) ++ [-1] := List.replicate_succ'
  by_cases hi : i < W.length
  · have hbl : ((List.replicate i (-1 : Int)).length + [(-1 : Int)].length) * 8 ≤ 140737488355328 := by
      simp only [List.length_cons, List.length_nil]; omega
    generalize List.replicate i (-1 : Int) = L at *
    repeat' (first | (apply AOps.nil; try simp only [List.nil_append, List.cons_append, List.set_cons_zero, List.set_cons_succ, List.length_cons, List.length_nil, Nat.reduceAdd, AV.sh, AV.sh1, AV.sh0, AO.sh, List.map_cons, List.map_nil, Nat.zero_add, Nat.add_zero, setAll]) | (apply w_move; exact rfl; exact rfl) | (apply w_assign; exact rfl; exact rfl) | apply AWp.seq | apply AWp.region | ((apply AWp.condP; exact rfl) <;> intro h) | apply AWp.block | apply AWp.exit | apply AWp.skip | (apply w_len; exact rfl; exact rfl; first | exact .ints _ | exact .intss _ | exact .sli rfl | exact .sls rfl | exact .slr rfl | exact .orow rfl | exact .nil) | omega | ((first | apply w_lss | apply w_add | apply w_ld | apply w_fa); iterate 3 exact rfl) | ((apply w_bs1); iterate 2 exact rfl) | (apply w_ldb; iterate 5 exact rfl) | (apply w_app; exact rfl; exact rfl; exact rfl; exact rfl; (exact .sli rfl); rotate_left 1; simp only [Env.mp, List.map_cons, List.map_nil, List.set_cons_zero, List.set_cons_succ, AV.kill, AV.kill1, AO.kill, AV.noRow, AV.noRow1, AO.via, reduceIte, Nat.reduceEqDiff, Nat.reduceLT, Env.up, Nat.zero_ne_one, Nat.one_ne_zero, Nat.reduceAdd, List.cons_append, List.nil_append]; rotate_left 1) | (apply inI_of <;> omega))
    exact ⟨i + 1, by omega, by omega, ⟨lee rfl (by (repeat (first | exact le_nil | refine le_eq rfl rfl ?_))), by (repeat (first | exact lo_nil | refine lo_eq rfl ?_ | refine lo_eq (congrArg (AO.sli _) (hrs.symm)) ?_)), rfl, rfl⟩⟩
  have ei : i = W.length := by omega
  subst ei
  repeat' (first | (apply AOps.nil; try simp only [List.nil_append, List.cons_append, List.set_cons_zero, List.set_cons_succ, List.length_cons, List.length_nil, Nat.reduceAdd, AV.sh, AV.sh1, AV.sh0, AO.sh, List.map_cons, List.map_nil, Nat.zero_add, Nat.add_zero, setAll]) | (apply w_move; exact rfl; exact rfl) | (apply w_assign; exact rfl; exact rfl) | apply AWp.seq | apply AWp.region | ((apply AWp.condP; exact rfl) <;> intro h) | apply AWp.block | apply AWp.exit | apply AWp.skip | (apply w_len; exact rfl; exact rfl; first | exact .ints _ | exact .intss _ | exact .sli rfl | exact .sls rfl | exact .slr rfl | exact .orow rfl | exact .nil) | omega | ((first | apply w_lss | apply w_ld | apply w_fa); iterate 3 exact rfl) | (apply w_ldb; iterate 5 exact rfl))
  refine AWp.loop (ι := Nat × List Int × Int) (fun x => ⟨54, [(1, .optr 0 0), (3, .own 1), (4, .i x.2.2), (6, .i x.1)]⟩) (fun x => [.bx 29 [.ints W, .intss E], .sli 2 x.2.1]) (fun x => x.1 ≤ W.length ∧ LbI W.length (nearL E) x.1 x.2.1 x.2.2 ∧ x.2.1 = labS W.length (nearL E) x.1) (fun x => W.length - x.1) (0, List.replicate W.length (-1), 0) ⟨by simp only; omega, hstart, rfl⟩ ⟨lee rfl (by (repeat (first | exact le_nil | refine le_eq rfl rfl ?_))), by (repeat (first | exact lo_nil | refine lo_eq rfl ?_)), rfl, rfl⟩ ?_
  rintro ⟨i, L, m⟩ ⟨i1, hI, hS⟩
  simp only at i1 hI hS
  have hl := hI.len
  by_cases hi2 : i < W.length
  · have hmn : 0 ≤ m := by rw [hI.num]; omega
    by_cases hc : 0 ≤ geti L (i : Nat)
    · have hsk := hI.skip hi2 hc
      have hsk2 := labS_skip hI hi2 hc hS
      have hc' : 0 ≤ geti L (((i : Nat) : Int).toNat : Nat) := by rw [Int.toNat_natCast]; exact hc
      repeat' (first | (apply AOps.nil; try simp only [List.nil_append, List.cons_append, List.set_cons_zero, List.set_cons_succ, List.length_cons, List.length_nil, Nat.reduceAdd, AV.sh, AV.sh1, AV.sh0, AO.sh, List.map_cons, List.map_nil, Nat.zero_add, Nat.add_zero, setAll]) | (apply w_move; exact rfl; exact rfl) | (apply w_assign; exact rfl; exact rfl) | apply AWp.seq | apply AWp.region | ((apply AWp.condP; exact rfl) <;> intro h) | apply AWp.block | apply AWp.ret | apply AWp.exit | apply AWp.skip | (apply w_len; exact rfl; exact rfl; first | exact .ints _ | exact .intss _ | exact .sli rfl | exact .sls rfl | exact .slr rfl | exact .orow rfl | exact .nil) | omega | ((first | apply w_lss | apply w_geq | apply w_add | apply w_idx | apply w_ld); iterate 3 exact rfl) | (apply w_idxo; exact rfl; exact rfl; (exact .sli rfl); exact rfl) | (apply w_ldo; iterate 4 exact rfl) | (apply inI_of <;> omega))
      all_goals try (exfalso; omega)
      exact ⟨(i + 1, L, m), ⟨by simp only; omega, hsk, hsk2⟩, by simp only; omega, ⟨lee rfl (by (repeat (first | exact le_nil | refine le_eq rfl rfl ?_))), by (repeat (first | exact lo_nil | refine lo_eq rfl ?_)), rfl, rfl⟩⟩
    · have hc' : ¬ 0 ≤ geti L (((i : Nat) : Int).toNat : Nat) := by rw [Int.toNat_natCast]; exact hc
      have hor := hord (i : Nat) ⟨by omega, by omega⟩
      repeat' (first | (apply AOps.nil; try simp only [List.nil_append, List.cons_append, List.set_cons_zero, List.set_cons_succ, List.length_cons, List.length_nil, Nat.reduceAdd, AV.sh, AV.sh1, AV.sh0, AO.sh, List.map_cons, List.map_nil, Nat.zero_add, Nat.add_zero, setAll]) | (apply w_move; exact rfl; exact rfl) | (apply w_assign; exact rfl; exact rfl) | apply AWp.seq | apply AWp.region | ((apply AWp.condP; exact rfl) <;> intro h) | apply AWp.block | apply AWp.ret | apply AWp.exit | apply AWp.skip | (apply w_len; exact rfl; exact rfl; first | exact .ints _ | exact .intss _ | exact .sli rfl | exact .sls rfl | exact .slr rfl | exact .orow rfl | exact .nil) | (apply w_callc [] (hor); exact rfl; (exact handed0); (focus ((repeat (first | exact imu_nil | refine imu_cons rfl (imu_agg2 (.ints _) (.intss _)) ?_ | refine imu_cons rfl (.val _) ?_)); done)); rintro r os0 ⟨rfl, o, p, htr, rfl⟩; try simp only [List.nil_append, List.cons_append, List.set_cons_zero, List.set_cons_succ, List.length_cons, List.length_nil, Nat.reduceAdd, AV.sh, AV.sh1, AV.sh0, AO.sh, List.map_cons, List.map_nil, Nat.zero_add, Nat.add_zero, setAll]) | omega | ((first | apply w_lss | apply w_geq | apply w_idx | apply w_ld | apply w_extv); iterate 3 exact rfl) | ((first | apply w_idxs | apply w_lds | apply w_ext); iterate 3 exact rfl) | (apply w_idxo; exact rfl; exact rfl; (exact .sli rfl); exact rfl) | (apply w_ldo; iterate 4 exact rfl) | (apply w_ldst; iterate 5 exact rfl))
      all_goals try (exfalso; omega)
      obtain ⟨hnew, hmlt⟩ := hI.new hF hi2 hc htr
      have hnew2 := labS_new hF hI hi2 hc htr hS
      have hol := htr.bd
      have hor' := htr.rng
      refine AWp.loop (ι := Nat) (fun j => ⟨54, [(1, .optr 0 0), (3, .own 1), (4, .i m), (6, .i i), (7, .own 2), (9, .i j)]⟩) (fun j => [.bx 29 [.ints W, .intss E], .sli 2 (setT L (o.take j) m), .sli 2 o]) (fun j => j ≤ o.length) (fun j => o.length - j) 0 (by omega) ⟨lee rfl (by (repeat (first | exact le_nil | refine le_eq rfl rfl ?_))), by (repeat (first | exact lo_nil | refine lo_eq rfl ?_)), rfl, rfl⟩ ?_
      intro j j0
      have hsl := setT_len m (o.take j) L
      by_cases hj : j < o.length
      · obtain ⟨x, ex⟩ : ∃ x, x = geti o (((j : Nat) : Int).toNat : Nat) := ⟨_, rfl⟩
        have ex2 : o[j]? = some x := by
          rw [ex, Int.toNat_natCast]; simp [geti, List.getD_eq_getElem?_getD, List.getElem?_eq_getElem hj]
        have hxr := hor' x (List.mem_of_getElem? ex2)
        have et : setT L (o.take (j + 1)) m = (setT L (o.take j) m).set x.toNat m := by
          rw [List.take_add_one, ex2]; exact setT_snoc L (o.take j) x m
        generalize setT L (o.take j) m = M at *
        rw [ex] at hxr et
        repeat' (first | (apply AOps.nil; try simp only [List.nil_append, List.cons_append, List.set_cons_zero, List.set_cons_succ, List.length_cons, List.length_nil, Nat.reduceAdd, AV.sh, AV.sh1, AV.sh0, AO.sh, List.map_cons, List.map_nil, Nat.zero_add, Nat.add_zero, setAll]) | (apply w_move; exact rfl; exact rfl) | (apply w_assign; exact rfl; exact rfl) | apply AWp.seq | apply AWp.region | ((apply AWp.condP; exact rfl) <;> intro h) | apply AWp.block | apply AWp.exit | apply AWp.skip | (apply w_len; exact rfl; exact rfl; first | exact .ints _ | exact .intss _ | exact .sli rfl | exact .sls rfl | exact .slr rfl | exact .orow rfl | exact .nil) | omega | ((first | apply w_lss | apply w_add | apply w_idx | apply w_ld); iterate 3 exact rfl) | (apply w_idxo; exact rfl; exact rfl; (exact .sli rfl); exact rfl) | (apply w_ldo; iterate 4 exact rfl) | (apply w_sti; exact rfl; exact rfl; rotate_left 1; exact rfl; rotate_left 2) | (apply inI_of <;> omega))
        exact ⟨j + 1, by omega, by omega, ⟨lee rfl (by (repeat (first | exact le_nil | refine le_eq rfl rfl ?_))), by (repeat (first | exact lo_nil | refine lo_eq rfl ?_ | refine lo_eq (congrArg (AO.sli _) (et.symm)) ?_)), rfl, rfl⟩⟩
      · have ej : j = o.length := by omega
        subst ej
        rw [List.take_length]
        repeat' (first | (apply AOps.nil; try simp only [List.nil_append, List.cons_append, List.set_cons_zero, List.set_cons_succ, List.length_cons, List.length_nil, Nat.reduceAdd, AV.sh, AV.sh1, AV.sh0, AO.sh, List.map_cons, List.map_nil, Nat.zero_add, Nat.add_zero, setAll]) | (apply w_move; exact rfl; exact rfl) | (apply w_assign; exact rfl; exact rfl) | apply AWp.seq | apply AWp.region | ((apply AWp.condP; exact rfl) <;> intro h) | apply AWp.block | apply AWp.exit | apply AWp.skip | (apply w_len; exact rfl; exact rfl; first | exact .ints _ | exact .intss _ | exact .sli rfl | exact .sls rfl | exact .slr rfl | exact .orow rfl | exact .nil) | omega | ((first | apply w_lss | apply w_add); iterate 3 exact rfl) | (apply inI_of <;> omega))
        exact ⟨(i + 1, setT L o m, m + 1), ⟨by simp only; omega, hnew, hnew2⟩, by simp only; omega, ⟨lee rfl (by (repeat (first | exact le_nil | refine le_eq rfl rfl ?_))), by (repeat (first | exact lo_nil | refine lo_eq rfl ?_)), rfl, rfl⟩⟩
  · have ei : i = W.length := by omega
    subst ei
    repeat' (first | (apply AOps.nil; try simp only [List.nil_append, List.cons_append, List.set_cons_zero, List.set_cons_succ, List.length_cons, List.length_nil, Nat.reduceAdd, AV.sh, AV.sh1, AV.sh0, AO.sh, List.map_cons, List.map_nil, Nat.zero_add, Nat.add_zero, setAll]) | (apply w_move; exact rfl; exact rfl) | (apply w_assign; exact rfl; exact rfl) | apply AWp.seq | apply AWp.region | ((apply AWp.condP; exact rfl) <;> intro h) | apply AWp.block | apply AWp.ret | apply AWp.exit | apply AWp.skip | (apply w_len; exact rfl; exact rfl; first | exact .ints _ | exact .intss _ | exact .sli rfl | exact .sls rfl | exact .slr rfl | exact .orow rfl | exact .nil) | omega | ((apply w_lss); iterate 3 exact rfl))
    exact ⟨_, _, _, .v1 Try.results44 rfl, .sli rfl, rfl, by rw [hS]⟩
theorem labS_ok {n : Nat} {near : Int → List Int} (hF : Fst n near) (hn : 0 < n) : ∀ i, i ≤ n → ∃ m, LbI n near i (labS n near i) m
  | 0, _ => ⟨0, LbI.start hn⟩
  | i + 1, hi => by
    obtain ⟨m, h⟩ := labS_ok hF hn i (by omega)
    by_cases hc : 0 ≤ geti (labS n near i) (i : Nat)
    · rw [← labS_skip h (by omega) hc rfl]; exact ⟨m, h.skip (by omega) hc⟩
    · have hT := trC_ok hF (r := (i : Nat)) ⟨by omega, by omega⟩
      rw [← labS_new hF h (by omega) hc hT rfl]; exact ⟨m + 1, (h.new hF (by omega) hc hT).1⟩
/-- The index of a number: that of the root. -/
theorem index_root (W : List Int) (E : List (List Int)) (h : GrF W E) (v : Nat) (hv : v < W.length) :
    ∃ j : Nat, j ≤ v ∧ (j = v ↔ (v : Int) ∈ rts W.length (nearL E) W.length) ∧ AFnV Try.prog 45 [.ints (labS W.length (nearL E) W.length), .i (geti (labS W.length (nearL E) W.length) (v : Nat))] (.int .i64 j) := by
  obtain ⟨m, hL⟩ := labS_ok h.fo.fst (by have := h.n; omega) W.length (Nat.le_refl _)
  have hn := h.n
  have hlen := hL.len
  have hf := hL.first h.fo.fst hv
  by_cases hr : (v : Int) ∈ rts W.length (nearL E) W.length
  · exact ⟨v, Nat.le_refl _, ⟨fun _ => hr, fun _ => rfl⟩, l01Index_at _ _ v (by omega) (by omega) rfl (hf.2 hr)⟩
  · have hex : ∃ j : Nat, j < v ∧ geti (labS W.length (nearL E) W.length) (j : Nat) = geti (labS W.length (nearL E) W.length) (v : Nat) := by
      apply Classical.byContradiction
      intro hn2
      exact hr (hf.1 fun j hj he => hn2 ⟨j, hj, he⟩)
    have key : ∀ k : Nat, k ≤ v → (∃ j : Nat, j < k ∧ geti (labS W.length (nearL E) W.length) (j : Nat) = geti (labS W.length (nearL E) W.length) (v : Nat)) → ∃ j : Nat, j < k ∧ geti (labS W.length (nearL E) W.length) (j : Nat) = geti (labS W.length (nearL E) W.length) (v : Nat) ∧ ∀ q : Nat, q < j → geti (labS W.length (nearL E) W.length) (q : Nat) ≠ geti (labS W.length (nearL E) W.length) (v : Nat) := by
      intro k
      induction k with
      | zero => rintro _ ⟨j, hj, _⟩; omega
      | succ k ih =>
        intro hk hex
        by_cases h2 : ∃ j : Nat, j < k ∧ geti (labS W.length (nearL E) W.length) (j : Nat) = geti (labS W.length (nearL E) W.length) (v : Nat)
        · obtain ⟨j, j1, j2, j3⟩ := ih (by omega) h2
          exact ⟨j, by omega, j2, j3⟩
        · obtain ⟨j, j1, j2⟩ := hex
          have : j = k := Classical.byContradiction fun hne => h2 ⟨j, by omega, j2⟩
          subst this
          exact ⟨j, by omega, j2, fun q hq he => h2 ⟨q, hq, he⟩⟩
    obtain ⟨j, j1, j2, j3⟩ := key v (Nat.le_refl _) hex
    exact ⟨j, by omega, ⟨fun e => by omega, fun e => absurd e hr⟩, l01Index_at _ _ j (by omega) (by omega) j2 j3⟩
end Go.Proofs.Ytbalbiliejjnoaa
/-
  The search in depth, walked. Condition: a forest of at most 40 vertices.
-/
namespace Go.Proofs.Ytbalbiliejjnoaa
open Go Go.RowKit
attribute [local irreducible] AWp AOps ResIs Ret1 QOp LOp COp AFnV AFn Imms LeE LeO
set_option maxHeartbeats 1000000
set_option linter.unusedSimpArgs false
set_option linter.unusedVariables false

def stV (p r f g : Int) : Value := if okS p r f g = true then .tuple #[.int .i64 (p * f), .int .i64 (r * f - p * g)] else .tuple #[.int .i64 0, .int .i64 0]
def stS (s : WS) (p r f g : Int) : WS := if okS p r f g = true then s else s.big
theorem okS_iff (p r f g : Int) : okS p r f g = (tok r f && tok p g && tok p f && decide (-1000000000000 ≤ tmV r f - tmV p g ∧ tmV r f - tmV p g ≤ 1000000000000)) := by
  unfold okS
  cases h1 : tok r f
  · rfl
  · cases h2 : tok p g
    · rfl
    · have e1 : tmV r f = r * f := by unfold tmV; rw [if_pos h1]
      have e2 : tmV p g = p * g := by unfold tmV; rw [if_pos h2]
      rw [e1, e2]
theorem step_c (W : List Int) (N : List (List Int)) (s : WS) (p r f g : Int) (hp : inM p) (hr : inM r) (hf : inM f) (hg : inM g) :
    AFnB Try.prog 73 83 2 4 W N [.int .i64 p, .int .i64 r, .int .i64 f, .int .i64 g] s (stS s p r f g) (stV p r f g) := by
  have c1 := times_c r f hr hf
  have c2 := times_c p g hp hg
  have c3 := times_c p f hp hf
  have b1 := tmV_in r f
  have b2 := tmV_in p g
  have cv := isValue_c (tmV r f - tmV p g)
  have hok := okS_iff p r f g
  unfold inM at b1 b2
  have e1 : tok r f = true → tmV r f = r * f := fun h => by unfold tmV; rw [if_pos h]
  have e2 : tok p g = true → tmV p g = p * g := fun h => by unfold tmV; rw [if_pos h]
  have e3 : tok p f = true → tmV p f = p * f := fun h => by unfold tmV; rw [if_pos h]
  (refine AFnB.start Try.func73 Try.ntmps73 rfl (by kernel_rfl) fun K vW vN => ?_; simp only [wkL, Env.start, enumF, List.map_cons, List.map_nil, List.length_cons, List.length_nil, Nat.reduceAdd, Nat.reduceSub, Nat.zero_add, List.cons_append, List.nil_append])
  cases h1 : tok r f with
  | false =>
    rw [h1] at c1 hok
    have hk : okS p r f g = false := by rw [hok]; rfl
    have es : stS s p r f g = s.big := by unfold stS; rw [hk]; rfl
    have ev : stV p r f g = .tuple #[.int .i64 0, .int .i64 0] := by unfold stV; rw [hk]; rfl
    rw [es, ev]
    repeat' (first | (apply AOps.nil; try simp only [List.nil_append, List.cons_append, List.set_cons_zero, List.set_cons_succ, List.length_cons, List.length_nil, Nat.reduceAdd, AV.sh, AV.sh1, AV.sh0, AO.sh, List.map_cons, List.map_nil, Nat.zero_add, Nat.add_zero, setAll]) | (apply w_move; exact rfl; exact rfl) | (apply w_assign; exact rfl; exact rfl) | apply AWp.seq | apply AWp.region | (apply AWp.condT; exact rfl) | apply AWp.ret | (apply w_skip; exact rfl) | (apply w_pickT; exact rfl; exact rfl; exact rfl) | ((first | apply w_nilck | apply w_not); iterate 2 exact rfl) | ((first | apply w_fa | apply w_extv); iterate 3 exact rfl) | (apply w_call (c1); exact rfl; exact rfl; focus ((repeat (first | exact im_nil | refine im_cons rfl (.val _) ?_)); done)) | (apply w_call (c2); exact rfl; exact rfl; focus ((repeat (first | exact im_nil | refine im_cons rfl (.val _) ?_)); done)) | (apply w_call (c3); exact rfl; exact rfl; focus ((repeat (first | exact im_nil | refine im_cons rfl (.val _) ?_)); done)) | (apply w_stbv; iterate 6 exact rfl))
    all_goals first | exact ⟨.intint Try.results73 rfl rfl rfl rfl, [], rfl⟩ | (exfalso; simp_all; done)
  | true =>
    rw [h1] at c1 hok
    cases h2 : tok p g with
    | false =>
      rw [h2] at c2 hok
      have hk : okS p r f g = false := by rw [hok]; rfl
      have es : stS s p r f g = s.big := by unfold stS; rw [hk]; rfl
      have ev : stV p r f g = .tuple #[.int .i64 0, .int .i64 0] := by unfold stV; rw [hk]; rfl
      rw [es, ev]
      repeat' (first | (apply AOps.nil; try simp only [List.nil_append, List.cons_append, List.set_cons_zero, List.set_cons_succ, List.length_cons, List.length_nil, Nat.reduceAdd, AV.sh, AV.sh1, AV.sh0, AO.sh, List.map_cons, List.map_nil, Nat.zero_add, Nat.add_zero, setAll]) | (apply w_move; exact rfl; exact rfl) | (apply w_assign; exact rfl; exact rfl) | apply AWp.seq | apply AWp.region | (apply AWp.condT; exact rfl) | apply AWp.ret | (apply w_skip; exact rfl) | (apply w_pickT; exact rfl; exact rfl; exact rfl) | (apply w_pickF; exact rfl; exact rfl; exact rfl) | ((first | apply w_nilck | apply w_not); iterate 2 exact rfl) | ((first | apply w_fa | apply w_extv); iterate 3 exact rfl) | (apply w_call (c1); exact rfl; exact rfl; focus ((repeat (first | exact im_nil | refine im_cons rfl (.val _) ?_)); done)) | (apply w_call (c2); exact rfl; exact rfl; focus ((repeat (first | exact im_nil | refine im_cons rfl (.val _) ?_)); done)) | (apply w_call (c3); exact rfl; exact rfl; focus ((repeat (first | exact im_nil | refine im_cons rfl (.val _) ?_)); done)) | (apply w_stbv; iterate 6 exact rfl))
      all_goals first | exact ⟨.intint Try.results73 rfl rfl rfl rfl, [], rfl⟩ | (exfalso; simp_all; done)
    | true =>
      rw [h2] at c2 hok
      cases h3 : tok p f with
      | false =>
        rw [h3] at c3 hok
        have hk : okS p r f g = false := by rw [hok]; rfl
        have es : stS s p r f g = s.big := by unfold stS; rw [hk]; rfl
        have ev : stV p r f g = .tuple #[.int .i64 0, .int .i64 0] := by unfold stV; rw [hk]; rfl
        rw [es, ev]
        repeat' (first | (apply AOps.nil; try simp only [List.nil_append, List.cons_append, List.set_cons_zero, List.set_cons_succ, List.length_cons, List.length_nil, Nat.reduceAdd, AV.sh, AV.sh1, AV.sh0, AO.sh, List.map_cons, List.map_nil, Nat.zero_add, Nat.add_zero, setAll]) | (apply w_move; exact rfl; exact rfl) | (apply w_assign; exact rfl; exact rfl) | apply AWp.seq | apply AWp.region | (apply AWp.condT; exact rfl) | apply AWp.ret | (apply w_skip; exact rfl) | (apply w_pickT; exact rfl; exact rfl; exact rfl) | (apply w_pickF; exact rfl; exact rfl; exact rfl) | ((first | apply w_nilck | apply w_not); iterate 2 exact rfl) | ((first | apply w_fa | apply w_extv); iterate 3 exact rfl) | (apply w_call (c1); exact rfl; exact rfl; focus ((repeat (first | exact im_nil | refine im_cons rfl (.val _) ?_)); done)) | (apply w_call (c2); exact rfl; exact rfl; focus ((repeat (first | exact im_nil | refine im_cons rfl (.val _) ?_)); done)) | (apply w_call (c3); exact rfl; exact rfl; focus ((repeat (first | exact im_nil | refine im_cons rfl (.val _) ?_)); done)) | (apply w_stbv; iterate 6 exact rfl))
        all_goals first | exact ⟨.intint Try.results73 rfl rfl rfl rfl, [], rfl⟩ | (exfalso; simp_all; done)
      | true =>
        rw [h3] at c3 hok
        cases h4 : decide (-1000000000000 ≤ tmV r f - tmV p g ∧ tmV r f - tmV p g ≤ 1000000000000) with
        | false =>
          rw [h4] at cv hok
          have hk : okS p r f g = false := by rw [hok]; rfl
          have es : stS s p r f g = s.big := by unfold stS; rw [hk]; rfl
          have ev : stV p r f g = .tuple #[.int .i64 0, .int .i64 0] := by unfold stV; rw [hk]; rfl
          rw [es, ev]
          repeat' (first | (apply AOps.nil; try simp only [List.nil_append, List.cons_append, List.set_cons_zero, List.set_cons_succ, List.length_cons, List.length_nil, Nat.reduceAdd, AV.sh, AV.sh1, AV.sh0, AO.sh, List.map_cons, List.map_nil, Nat.zero_add, Nat.add_zero, setAll]) | (apply w_move; exact rfl; exact rfl) | (apply w_assign; exact rfl; exact rfl) | apply AWp.seq | apply AWp.region | (apply AWp.condT; exact rfl) | apply AWp.ret | (apply w_pickF; exact rfl; exact rfl; exact rfl) | ((first | apply w_nilck | apply w_not); iterate 2 exact rfl) | ((first | apply w_sub | apply w_fa | apply w_extv); iterate 3 exact rfl) | (apply w_call (c1); exact rfl; exact rfl; focus ((repeat (first | exact im_nil | refine im_cons rfl (.val _) ?_)); done)) | (apply w_call (c2); exact rfl; exact rfl; focus ((repeat (first | exact im_nil | refine im_cons rfl (.val _) ?_)); done)) | (apply w_call (c3); exact rfl; exact rfl; focus ((repeat (first | exact im_nil | refine im_cons rfl (.val _) ?_)); done)) | (apply w_call (cv); exact rfl; exact rfl; focus ((repeat (first | exact im_nil | refine im_cons rfl (.val _) ?_)); done)) | (apply w_stbv; iterate 6 exact rfl) | (apply inI_of <;> omega))
          all_goals first | exact ⟨.intint Try.results73 rfl rfl rfl rfl, [], rfl⟩ | (exfalso; simp_all; done)
        | true =>
          rw [h4] at cv hok
          have hk : okS p r f g = true := by rw [hok]; rfl
          have es : stS s p r f g = s := by unfold stS; rw [if_pos hk]
          have ev : stV p r f g = .tuple #[.int .i64 (tmV p f), .int .i64 (tmV r f - tmV p g)] := by unfold stV; rw [if_pos hk, e1 h1, e2 h2, e3 h3]
          rw [es, ev]
          repeat' (first | (apply AOps.nil; try simp only [List.nil_append, List.cons_append, List.set_cons_zero, List.set_cons_succ, List.length_cons, List.length_nil, Nat.reduceAdd, AV.sh, AV.sh1, AV.sh0, AO.sh, List.map_cons, List.map_nil, Nat.zero_add, Nat.add_zero, setAll]) | (apply w_move; exact rfl; exact rfl) | (apply w_assign; exact rfl; exact rfl) | apply AWp.seq | apply AWp.region | (apply AWp.condF; exact rfl) | apply AWp.ret | apply AWp.skip | (apply w_pickF; exact rfl; exact rfl; exact rfl) | ((apply w_not); iterate 2 exact rfl) | ((first | apply w_sub | apply w_extv); iterate 3 exact rfl) | (apply w_call (c1); exact rfl; exact rfl; focus ((repeat (first | exact im_nil | refine im_cons rfl (.val _) ?_)); done)) | (apply w_call (c2); exact rfl; exact rfl; focus ((repeat (first | exact im_nil | refine im_cons rfl (.val _) ?_)); done)) | (apply w_call (c3); exact rfl; exact rfl; focus ((repeat (first | exact im_nil | refine im_cons rfl (.val _) ?_)); done)) | (apply w_call (cv); exact rfl; exact rfl; focus ((repeat (first | exact im_nil | refine im_cons rfl (.val _) ?_)); done)) | (apply inI_of <;> omega))
          all_goals first | exact ⟨.intint Try.results73 rfl rfl rfl rfl, [], rfl⟩ | (exfalso; simp_all; done)
end Go.Proofs.Ytbalbiliejjnoaa
/-
  Functions with three results, the first of them new memory. No condition.
-/
namespace Go.Proofs.Ytbalbiliejjnoaa
open Go Go.RowKit
theorem ResIs.a3 {P : Program} {fn : Func} {env : Env} {os : List AO} {t u s : Tmp} (h : fn.results = #[.tmp t, .tmp u, .tmp s]) {a b c : AV} (ha : env.fd t = some a) (hb : env.fd u = some b) (hc : env.fd s = some c) : ResIs P fn env os (.tup [a, b, c]) :=
  fun _ _ _ tm hr => ⟨_, results_tmp3 h tm P _, .tup (vs := [tm.getD t undef, tm.getD u undef, tm.getD s undef]) rfl fun i => by
    match i with
    | 0 => have := hr.he t; rw [gd_of ha] at this; exact this
    | 1 => have := hr.he u; rw [gd_of hb] at this; exact this
    | 2 => have := hr.he s; rw [gd_of hc] at this; exact this
    | i + 3 => exact .any _⟩
end Go.Proofs.Ytbalbiliejjnoaa
/-
  Branch determinants, walked: the reference. Condition: a forest of at most 40 vertices.
-/
namespace Go.Proofs.Ytbalbiliejjnoaa
open Go Go.RowKit
attribute [local irreducible] AWp AOps ResIs Ret1 QOp LOp COp AFnV AFn Imms LeE LeO
set_option maxHeartbeats 1000000
set_option linter.unusedSimpArgs false
set_option linter.unusedVariables false

set_option maxHeartbeats 32000000 in
theorem l11Branches_q (W : List Int) (E : List (List Int)) (h : GrF W E) : AFnC Try.prog 36 [.agg [.ints W, .intss E]] [] (fun r os => (bdOk W.length (nearL E) W ∧ r = .tup [.own 0, .own 1, .b true] ∧ os = [.sli 2 (bdF W.length (nearL E) W), .sli 2 (bdG W.length (nearL E) W)]) ∨
      (¬ bdOk W.length (nearL E) W ∧ r = .tup [.val (.slice none 0 0), .val (.slice none 0 0), .b false] ∧ os = [])) := by
  have hn := h.n
  have hF := h.fo.fst
  have hw := h.w
  have hlab := l11Labels_c W E h
  have hord := l11Order_c W E h
  have hnear := l11Near_c W E h
  have hidx := index_root W E h
  have hlen : (labS W.length (nearL E) W.length).length = W.length := by
    obtain ⟨m, hL⟩ := labS_ok hF (by omega) W.length (Nat.le_refl _)
    exact hL.len
  have hstart := OutI.start (n := W.length) (near := nearL E) (W := W)
  generalize labS W.length (nearL E) W.length = Lb at *
  (refine AFnC.start Try.func36 Try.ntmps36 rfl (by kernel_rfl) fun K => ?_; simp only [Env.start, enumF, List.map_cons, List.map_nil, AV.sh, List.length_cons, List.length_nil, Nat.reduceAdd, Nat.reduceSub, List.cons_append, List.nil_append])
  repeat' (first | (apply AOps.nil; try simp only [List.nil_append, List.cons_append, List.set_cons_zero, List.set_cons_succ, List.length_cons, List.length_nil, Nat.reduceAdd, AV.sh, AV.sh1, AV.sh0, AO.sh, List.map_cons, List.map_nil, Nat.zero_add, Nat.add_zero, setAll]) | (apply w_assign; exact rfl; exact rfl) | apply AWp.seq | apply AWp.region | (apply w_len; exact rfl; exact rfl; first | exact .ints _ | exact .intss _ | exact .sli rfl | exact .sls rfl | exact .slr rfl | exact .orow rfl | exact .nil) | ((first | apply w_ld | apply w_fa); iterate 3 exact rfl) | ((apply w_boxa); iterate 2 exact rfl) | (apply w_ldb; iterate 5 exact rfl))
  refine AWp.regionG [] (by kernel_rfl) (envC := ⟨145, [(1, .optr 1 0), (5, .i W.length), (6, .own 2), (7, .own 3), (8, .own 4)]⟩) (osC := [.keep 1 K, .bx 29 [.ints W, .intss E], .sli 2 (List.replicate W.length 0), .sli 2 (List.replicate W.length 0), .sli 2 Lb]) rfl (by first | exact rfl | (simp [AO.lim, AV.lim, bL_lim]; done)) ?_ ?_
  · repeat' (first | (apply AOps.nil; try simp only [List.nil_append, List.cons_append, List.set_cons_zero, List.set_cons_succ, List.length_cons, List.length_nil, Nat.reduceAdd, AV.sh, AV.sh1, AV.sh0, AO.sh, List.map_cons, List.map_nil, Nat.zero_add, Nat.add_zero, setAll]) | (apply w_move; exact rfl; exact rfl) | (apply w_assign; exact rfl; exact rfl) | apply AllOfG.nil | (apply AllOfG.consQ; exact rfl; exact rfl) | (apply AllOfG.consS; exact rfl; exact rfl) | (apply AAnyG.takeW; exact rfl; exact rfl; kernel_rfl; kernel_rfl) | (apply AAnyG.takeL; exact rfl; exact rfl; kernel_rfl) | (apply AAnyG.all; exact rfl) | (apply AAnyG.done; exact rfl) | (apply w_callm (hlab); (focus ((repeat (first | exact im_nil | refine im_cons rfl (im_agg2 (.ints _) (.intss _)) ?_)); done)); rintro r os0 ⟨rfl, rfl⟩; try simp only [List.nil_append, List.cons_append, List.set_cons_zero, List.set_cons_succ, List.length_cons, List.length_nil, Nat.reduceAdd, AV.sh, AV.sh1, AV.sh0, AO.sh, List.map_cons, List.map_nil, Nat.zero_add, Nat.add_zero, setAll]) | omega | (apply w_ldst; iterate 5 exact rfl) | (apply w_mki; exact rfl; exact rfl; rotate_left 3; exact rfl; rotate_left 1))
    all_goals first | (apply Or.inl; refine ⟨lee rfl ?_, ?_, rfl, (by first | exact rfl | (simp [AO.lim, AV.lim, bL_lim]; done))⟩; (focus ((repeat (first | exact le_nil | refine le_eq rfl rfl ?_)); done)); (focus ((repeat (first | exact lo_nil | refine lo_eq rfl ?_)); done))) | (apply Or.inr; refine ⟨[0, 1, 3, 2, 4], ⟨by decide, fun x hx => Nat.lt_of_lt_of_le ((by decide : ∀ x ∈ ([0, 1, 3, 2, 4] : List Nat), x < 5) x hx) (Nat.le_of_ble_eq_true rfl)⟩, lee rfl ?_, ?_, rfl, (by first | exact rfl | (simp [AO.lim, AV.lim, bL_lim]; done))⟩; (focus ((repeat (first | exact le_nil | refine le_eq rfl rfl ?_)); done)); (focus ((repeat (first | exact lo_nil | refine lo_eq rfl ?_)); done))) | (apply Or.inr; refine ⟨[0, 1, 2, 4, 3], ⟨by decide, fun x hx => Nat.lt_of_lt_of_le ((by decide : ∀ x ∈ ([0, 1, 2, 4, 3] : List Nat), x < 5) x hx) (Nat.le_of_ble_eq_true rfl)⟩, lee rfl ?_, ?_, rfl, (by first | exact rfl | (simp [AO.lim, AV.lim, bL_lim]; done))⟩; (focus ((repeat (first | exact le_nil | refine le_eq rfl rfl ?_)); done)); (focus ((repeat (first | exact lo_nil | refine lo_eq rfl ?_)); done))) | (apply Or.inr; refine ⟨[0, 1, 4, 2, 3], ⟨by decide, fun x hx => Nat.lt_of_lt_of_le ((by decide : ∀ x ∈ ([0, 1, 4, 2, 3] : List Nat), x < 5) x hx) (Nat.le_of_ble_eq_true rfl)⟩, lee rfl ?_, ?_, rfl, (by first | exact rfl | (simp [AO.lim, AV.lim, bL_lim]; done))⟩; (focus ((repeat (first | exact le_nil | refine le_eq rfl rfl ?_)); done)); (focus ((repeat (first | exact lo_nil | refine lo_eq rfl ?_)); done))) | (apply Or.inr; refine ⟨[0, 1, 3, 4, 2], ⟨by decide, fun x hx => Nat.lt_of_lt_of_le ((by decide : ∀ x ∈ ([0, 1, 3, 4, 2] : List Nat), x < 5) x hx) (Nat.le_of_ble_eq_true rfl)⟩, lee rfl ?_, ?_, rfl, (by first | exact rfl | (simp [AO.lim, AV.lim, bL_lim]; done))⟩; (focus ((repeat (first | exact le_nil | refine le_eq rfl rfl ?_)); done)); (focus ((repeat (first | exact lo_nil | refine lo_eq rfl ?_)); done))) | (apply Or.inr; refine ⟨[0, 1, 4, 3, 2], ⟨by decide, fun x hx => Nat.lt_of_lt_of_le ((by decide : ∀ x ∈ ([0, 1, 4, 3, 2] : List Nat), x < 5) x hx) (Nat.le_of_ble_eq_true rfl)⟩, lee rfl ?_, ?_, rfl, (by first | exact rfl | (simp [AO.lim, AV.lim, bL_lim]; done))⟩; (focus ((repeat (first | exact le_nil | refine le_eq rfl rfl ?_)); done)); (focus ((repeat (first | exact lo_nil | refine lo_eq rfl ?_)); done)))
  repeat' (first | (apply AOps.nil; try simp only [List.nil_append, List.cons_append, List.set_cons_zero, List.set_cons_succ, List.length_cons, List.length_nil, Nat.reduceAdd, AV.sh, AV.sh1, AV.sh0, AO.sh, List.map_cons, List.map_nil, Nat.zero_add, Nat.add_zero, setAll]) | (apply w_assign; exact rfl; exact rfl) | apply AWp.seq | apply AWp.region | apply AWp.block)
  refine AWp.loop (ι := Nat × List Int × List Int) (fun x => ⟨145, [(1, .optr 1 0), (5, .i W.length), (6, .own 2), (7, .own 3), (8, .own 4), (9, .i x.1)]⟩) (fun x => [.keep 1 K, .bx 29 [.ints W, .intss E], .sli 2 x.2.1, .sli 2 x.2.2, .sli 2 Lb]) (fun x => x.1 ≤ W.length ∧ OutI W.length (nearL E) W x.1 x.2.1 x.2.2) (fun x => W.length - x.1) (0, List.replicate W.length 0, List.replicate W.length 0) ⟨by simp only; omega, hstart⟩ ⟨lee rfl (by (repeat (first | exact le_nil | refine le_eq rfl rfl ?_))), by (repeat (first | exact lo_nil | refine lo_eq rfl ?_)), rfl, (by first | exact rfl | (simp [AO.lim, AV.lim, bL_lim]; done))⟩ ?_
  rintro ⟨i, f0, h0⟩ ⟨i1, hO⟩
  simp only at i1 hO
  by_cases hi : i < W.length
  · obtain ⟨jx, jx1, jx2, hix⟩ := hidx i hi
    have e7 : geti Lb (((i : Nat) : Int).toNat : Nat) = geti Lb (i : Nat) := by rw [Int.toNat_natCast]
    rw [← e7] at hix
    by_cases hr : (i : Int) ∈ rts W.length (nearL E) W.length
    · have hor := hord (i : Nat) ⟨by omega, by omega⟩
      have ejx := jx2.2 hr
      repeat' (first | (apply AOps.nil; try simp only [List.nil_append, List.cons_append, List.set_cons_zero, List.set_cons_succ, List.length_cons, List.length_nil, Nat.reduceAdd, AV.sh, AV.sh1, AV.sh0, AO.sh, List.map_cons, List.map_nil, Nat.zero_add, Nat.add_zero, setAll]) | (apply w_move; exact rfl; exact rfl) | (apply w_assign; exact rfl; exact rfl) | apply AWp.seq | apply AWp.region | ((apply AWp.condP; exact rfl) <;> intro h) | apply AWp.block | apply AWp.ret | apply AWp.exit | apply AWp.skip | (apply w_len; exact rfl; exact rfl; first | exact .ints _ | exact .intss _ | exact .sli rfl | exact .sls rfl | exact .slr rfl | exact .orow rfl | exact .nil) | (apply w_call (hix); exact rfl; exact rfl; focus ((repeat (first | exact im_nil | refine im_cons rfl (.val _) ?_ | refine im_cons rfl (.sli rfl) ?_)); done)) | (apply w_callc [] (hor); exact rfl; (exact handed0); (focus ((repeat (first | exact imu_nil | refine imu_cons rfl (imu_agg2 (.ints _) (.intss _)) ?_ | refine imu_cons rfl (.val _) ?_)); done)); rintro r os0 ⟨rfl, o, p, htr, rfl⟩; try simp only [List.nil_append, List.cons_append, List.set_cons_zero, List.set_cons_succ, List.length_cons, List.length_nil, Nat.reduceAdd, AV.sh, AV.sh1, AV.sh0, AO.sh, List.map_cons, List.map_nil, Nat.zero_add, Nat.add_zero, setAll]) | omega | ((first | apply w_lss | apply w_neq | apply w_sub | apply w_idx | apply w_ld | apply w_extv); iterate 3 exact rfl) | ((first | apply w_idxs | apply w_lds | apply w_ext); iterate 3 exact rfl) | (apply w_idxo; exact rfl; exact rfl; (exact .sli rfl); exact rfl) | (apply w_ldo; iterate 4 exact rfl) | (apply w_ldst; iterate 5 exact rfl))
      all_goals try (exfalso; omega)
      case _ => have := htr.bd; (apply inI_of <;> omega)
      have hol := htr.bd
      have hrg := htr.rng
      have hpl := htr.len
      refine AWp.loop (ι := Nat × List Int × List Int) (fun x => ⟨145, [(1, .optr 1 0), (5, .i W.length), (6, .own 2), (7, .own 3), (8, .own 4), (9, .i i), (10, .own 5), (11, .own 6), (12, .i ((x.1 : Int) - 1))]⟩) (fun x => [.keep 1 K, .bx 29 [.ints W, .intss E], .sli 2 x.2.1, .sli 2 x.2.2, .sli 2 Lb, .sli 2 o, .sli 2 p]) (fun x => MidI W.length (nearL E) W o p f0 h0 x.1 x.2.1 x.2.2) (fun x => x.1) (o.length, f0, h0) (MidI.start hO) ⟨lee rfl (by (repeat (first | exact le_nil | refine le_eq rfl rfl ?_))), by (repeat (first | exact lo_nil | refine lo_eq rfl ?_)), rfl, (by first | exact rfl | (simp [AO.lim, AV.lim, bL_lim]; done))⟩ ?_
      rintro ⟨t, f, g⟩ hM
      simp only at hM
      have lf := hM.lf
      have lg := hM.lh
      have hle := hM.le
      by_cases ht : t = 0
      · subst ht
        have hdone := hM.done hF hi htr hO hr
        repeat' (first | (apply AOps.nil; try simp only [List.nil_append, List.cons_append, List.set_cons_zero, List.set_cons_succ, List.length_cons, List.length_nil, Nat.reduceAdd, AV.sh, AV.sh1, AV.sh0, AO.sh, List.map_cons, List.map_nil, Nat.zero_add, Nat.add_zero, setAll]) | (apply w_move; exact rfl; exact rfl) | (apply w_assign; exact rfl; exact rfl) | apply AWp.seq | apply AWp.region | ((apply AWp.condP; exact rfl) <;> intro h) | apply AWp.block | apply AWp.exit | apply AWp.skip | omega | ((first | apply w_geq | apply w_add); iterate 3 exact rfl) | (apply inI_of <;> omega))
        all_goals try (exfalso; omega)
        exact ⟨(i + 1, f, g), ⟨by simp only; omega, hdone⟩, by simp only; omega, ⟨lee rfl (by (repeat (first | exact le_nil | refine le_eq rfl rfl ?_))), by (repeat (first | exact lo_nil | refine lo_eq rfl ?_)), rfl, (by first | exact rfl | (simp [AO.lim, AV.lim, bL_lim]; done))⟩⟩
      obtain ⟨s, rfl⟩ : ∃ s, t = s + 1 := ⟨t - 1, by omega⟩
      rw [show (((s + 1 : Nat) : Int) - 1) = (s : Nat) by omega]
      obtain ⟨v, ev⟩ : ∃ v, v = geti o (((s : Nat) : Int).toNat : Nat) := ⟨_, rfl⟩
      have hso : s < o.length := by omega
      have ev2 : o[s]? = some v := by
        rw [ev, Int.toNat_natCast]; simp [geti, List.getD_eq_getElem?_getD, List.getElem?_eq_getElem hso]
      have hvm := List.mem_of_getElem? ev2
      have hvr := hrg v hvm
      have hwv := hw v
      have hnv := hnear v
      have hnl := fun u => hF.bnd v u
      have hput := fun P R q1 q2 q3 => hM.put (P := P) (R := R) htr ev2 q1 q2 q3
      repeat' (first | (apply AOps.nil; try simp only [List.nil_append, List.cons_append, List.set_cons_zero, List.set_cons_succ, List.length_cons, List.length_nil, Nat.reduceAdd, AV.sh, AV.sh1, AV.sh0, AO.sh, List.map_cons, List.map_nil, Nat.zero_add, Nat.add_zero, setAll]) | (apply w_move; exact rfl; exact rfl) | (apply w_assign; exact rfl; exact rfl) | apply AWp.seq | apply AWp.region | ((apply AWp.condP; exact rfl) <;> intro h) | apply AWp.block | apply AWp.exit | apply AWp.skip | omega | ((first | apply w_geq | apply w_idx | apply w_ld); iterate 3 exact rfl) | (apply w_idxo; exact rfl; exact rfl; (exact .sli rfl); exact rfl) | (apply w_ldo; iterate 4 exact rfl))
      all_goals try (exfalso; omega)
      rw [← ev]
      refine AWp.regionG [] (by kernel_rfl) (envC := ⟨145, [(1, .optr 1 0), (5, .i W.length), (6, .own 2), (7, .own 3), (8, .own 4), (9, .i i), (10, .own 5), (11, .own 6), (12, .i s), (13, .i v), (14, .i 1), (15, .i (-geti W v))]⟩) (osC := [.keep 1 K, .bx 29 [.ints W, .intss E], .sli 2 f, .sli 2 g, .sli 2 Lb, .sli 2 o, .sli 2 p]) rfl (by first | exact rfl | (simp [AO.lim, AV.lim, bL_lim]; done)) ?_ ?_
      · repeat' (first | (apply AOps.nil; try simp only [List.nil_append, List.cons_append, List.set_cons_zero, List.set_cons_succ, List.length_cons, List.length_nil, Nat.reduceAdd, AV.sh, AV.sh1, AV.sh0, AO.sh, List.map_cons, List.map_nil, Nat.zero_add, Nat.add_zero, setAll]) | (apply w_move; exact rfl; exact rfl) | (apply w_assign; exact rfl; exact rfl) | (apply AAnyG.takeW; exact rfl; exact rfl; kernel_rfl; kernel_rfl) | (apply AAnyG.takeL; exact rfl; exact rfl; kernel_rfl) | (apply AAnyG.done; exact rfl) | omega | ((first | apply w_idx | apply w_ld | apply w_fa); iterate 3 exact rfl) | ((apply w_neg); iterate 2 exact rfl) | (apply w_ldb; iterate 5 exact rfl) | (apply inI_of <;> omega))
        all_goals (apply Or.inl; refine ⟨lee rfl ?_, ?_, rfl, (by first | exact rfl | (simp [AO.lim, AV.lim, bL_lim]; done))⟩; (focus ((repeat (first | exact le_nil | refine le_eq rfl rfl ?_ | (refine le_eq rfl (congrArg AV.i ?_) ?_; (focus (omega; done))))); done)); (focus ((repeat (first | exact lo_nil | refine lo_eq rfl ?_)); done)))
      repeat' (first | (apply AOps.nil; try simp only [List.nil_append, List.cons_append, List.set_cons_zero, List.set_cons_succ, List.length_cons, List.length_nil, Nat.reduceAdd, AV.sh, AV.sh1, AV.sh0, AO.sh, List.map_cons, List.map_nil, Nat.zero_add, Nat.add_zero, setAll]) | (apply w_move; exact rfl; exact rfl) | (apply w_assign; exact rfl; exact rfl) | apply AWp.seq | apply AWp.region | apply AWp.block | (apply w_callm (hnv); (focus ((repeat (first | exact im_nil | refine im_cons rfl (im_agg2 (.ints _) (.intss _)) ?_ | refine im_cons rfl (.val _) ?_)); done)); rintro r os0 ⟨rfl, rfl⟩; try simp only [List.nil_append, List.cons_append, List.set_cons_zero, List.set_cons_succ, List.length_cons, List.length_nil, Nat.reduceAdd, AV.sh, AV.sh1, AV.sh0, AO.sh, List.map_cons, List.map_nil, Nat.zero_add, Nat.add_zero, setAll]) | (apply w_ldst; iterate 5 exact rfl))
      have hstI := InV.start (n := W.length) (near := nearL E) (W := W) (p := p) (v := v)
      have hfin := fun P R q => InV.fin (n := W.length) (W := W) (P := P) (R := R) htr hvm q
      have hch := fun c q1 q2 => hM.child (c := c) htr ev2 q1 q2
      have hskip := fun k u P R => @InV.skip W.length (nearL E) W p v u P R k
      have hstep := fun k u P R => @InV.step W.length (nearL E) W p f g v u P R k
      have hbad := fun k u P R => @InV.bad W.length (nearL E) W (i : Nat) o p f g v u P R k htr hvm
      have hbdd := bd_bad (W := W) hF hi hr htr hvm
      have hnvl : (nearL E v).length ≤ W.length := nd_len (hF.nd v) (fun x hx => (hF.bnd v x hx).1)
      generalize hNV : nearL E v = nv at *
      refine AWp.loop (ι := Nat × Int × Int) (fun x => ⟨145, [(1, .optr 1 0), (5, .i W.length), (6, .own 2), (7, .own 3), (8, .own 4), (9, .i i), (10, .own 5), (11, .own 6), (12, .i s), (13, .i v), (14, .i x.2.1), (15, .i x.2.2), (16, .own 7), (17, .i x.1)]⟩) (fun _ => [.keep 1 K, .bx 29 [.ints W, .intss E], .sli 2 f, .sli 2 g, .sli 2 Lb, .sli 2 o, .sli 2 p, .sli 2 nv]) (fun x => x.1 ≤ nv.length ∧ InV W.length (nearL E) W p v x.1 x.2.1 x.2.2 ∧ inM x.2.1 ∧ inM x.2.2) (fun x => nv.length - x.1) (0, 1, -geti W v) ⟨by simp only; omega, hstI, by simp only [inM]; omega, by simp only [inM]; omega⟩ ⟨lee rfl (by (repeat (first | exact le_nil | refine le_eq rfl rfl ?_))), by (repeat (first | exact lo_nil | refine lo_eq rfl ?_)), rfl, (by first | exact rfl | (simp [AO.lim, AV.lim, bL_lim]; done))⟩ ?_
      rintro ⟨k, P, R⟩ ⟨k0, hI, hP, hR⟩
      simp only at k0 hI hP hR
      by_cases hk : k < nv.length
      · obtain ⟨u, eu⟩ : ∃ u, u = geti nv (((k : Nat) : Int).toNat : Nat) := ⟨_, rfl⟩
        have eu2 : nv[k]? = some u := by
          rw [eu, Int.toNat_natCast]; simp [geti, List.getD_eq_getElem?_getD, List.getElem?_eq_getElem hk]
        have hum : u ∈ nv := List.mem_of_getElem? eu2
        obtain ⟨ur, _, _⟩ := hnl u hum
        by_cases hup : u = geti p v
        · have hI2 := hskip k u P R hI eu2 hup
          have hup' : geti nv (((k : Nat) : Int).toNat : Nat) = geti p (v.toNat : Nat) := by rw [← eu, Int.toNat_of_nonneg hvr.1]; exact hup
          repeat' (first | (apply AOps.nil; try simp only [List.nil_append, List.cons_append, List.set_cons_zero, List.set_cons_succ, List.length_cons, List.length_nil, Nat.reduceAdd, AV.sh, AV.sh1, AV.sh0, AO.sh, List.map_cons, List.map_nil, Nat.zero_add, Nat.add_zero, setAll]) | (apply w_move; exact rfl; exact rfl) | (apply w_assign; exact rfl; exact rfl) | apply AWp.seq | apply AWp.region | ((apply AWp.condP; exact rfl) <;> intro h) | apply AWp.block | apply AWp.exit | apply AWp.skip | (apply w_len; exact rfl; exact rfl; first | exact .ints _ | exact .intss _ | exact .sli rfl | exact .sls rfl | exact .slr rfl | exact .orow rfl | exact .nil) | omega | ((first | apply w_lss | apply w_eql | apply w_add | apply w_idx | apply w_ld); iterate 3 exact rfl) | (apply w_idxo; exact rfl; exact rfl; (exact .sli rfl); exact rfl) | (apply w_ldo; iterate 4 exact rfl) | (apply inI_of <;> omega))
          all_goals try (exfalso; first | exact absurd hup' (by assumption) | exact absurd (by assumption) hup')
          exact ⟨(k + 1, P, R), ⟨by simp only; omega, hI2, hP, hR⟩, by simp only; omega, ⟨lee rfl (by (repeat (first | exact le_nil | refine le_eq rfl rfl ?_))), by (repeat (first | exact lo_nil | refine lo_eq rfl ?_)), rfl, (by first | exact rfl | (simp [AO.lim, AV.lim, bL_lim]; done))⟩⟩
        · have hup' : ¬ geti nv (((k : Nat) : Int).toNat : Nat) = geti p (v.toNat : Nat) := by rw [← eu, Int.toNat_of_nonneg hvr.1]; exact hup
          have hV := hch u hum hup
          have hI2 := hstep k u P R hI eu2 hup hV
          have hB := fun hn => hbdd (hbad k u P R hI eu2 hup hV hn)
          have hmf : inM (geti f u) := hM.bf _ (geti_mem ur.1 (by omega))
          have hmg : inM (geti g u) := hM.bh _ (geti_mem ur.1 (by omega))
          have eF : geti f (u.toNat : Nat) = geti f u := by rw [Int.toNat_of_nonneg ur.1]
          have eG : geti g (u.toNat : Nat) = geti g u := by rw [Int.toNat_of_nonneg ur.1]
          rw [← eF] at hmf hI2 hB
          rw [← eG] at hmg hI2 hB
          have c1 := l11Times_c R (geti f (u.toNat : Nat)) hR hmf
          have c2 := l11Times_c P (geti g (u.toNat : Nat)) hP hmg
          have c3 := l11Times_c P (geti f (u.toNat : Nat)) hP hmf
          have b1 := tmV_in R (geti f (u.toNat : Nat))
          have b2 := tmV_in P (geti g (u.toNat : Nat))
          have b3 := tmV_in P (geti f (u.toNat : Nat))
          have cv := l01In_c (tmV R (geti f (u.toNat : Nat)) - tmV P (geti g (u.toNat : Nat))) (-1000000000000) 1000000000000
          have hok := okS_iff P R (geti f (u.toNat : Nat)) (geti g (u.toNat : Nat))
          have e1 : tok R (geti f (u.toNat : Nat)) = true → tmV R (geti f (u.toNat : Nat)) = R * geti f (u.toNat : Nat) := fun h => by unfold tmV; rw [if_pos h]
          have e2 : tok P (geti g (u.toNat : Nat)) = true → tmV P (geti g (u.toNat : Nat)) = P * geti g (u.toNat : Nat) := fun h => by unfold tmV; rw [if_pos h]
          have e3 : tok P (geti f (u.toNat : Nat)) = true → tmV P (geti f (u.toNat : Nat)) = P * geti f (u.toNat : Nat) := fun h => by unfold tmV; rw [if_pos h]
          have b1' := b1
          have b2' := b2
          unfold inM at b1' b2'
          repeat' (first | (apply AOps.nil; try simp only [List.nil_append, List.cons_append, List.set_cons_zero, List.set_cons_succ, List.length_cons, List.length_nil, Nat.reduceAdd, AV.sh, AV.sh1, AV.sh0, AO.sh, List.map_cons, List.map_nil, Nat.zero_add, Nat.add_zero, setAll]) | (apply w_move; exact rfl; exact rfl) | (apply w_assign; exact rfl; exact rfl) | apply AWp.seq | apply AWp.region | ((apply AWp.condP; exact rfl) <;> intro h) | apply AWp.block | apply AWp.exit | apply AWp.skip | (apply w_len; exact rfl; exact rfl; first | exact .ints _ | exact .intss _ | exact .sli rfl | exact .sls rfl | exact .slr rfl | exact .orow rfl | exact .nil) | omega | ((first | apply w_lss | apply w_eql | apply w_idx | apply w_ld); iterate 3 exact rfl) | (apply w_idxo; exact rfl; exact rfl; (exact .sli rfl); exact rfl) | (apply w_ldo; iterate 4 exact rfl))
          all_goals try (exfalso; first | exact absurd hup' (by assumption) | exact absurd (by assumption) hup')
          rw [← eu]
          cases h1 : tok R (geti f (u.toNat : Nat)) with
          | false =>
            rw [h1] at c1 hok
            have hbd := hB (by rw [hok]; simp)
            repeat' (first | (apply AOps.nil; try simp only [List.nil_append, List.cons_append, List.set_cons_zero, List.set_cons_succ, List.length_cons, List.length_nil, Nat.reduceAdd, AV.sh, AV.sh1, AV.sh0, AO.sh, List.map_cons, List.map_nil, Nat.zero_add, Nat.add_zero, setAll]) | (apply w_move; exact rfl; exact rfl) | (apply w_assign; exact rfl; exact rfl) | apply AWp.seq | apply AWp.region | (apply AWp.condT; exact rfl) | apply AWp.ret | (apply w_skip; exact rfl) | (apply w_pickT; exact rfl; exact rfl; exact rfl) | (apply w_call (c1); exact rfl; exact rfl; focus ((repeat (first | exact im_nil | refine im_cons rfl (.val _) ?_)); done)) | (apply w_call (c2); exact rfl; exact rfl; focus ((repeat (first | exact im_nil | refine im_cons rfl (.val _) ?_)); done)) | (apply w_call (c3); exact rfl; exact rfl; focus ((repeat (first | exact im_nil | refine im_cons rfl (.val _) ?_)); done)) | omega | ((first | apply w_sub | apply w_idx | apply w_ld | apply w_extv); iterate 3 exact rfl) | ((apply w_not); iterate 2 exact rfl) | (apply w_idxo; exact rfl; exact rfl; (exact .sli rfl); exact rfl) | (apply w_ldo; iterate 4 exact rfl) | (apply inI_of <;> omega))
            all_goals try (exfalso; omega)
            refine ⟨⟨145, [(2, .val (.slice none 0 0)), (3, .val (.slice none 0 0)), (4, .b false)]⟩, [], .tup [.val (.slice none 0 0), .val (.slice none 0 0), .b false], Turns.or ?_, ResIs.a3 rfl rfl rfl rfl, all_cons' trivial (all_cons' trivial (all_cons' trivial all_nil')), .inr ⟨hbd, rfl, rfl⟩, all_nil'⟩
            (apply Or.inl; refine ⟨lee rfl ?_, ?_, rfl, (by first | exact rfl | (simp [AO.lim, AV.lim, bL_lim]; done))⟩; (focus ((repeat (first | exact le_nil | refine le_eq rfl rfl ?_)); done)); (focus ((repeat (first | exact lo_nil | refine lo_eq rfl ?_)); done)))
          | true =>
          rw [h1] at c1 hok
          cases h2 : tok P (geti g (u.toNat : Nat)) with
          | false =>
            rw [h2] at c2 hok
            have hbd := hB (by rw [hok]; simp)
            repeat' (first | (apply AOps.nil; try simp only [List.nil_append, List.cons_append, List.set_cons_zero, List.set_cons_succ, List.length_cons, List.length_nil, Nat.reduceAdd, AV.sh, AV.sh1, AV.sh0, AO.sh, List.map_cons, List.map_nil, Nat.zero_add, Nat.add_zero, setAll]) | (apply w_move; exact rfl; exact rfl) | (apply w_assign; exact rfl; exact rfl) | apply AWp.seq | apply AWp.region | (apply AWp.condT; exact rfl) | apply AWp.ret | (apply w_skip; exact rfl) | (apply w_pickT; exact rfl; exact rfl; exact rfl) | (apply w_pickF; exact rfl; exact rfl; exact rfl) | (apply w_call (c1); exact rfl; exact rfl; focus ((repeat (first | exact im_nil | refine im_cons rfl (.val _) ?_)); done)) | (apply w_call (c2); exact rfl; exact rfl; focus ((repeat (first | exact im_nil | refine im_cons rfl (.val _) ?_)); done)) | (apply w_call (c3); exact rfl; exact rfl; focus ((repeat (first | exact im_nil | refine im_cons rfl (.val _) ?_)); done)) | omega | ((first | apply w_sub | apply w_idx | apply w_ld | apply w_extv); iterate 3 exact rfl) | ((apply w_not); iterate 2 exact rfl) | (apply w_idxo; exact rfl; exact rfl; (exact .sli rfl); exact rfl) | (apply w_ldo; iterate 4 exact rfl) | (apply inI_of <;> omega))
            all_goals try (exfalso; omega)
            refine ⟨⟨145, [(2, .val (.slice none 0 0)), (3, .val (.slice none 0 0)), (4, .b false)]⟩, [], .tup [.val (.slice none 0 0), .val (.slice none 0 0), .b false], Turns.or ?_, ResIs.a3 rfl rfl rfl rfl, all_cons' trivial (all_cons' trivial (all_cons' trivial all_nil')), .inr ⟨hbd, rfl, rfl⟩, all_nil'⟩
            (apply Or.inl; refine ⟨lee rfl ?_, ?_, rfl, (by first | exact rfl | (simp [AO.lim, AV.lim, bL_lim]; done))⟩; (focus ((repeat (first | exact le_nil | refine le_eq rfl rfl ?_)); done)); (focus ((repeat (first | exact lo_nil | refine lo_eq rfl ?_)); done)))
          | true =>
          rw [h2] at c2 hok
          cases h3 : tok P (geti f (u.toNat : Nat)) with
          | false =>
            rw [h3] at c3 hok
            have hbd := hB (by rw [hok]; simp)
            repeat' (first | (apply AOps.nil; try simp only [List.nil_append, List.cons_append, List.set_cons_zero, List.set_cons_succ, List.length_cons, List.length_nil, Nat.reduceAdd, AV.sh, AV.sh1, AV.sh0, AO.sh, List.map_cons, List.map_nil, Nat.zero_add, Nat.add_zero, setAll]) | (apply w_move; exact rfl; exact rfl) | (apply w_assign; exact rfl; exact rfl) | apply AWp.seq | apply AWp.region | (apply AWp.condT; exact rfl) | apply AWp.ret | (apply w_skip; exact rfl) | (apply w_pickT; exact rfl; exact rfl; exact rfl) | (apply w_pickF; exact rfl; exact rfl; exact rfl) | (apply w_call (c1); exact rfl; exact rfl; focus ((repeat (first | exact im_nil | refine im_cons rfl (.val _) ?_)); done)) | (apply w_call (c2); exact rfl; exact rfl; focus ((repeat (first | exact im_nil | refine im_cons rfl (.val _) ?_)); done)) | (apply w_call (c3); exact rfl; exact rfl; focus ((repeat (first | exact im_nil | refine im_cons rfl (.val _) ?_)); done)) | omega | ((first | apply w_sub | apply w_idx | apply w_ld | apply w_extv); iterate 3 exact rfl) | ((apply w_not); iterate 2 exact rfl) | (apply w_idxo; exact rfl; exact rfl; (exact .sli rfl); exact rfl) | (apply w_ldo; iterate 4 exact rfl) | (apply inI_of <;> omega))
            all_goals try (exfalso; omega)
            refine ⟨⟨145, [(2, .val (.slice none 0 0)), (3, .val (.slice none 0 0)), (4, .b false)]⟩, [], .tup [.val (.slice none 0 0), .val (.slice none 0 0), .b false], Turns.or ?_, ResIs.a3 rfl rfl rfl rfl, all_cons' trivial (all_cons' trivial (all_cons' trivial all_nil')), .inr ⟨hbd, rfl, rfl⟩, all_nil'⟩
            (apply Or.inl; refine ⟨lee rfl ?_, ?_, rfl, (by first | exact rfl | (simp [AO.lim, AV.lim, bL_lim]; done))⟩; (focus ((repeat (first | exact le_nil | refine le_eq rfl rfl ?_)); done)); (focus ((repeat (first | exact lo_nil | refine lo_eq rfl ?_)); done)))
          | true =>
          rw [h3] at c3 hok
          cases h4 : decide (-1000000000000 ≤ tmV R (geti f (u.toNat : Nat)) - tmV P (geti g (u.toNat : Nat)) ∧ tmV R (geti f (u.toNat : Nat)) - tmV P (geti g (u.toNat : Nat)) ≤ 1000000000000) with
          | false =>
            rw [h4] at cv hok
            have hbd := hB (by rw [hok]; simp)
            repeat' (first | (apply AOps.nil; try simp only [List.nil_append, List.cons_append, List.set_cons_zero, List.set_cons_succ, List.length_cons, List.length_nil, Nat.reduceAdd, AV.sh, AV.sh1, AV.sh0, AO.sh, List.map_cons, List.map_nil, Nat.zero_add, Nat.add_zero, setAll]) | (apply w_move; exact rfl; exact rfl) | (apply w_assign; exact rfl; exact rfl) | apply AWp.seq | apply AWp.region | (apply AWp.condT; exact rfl) | apply AWp.ret | (apply w_pickF; exact rfl; exact rfl; exact rfl) | (apply w_call (c1); exact rfl; exact rfl; focus ((repeat (first | exact im_nil | refine im_cons rfl (.val _) ?_)); done)) | (apply w_call (c2); exact rfl; exact rfl; focus ((repeat (first | exact im_nil | refine im_cons rfl (.val _) ?_)); done)) | (apply w_call (c3); exact rfl; exact rfl; focus ((repeat (first | exact im_nil | refine im_cons rfl (.val _) ?_)); done)) | (apply w_call (cv); exact rfl; exact rfl; focus ((repeat (first | exact im_nil | refine im_cons rfl (.val _) ?_)); done)) | omega | ((first | apply w_sub | apply w_idx | apply w_ld | apply w_extv); iterate 3 exact rfl) | ((apply w_not); iterate 2 exact rfl) | (apply w_idxo; exact rfl; exact rfl; (exact .sli rfl); exact rfl) | (apply w_ldo; iterate 4 exact rfl) | (apply inI_of <;> omega))
            all_goals try (exfalso; omega)
            refine ⟨⟨145, [(2, .val (.slice none 0 0)), (3, .val (.slice none 0 0)), (4, .b false)]⟩, [], .tup [.val (.slice none 0 0), .val (.slice none 0 0), .b false], Turns.or ?_, ResIs.a3 rfl rfl rfl rfl, all_cons' trivial (all_cons' trivial (all_cons' trivial all_nil')), .inr ⟨hbd, rfl, rfl⟩, all_nil'⟩
            (apply Or.inl; refine ⟨lee rfl ?_, ?_, rfl, (by first | exact rfl | (simp [AO.lim, AV.lim, bL_lim]; done))⟩; (focus ((repeat (first | exact le_nil | refine le_eq rfl rfl ?_)); done)); (focus ((repeat (first | exact lo_nil | refine lo_eq rfl ?_)); done)))
          | true =>
            rw [h4] at cv hok
            have hr4 := of_decide_eq_true h4
            have hI3 := hI2 (by rw [hok]; rfl)
            rw [← e1 h1, ← e2 h2, ← e3 h3] at hI3
            repeat' (first | (apply AOps.nil; try simp only [List.nil_append, List.cons_append, List.set_cons_zero, List.set_cons_succ, List.length_cons, List.length_nil, Nat.reduceAdd, AV.sh, AV.sh1, AV.sh0, AO.sh, List.map_cons, List.map_nil, Nat.zero_add, Nat.add_zero, setAll]) | (apply w_move; exact rfl; exact rfl) | (apply w_assign; exact rfl; exact rfl) | apply AWp.seq | apply AWp.region | (apply AWp.condF; exact rfl) | apply AWp.skip | (apply w_pickF; exact rfl; exact rfl; exact rfl) | (apply w_call (c1); exact rfl; exact rfl; focus ((repeat (first | exact im_nil | refine im_cons rfl (.val _) ?_)); done)) | (apply w_call (c2); exact rfl; exact rfl; focus ((repeat (first | exact im_nil | refine im_cons rfl (.val _) ?_)); done)) | (apply w_call (c3); exact rfl; exact rfl; focus ((repeat (first | exact im_nil | refine im_cons rfl (.val _) ?_)); done)) | (apply w_call (cv); exact rfl; exact rfl; focus ((repeat (first | exact im_nil | refine im_cons rfl (.val _) ?_)); done)) | omega | ((first | apply w_add | apply w_sub | apply w_idx | apply w_ld | apply w_extv); iterate 3 exact rfl) | ((apply w_not); iterate 2 exact rfl) | (apply w_idxo; exact rfl; exact rfl; (exact .sli rfl); exact rfl) | (apply w_ldo; iterate 4 exact rfl) | (apply inI_of <;> omega))
            all_goals try (exfalso; omega)
            exact ⟨(k + 1, tmV P (geti f (u.toNat : Nat)), tmV R (geti f (u.toNat : Nat)) - tmV P (geti g (u.toNat : Nat))), ⟨by simp only; omega, hI3, b3, hr4⟩, by simp only; omega, ⟨lee rfl (by (repeat (first | exact le_nil | refine le_eq rfl rfl ?_))), by (repeat (first | exact lo_nil | refine lo_eq rfl ?_)), rfl, (by first | exact rfl | (simp [AO.lim, AV.lim, bL_lim]; done))⟩⟩
      · have ek : k = nv.length := by omega
        subst ek
        have hFG := hfin P R hI
        have hp2 := hput P R hFG hP hR
        unfold inM at hP hR
        repeat' (first | (apply AOps.nil; try simp only [List.nil_append, List.cons_append, List.set_cons_zero, List.set_cons_succ, List.length_cons, List.length_nil, Nat.reduceAdd, AV.sh, AV.sh1, AV.sh0, AO.sh, List.map_cons, List.map_nil, Nat.zero_add, Nat.add_zero, setAll]) | (apply w_move; exact rfl; exact rfl) | (apply w_assign; exact rfl; exact rfl) | apply AWp.seq | apply AWp.region | ((apply AWp.condP; exact rfl) <;> intro h) | apply AWp.block | apply AWp.exit | apply AWp.skip | (apply w_len; exact rfl; exact rfl; first | exact .ints _ | exact .intss _ | exact .sli rfl | exact .sls rfl | exact .slr rfl | exact .orow rfl | exact .nil) | omega | ((first | apply w_lss | apply w_sub | apply w_idx); iterate 3 exact rfl) | (apply w_idxo; exact rfl; exact rfl; (exact .sli rfl); exact rfl) | (apply w_sti; exact rfl; exact rfl; rotate_left 1; exact rfl; rotate_left 2) | (apply inI_of <;> omega))
        exact ⟨(s, f.set v.toNat R, g.set v.toNat P), hp2, by simp only; omega, ⟨lee rfl (by (repeat (first | exact le_nil | refine le_eq rfl rfl ?_))), by (repeat (first | exact lo_nil | refine lo_eq rfl ?_)), rfl, (by first | exact rfl | (simp [AO.lim, AV.lim, bL_lim]; done))⟩⟩
    · have ejx : ¬ jx = i := fun hh => hr (jx2.1 hh)
      have hsk := hO.skip hF hi hr
      repeat' (first | (apply AOps.nil; try simp only [List.nil_append, List.cons_append, List.set_cons_zero, List.set_cons_succ, List.length_cons, List.length_nil, Nat.reduceAdd, AV.sh, AV.sh1, AV.sh0, AO.sh, List.map_cons, List.map_nil, Nat.zero_add, Nat.add_zero, setAll]) | (apply w_move; exact rfl; exact rfl) | (apply w_assign; exact rfl; exact rfl) | apply AWp.seq | apply AWp.region | ((apply AWp.condP; exact rfl) <;> intro h) | apply AWp.block | apply AWp.ret | apply AWp.exit | apply AWp.skip | (apply w_call (hix); exact rfl; exact rfl; focus ((repeat (first | exact im_nil | refine im_cons rfl (.val _) ?_ | refine im_cons rfl (.sli rfl) ?_)); done)) | omega | ((first | apply w_lss | apply w_neq | apply w_add | apply w_idx | apply w_ld); iterate 3 exact rfl) | (apply w_idxo; exact rfl; exact rfl; (exact .sli rfl); exact rfl) | (apply w_ldo; iterate 4 exact rfl) | (apply inI_of <;> omega))
      all_goals try (exfalso; omega)
      exact ⟨(i + 1, f0, h0), ⟨by simp only; omega, hsk⟩, by simp only; omega, ⟨lee rfl (by (repeat (first | exact le_nil | refine le_eq rfl rfl ?_))), by (repeat (first | exact lo_nil | refine lo_eq rfl ?_)), rfl, (by first | exact rfl | (simp [AO.lim, AV.lim, bL_lim]; done))⟩⟩
  · have ei : i = W.length := by omega
    subst ei
    obtain ⟨q1, q2, q3⟩ := hO.fin hF
    repeat' (first | (apply AOps.nil; try simp only [List.nil_append, List.cons_append, List.set_cons_zero, List.set_cons_succ, List.length_cons, List.length_nil, Nat.reduceAdd, AV.sh, AV.sh1, AV.sh0, AO.sh, List.map_cons, List.map_nil, Nat.zero_add, Nat.add_zero, setAll]) | (apply w_move; exact rfl; exact rfl) | (apply w_assign; exact rfl; exact rfl) | apply AWp.seq | apply AWp.region | ((apply AWp.condP; exact rfl) <;> intro h) | apply AWp.block | apply AWp.ret | apply AWp.exit | apply AWp.skip | omega | ((apply w_lss); iterate 3 exact rfl))
    refine ⟨⟨145, [(2, .own 1), (3, .own 2), (4, .b true)]⟩, [.sli 2 f0, .sli 2 h0], .tup [.own 0, .own 1, .b true], Turns.or ?_, ResIs.a3 rfl rfl rfl rfl, all_cons' trivial (all_cons' trivial (all_cons' trivial all_nil')), .inl ⟨q1, rfl, by rw [q2, q3]⟩, all_cons' trivial (all_cons' trivial all_nil')⟩
    (apply Or.inr; refine ⟨[0, 2, 3], ⟨by decide, fun x hx => Nat.lt_of_lt_of_le ((by decide : ∀ x ∈ ([0, 2, 3] : List Nat), x < 4) x hx) (Nat.le_of_ble_eq_true rfl)⟩, lee rfl ?_, ?_, rfl, (by first | exact rfl | (simp [AO.lim, AV.lim, bL_lim]; done))⟩; (focus ((repeat (first | exact le_nil | refine le_eq rfl rfl ?_)); done)); (focus ((repeat (first | exact lo_nil | refine lo_eq rfl ?_)); done)))
end Go.Proofs.Ytbalbiliejjnoaa
/-
  Components by labels: the number of roots tells whether all edges join two components. No condition.
-/
set_option linter.unusedSimpArgs false
set_option linter.unusedVariables false
namespace Go.Proofs.Ytbalbiliejjnoaa
open Go Go.RowKit

theorem geti_set0 {p : List Int} {u v x : Int} (h0 : 0 ≤ u) (hx : 0 ≤ x) (h1 : u < p.length) : geti (p.set u.toNat v) x = if x = u then v else geti p x := by
  simp only [geti, List.getD_eq_getElem?_getD, List.getElem?_set]
  by_cases e : x = u
  · subst e; rw [if_pos rfl, if_pos (by omega), if_pos rfl]; rfl
  · rw [if_neg (by omega), if_neg e]
def idL (n : Nat) : List Int := (List.range n).map fun (i : Nat) => (i : Int)
theorem idL_len (n : Nat) : (idL n).length = n := by simp [idL]
theorem idL_get {n : Nat} {x : Int} (h : 0 ≤ x ∧ x < n) : geti (idL n) x = x := by
  obtain ⟨m, rfl⟩ := Int.eq_ofNat_of_zero_le h.1
  have : m < n := by omega
  simp [geti, idL, List.getD_eq_getElem?_getD, this]
/-- The lesser label stays. -/
def mmL (L : List Int) (e : List Int) : List Int := mgL L (min (geti L (geti e 0)) (geti L (geti e 1))) (max (geti L (geti e 0)) (geti L (geti e 1)))
def lbR : List Int → List (List Int) → List Int
  | L, [] => L
  | L, e :: E => lbR (mmL L e) E
theorem lbR_app : ∀ (A B : List (List Int)) (L : List Int), lbR L (A ++ B) = lbR (lbR L A) B
  | [], _, _ => rfl
  | _ :: A, B, L => lbR_app A B _
structure RI (n : Nat) (L : List Int) : Prop where
  len : L.length = n
  lo : ∀ x : Int, 0 ≤ x → x < n → 0 ≤ geti L x
  hi : ∀ x : Int, 0 ≤ x → x < n → geti L x ≤ x
  idem : ∀ x : Int, 0 ≤ x → x < n → geti L (geti L x) = geti L x
theorem RI.id (n : Nat) : RI n (idL n) := ⟨idL_len n, fun x h0 h1 => by rw [idL_get ⟨h0, h1⟩]; exact h0, fun x h0 h1 => by rw [idL_get ⟨h0, h1⟩]; exact Int.le_refl _, fun x h0 h1 => by rw [idL_get ⟨h0, h1⟩, idL_get ⟨h0, h1⟩]⟩
def rcL (L : List Int) (i : Nat) : Nat := ((List.range i).filter fun x => decide (geti L (x : Nat) = (x : Nat))).length
theorem rc_id (n : Nat) : ∀ i, i ≤ n → rcL (idL n) i = i := fun i hi => by
  unfold rcL
  rw [List.filter_eq_self.2, List.length_range]
  intro x hx
  have := List.mem_range.1 hx
  exact decide_eq_true (idL_get ⟨by omega, by omega⟩)
theorem rc_succ (L : List Int) (i : Nat) : rcL L (i + 1) = rcL L i + if geti L (i : Nat) = (i : Nat) then 1 else 0 := by
  unfold rcL
  rw [List.range_succ, List.filter_append, List.length_append]
  congr 1
  by_cases h : geti L (i : Nat) = (i : Nat)
  · rw [if_pos h, List.filter_cons_of_pos (by exact decide_eq_true h)]; rfl
  · rw [if_neg h, List.filter_cons_of_neg (by simpa using h)]; rfl
/-- A merge of two roots. -/
theorem RI.merge {n : Nat} {L : List Int} (h : RI n L) {a b : Int} (ha : 0 ≤ a) (hab : a < b) (hb : b < n) (ra : geti L a = a) (rb : geti L b = b) :
    RI n (mgL L a b) ∧ ∀ i : Nat, i ≤ n → rcL (mgL L a b) i + (if b < i then 1 else 0) = rcL L i := by
  have hl := h.len
  have hg : ∀ x : Int, 0 ≤ x → x < n → geti (mgL L a b) x = if geti L x = b then a else geti L x := fun x h0 h1 => mgL_get h0 (by omega)
  refine ⟨⟨by rw [mgL_len]; exact hl, fun x h0 h1 => ?_, fun x h0 h1 => ?_, fun x h0 h1 => ?_⟩, ?_⟩
  · rw [hg x h0 h1]; split
    · exact ha
    · exact h.lo x h0 h1
  · rw [hg x h0 h1]; have := h.hi x h0 h1; split
    · omega
    · exact this
  · have l1 := h.lo x h0 h1
    have l2 := h.hi x h0 h1
    rw [hg x h0 h1]
    by_cases e : geti L x = b
    · rw [if_pos e, hg a ha (by omega), ra, if_neg (by omega)]
    · rw [if_neg e, hg _ l1 (by omega), h.idem x h0 h1, if_neg e]
  · intro i
    induction i with
    | zero => intro _; rw [if_neg (by omega)]; rfl
    | succ i ih =>
      intro hi
      have ih := ih (by omega)
      rw [rc_succ, rc_succ, hg (i : Nat) (by omega) (by omega)]
      by_cases e : (i : Int) = b
      · subst e
        rw [if_pos rb, if_neg (by omega), if_pos (by omega), if_pos rb]
        rw [if_neg (by omega)] at ih; omega
      · have e2 : (b < ((i + 1 : Nat) : Int)) ↔ (b < (i : Nat)) := by omega
        have e3 : ((if geti L (i : Nat) = b then a else geti L (i : Nat)) = (i : Nat)) ↔ geti L (i : Nat) = (i : Nat) := by
          by_cases e4 : geti L (i : Nat) = b
          · rw [if_pos e4]
            constructor
            · intro h5; rw [← h5, ra] at e4; omega
            · intro h5; omega
          · rw [if_neg e4]
        simp only [e2, e3]; omega
theorem mgL_self (L : List Int) (a : Int) : mgL L a a = L := by
  unfold mgL
  conv => rhs; rw [← List.map_id L]
  apply List.map_congr_left
  intro x _
  split
  · rename_i h; exact h.symm
  · rfl
theorem RI.mm {n : Nat} {L : List Int} (h : RI n L) {e : List Int} (he : EIn n e) :
    RI n (mmL L e) ∧ rcL (mmL L e) n + (if geti L (geti e 0) = geti L (geti e 1) then 0 else 1) = rcL L n := by
  obtain ⟨_, e2, e3, e4⟩ := he
  have l1 := h.lo _ e2 (by omega)
  have l2 := h.hi _ e2 (by omega)
  have l3 := h.lo (geti e 1) (by omega) e4
  have l4 := h.hi (geti e 1) (by omega) e4
  have i1 := h.idem _ e2 (by omega)
  have i2 := h.idem (geti e 1) (by omega) e4
  unfold mmL
  generalize geti L (geti e 0) = a at *
  generalize geti L (geti e 1) = b at *
  rcases Int.lt_trichotomy a b with hab | hab | hab
  · rw [Int.min_eq_left (by omega), Int.max_eq_right (by omega)]
    obtain ⟨q1, q2⟩ := h.merge l1 hab (by omega) i1 i2
    have := q2 n (Nat.le_refl _)
    rw [if_pos (by omega)] at this
    exact ⟨q1, by rw [if_neg (by omega)]; exact this⟩
  · subst hab
    rw [Int.min_self, Int.max_self, mgL_self]
    exact ⟨h, by rw [if_pos rfl]; rfl⟩
  · rw [Int.min_eq_right (by omega), Int.max_eq_left (by omega)]
    obtain ⟨q1, q2⟩ := h.merge l3 hab (by omega) i2 i1
    have := q2 n (Nat.le_refl _)
    rw [if_pos (by omega)] at this
    exact ⟨q1, by rw [if_neg (by omega)]; exact this⟩
/-- Two labellings tell the same vertices apart. -/
def Same (n : Nat) (L M : List Int) : Prop := ∀ x y : Int, 0 ≤ x → x < n → 0 ≤ y → y < n → (geti L x = geti L y ↔ geti M x = geti M y)
theorem mg_eq {L : List Int} {a b : Int} {u v : Int} (hu : 0 ≤ u ∧ u < L.length) (hv : 0 ≤ v ∧ v < L.length) :
    geti (mgL L a b) u = geti (mgL L a b) v ↔ (geti L u = geti L v ∨ ((geti L u = a ∨ geti L u = b) ∧ (geti L v = a ∨ geti L v = b))) := by
  rw [mgL_get hu.1 hu.2, mgL_get hv.1 hv.2]
  by_cases h1 : geti L u = b <;> by_cases h2 : geti L v = b <;> simp only [h1, h2, if_true, if_false, or_true, or_false, true_and, false_or, and_true, iff_true, true_iff] <;> omega
theorem mm_eq {n : Nat} {L : List Int} {e : List Int} (hl : L.length = n) {u v : Int} (hu : 0 ≤ u ∧ u < n) (hv : 0 ≤ v ∧ v < n) :
    geti (mmL L e) u = geti (mmL L e) v ↔ (geti L u = geti L v ∨ ((geti L u = geti L (geti e 0) ∨ geti L u = geti L (geti e 1)) ∧ (geti L v = geti L (geti e 0) ∨ geti L v = geti L (geti e 1)))) := by
  unfold mmL
  rw [mg_eq (by omega) (by omega)]
  rcases Int.le_total (geti L (geti e 0)) (geti L (geti e 1)) with h | h
  · rw [Int.min_eq_left h, Int.max_eq_right h]
  · rw [Int.min_eq_right h, Int.max_eq_left h]; constructor <;> (intro h; rcases h with h | ⟨h1, h2⟩) <;> simp_all [or_comm]
theorem Same.step {n : Nat} {L M : List Int} (h : Same n L M) (hl : L.length = n) (hm : M.length = n) {e : List Int} (he : EIn n e) :
    Same n (mmL L e) (mgL M (geti M (geti e 0)) (geti M (geti e 1))) := by
  obtain ⟨_, e2, e3, e4⟩ := he
  intro x y h0 h1 h2 h3
  rw [mm_eq hl ⟨h0, h1⟩ ⟨h2, h3⟩, mg_eq (by omega) (by omega), h x y h0 h1 h2 h3, h x _ h0 h1 e2 (by omega), h x (geti e 1) h0 h1 (by omega) e4, h y _ h2 h3 e2 (by omega), h y (geti e 1) h2 h3 (by omega) e4]
theorem rc_run {n : Nat} : ∀ {E : List (List Int)} {L M : List Int}, RI n L → Same n L M → M.length = n → (∀ e ∈ E, EIn n e) →
    RI n (lbR L E) ∧ rcL L n ≤ rcL (lbR L E) n + E.length ∧ (rcL (lbR L E) n + E.length = rcL L n ↔ effL M E)
  | [], L, M, h, _, _, _ => ⟨h, by simp [lbR], by simp [lbR, effL]⟩
  | e :: E, L, M, h, hs, hm, hE => by
    have he := hE e (by simp)
    obtain ⟨q1, q2⟩ := h.mm he
    obtain ⟨_, e2, e3, e4⟩ := id he
    have hsame := hs (geti e 0) (geti e 1) e2 (by omega) (by omega) e4
    obtain ⟨r1, r2, r3⟩ := rc_run (E := E) q1 (hs.step h.len hm he) (by rw [mgL_len]; exact hm) fun f hf => hE f (by simp [hf])
    refine ⟨r1, ?_, ?_⟩
    · show rcL L n ≤ rcL (lbR (mmL L e) E) n + (E.length + 1)
      split at q2 <;> omega
    · show rcL (lbR (mmL L e) E) n + (E.length + 1) = rcL L n ↔ (geti M (geti e 0) ≠ geti M (geti e 1) ∧ effL _ E)
      rw [← r3]
      constructor
      · intro h5
        have h6 : ¬ geti L (geti e 0) = geti L (geti e 1) := by
          intro h7; rw [if_pos h7] at q2; omega
        rw [if_neg h6] at q2
        exact ⟨fun h8 => h6 (hsame.2 h8), by omega⟩
      · rintro ⟨h5, h6⟩
        rw [if_neg (fun h8 => h5 (hsame.1 h8))] at q2
        omega
/-- The new numbers. -/
def nmF (L : List Int) : Nat → List Int × Int
  | 0 => (L, 0)
  | i + 1 => if geti (nmF L i).1 (i : Nat) = (i : Nat) then ((nmF L i).1.set i (nmF L i).2, (nmF L i).2 + 1) else ((nmF L i).1.set i (geti (nmF L i).1 (geti (nmF L i).1 (i : Nat))), (nmF L i).2)
structure NmI (n : Nat) (L : List Int) (i : Nat) (s : List Int × Int) : Prop where
  len : s.1.length = n
  num : s.2 = rcL L i
  old : ∀ x : Int, (i : Int) ≤ x → geti s.1 x = geti L x
  lo : ∀ x : Int, 0 ≤ x → x < i → 0 ≤ geti s.1 x
  hi : ∀ x : Int, 0 ≤ x → x < i → geti s.1 x < s.2
  top : 0 < i → ∃ x : Int, 0 ≤ x ∧ x < i ∧ geti s.1 x = s.2 - 1
theorem nm_run {n : Nat} {L : List Int} (h : RI n L) : ∀ i, i ≤ n → NmI n L i (nmF L i)
  | 0, _ => ⟨h.len, by simp [nmF, rcL], fun _ _ => rfl, fun x h0 h1 => by omega, fun x h0 h1 => by omega, fun h => by omega⟩
  | i + 1, hi => by
    have ih := nm_run h i (by omega)
    have hr := rc_succ L i
    have ho := ih.old (i : Nat) (Int.le_refl _)
    have hl := ih.len
    have hnum := ih.num
    have l1 := h.lo (i : Nat) (by omega) (by omega)
    have l2 := h.hi (i : Nat) (by omega) (by omega)
    rw [nmF]
    have hset : ∀ v x : Int, 0 ≤ x → geti ((nmF L i).1.set i v) x = if x = (i : Nat) then v else geti (nmF L i).1 x := fun v x hx => by
      have := geti_set0 (p := (nmF L i).1) (u := (i : Nat)) (v := v) (x := x) (by omega) hx (by omega)
      simpa using this
    rw [ho]
    by_cases hc : geti L (i : Nat) = (i : Nat)
    · rw [if_pos hc] at hr ⊢
      refine ⟨by simp [hl], by simp only; omega, fun x hx => ?_, fun x h0 h1 => ?_, fun x h0 h1 => ?_, fun _ => ⟨(i : Nat), by omega, by omega, ?_⟩⟩
      · rw [hset _ _ (by omega), if_neg (by omega)]; exact ih.old x (by omega)
      · rw [hset _ _ h0]; split
        · omega
        · exact ih.lo x h0 (by omega)
      · rw [hset _ _ h0]; dsimp only; split
        · omega
        · have := ih.hi x h0 (by omega); omega
      · rw [hset _ _ (by omega), if_pos rfl]; dsimp only; omega
    · rw [if_neg hc] at hr ⊢
      have h3 : geti L (i : Nat) < (i : Nat) := by omega
      have g1 := ih.lo _ l1 h3
      have g2 := ih.hi _ l1 h3
      refine ⟨by simp [hl], by simp only; omega, fun x hx => ?_, fun x h0 h1 => ?_, fun x h0 h1 => ?_, fun _ => ?_⟩
      · rw [hset _ _ (by omega), if_neg (by omega)]; exact ih.old x (by omega)
      · rw [hset _ _ h0]; split
        · exact g1
        · exact ih.lo x h0 (by omega)
      · rw [hset _ _ h0]; dsimp only; split
        · exact g2
        · exact ih.hi x h0 (by omega)
      · obtain ⟨x, x0, x1, x2⟩ := ih.top (by omega)
        exact ⟨x, x0, by omega, by rw [hset _ _ x0, if_neg (by omega)]; exact x2⟩
/-- The labels of the components. -/
def labF (n : Nat) (E : List (List Int)) : List Int := (nmF (lbR (idL n) E) n).1
theorem lab_max {n : Nat} {E : List (List Int)} (hn : 0 < n) (hE : ∀ e ∈ E, EIn n e) :
    (labF n E).length = n ∧ ∃ m : Int, (∀ x ∈ labF n E, 0 ≤ x ∧ x ≤ m) ∧ m ∈ labF n E ∧ 0 ≤ m ∧ m < n ∧ (m + 1 + E.length = n ↔ effL (idL n) E) := by
  obtain ⟨r1, r2, r3⟩ := rc_run (E := E) (RI.id n) (M := idL n) (fun _ _ _ _ _ _ => Iff.rfl) (idL_len n) hE
  rw [rc_id n n (Nat.le_refl _)] at r2 r3
  have h := nm_run r1 n (Nat.le_refl _)
  have hnum := h.num
  unfold labF
  obtain ⟨x, x0, x1, x2⟩ := h.top hn
  have hx := h.lo x x0 x1
  have hle : rcL (lbR (idL n) E) n ≤ n := by
    unfold rcL
    exact Nat.le_trans (List.length_filter_le _ _) (by simp)
  have hl := h.len
  refine ⟨h.len, (nmF (lbR (idL n) E) n).2 - 1, fun y hy => ?_, ?_, by omega, by omega, ?_⟩
  · obtain ⟨k, hk, rfl⟩ := List.getElem_of_mem hy
    have e : geti (nmF (lbR (idL n) E) n).1 (k : Nat) = (nmF (lbR (idL n) E) n).1[k] := by simp [geti, List.getD_eq_getElem?_getD, List.getElem?_eq_getElem hk]
    have a1 := h.lo (k : Nat) (by omega) (by omega)
    have a2 := h.hi (k : Nat) (by omega) (by omega)
    omega
  · rw [← x2]
    have hk : x.toNat < (nmF (lbR (idL n) E) n).1.length := by omega
    simp only [geti, List.getD_eq_getElem?_getD, List.getElem?_eq_getElem hk, Option.getD_some]
    exact List.getElem_mem hk
  · rw [← r3]; omega
end Go.Proofs.Ytbalbiliejjnoaa
/-
  Labels of components, walked. Condition: edges of at most 40 vertices.
-/
namespace Go.Proofs.Ytbalbiliejjnoaa
open Go Go.RowKit
attribute [local irreducible] AWp AOps ResIs Ret1 QOp LOp COp AFnV AFn Imms LeE LeO
set_option maxHeartbeats 1000000
set_option linter.unusedSimpArgs false
set_option linter.unusedVariables false

/-- A merge that is under way. -/
def mgT (L : List Int) (a b : Int) (i : Nat) : List Int := mgL (L.take i) a b ++ L.drop i
theorem mgT_len (L : List Int) (a b : Int) (i : Nat) : (mgT L a b i).length = L.length := by
  unfold mgT; rw [List.length_append, mgL_len, List.length_take, List.length_drop]; omega
theorem mgT_at {L : List Int} {a b : Int} {i : Nat} (h : i < L.length) : geti (mgT L a b i) (i : Nat) = geti L (i : Nat) := by
  unfold mgT geti
  rw [List.getD_eq_getElem?_getD, List.getD_eq_getElem?_getD, List.getElem?_append_right (by rw [mgL_len, List.length_take]; omega), mgL_len, List.length_take, List.getElem?_drop]
  congr 2; omega
theorem mgT_eq {L : List Int} {a b : Int} {i : Nat} (h : i < L.length) : mgT L a b (i + 1) = (mgT L a b i).set i (if geti L (i : Nat) = b then a else geti L (i : Nat)) := by
  have e1 : L.take (i + 1) = L.take i ++ [geti L (i : Nat)] := take_geti h
  have e2 : L.drop i = geti L (i : Nat) :: L.drop (i + 1) := by rw [List.drop_eq_getElem_cons h]; simp [geti, List.getD_eq_getElem?_getD, List.getElem?_eq_getElem h]
  have e3 : (mgL (L.take i) a b).length = i := by rw [mgL_len, List.length_take]; omega
  unfold mgT
  rw [e1, e2]
  unfold mgL
  rw [List.map_append, List.append_assoc, List.set_append_right _ _ (by rw [List.length_map, List.length_take]; omega)]
  congr 1
  rw [List.length_map, List.length_take, show i - min i L.length = 0 by omega]
  rfl
theorem mgT_all (L : List Int) (a b : Int) : mgT L a b L.length = mgL L a b := by unfold mgT; rw [List.take_length, List.drop_length, List.append_nil]
theorem set_same {L : List Int} {i : Nat} : L.set i (geti L (i : Nat)) = L := by
  apply List.ext_getElem?
  intro k
  rw [List.getElem?_set]
  split
  · rename_i h; subst h
    split
    · rename_i h; simp [geti, List.getD_eq_getElem?_getD, List.getElem?_eq_getElem h]
    · rename_i h; rw [List.getElem?_eq_none (by omega)]
  · rfl
def idT (n i : Nat) : List Int := (List.range n).map fun (j : Nat) => if j < i then (j : Int) else 0
theorem idT_len (n i : Nat) : (idT n i).length = n := by simp [idT]
theorem idT_step (n i : Nat) : (idT n i).set i (i : Nat) = idT n (i + 1) := by
  apply List.ext_getElem?
  intro k
  rw [List.getElem?_set, idT_len]
  simp only [idT, List.getElem?_map]
  by_cases hk : k < n
  · rw [List.getElem?_range hk]
    by_cases e : i = k
    · subst e
      simp [hk]
    · simp only [e, if_false, Option.map_some]
      congr 1
      by_cases h1 : k < i
      · rw [if_pos h1, if_pos (by omega)]
      · rw [if_neg h1, if_neg (by omega)]
  · rw [List.getElem?_eq_none (by simpa using hk)]
    split
    · rw [if_neg (by omega)]; rfl
    · rfl
theorem idT_0 (n : Nat) : idT n 0 = List.replicate n 0 := by
  apply List.ext_getElem (by simp [idT])
  intro i h1 h2
  simp [idT]
theorem idT_n (n : Nat) : idT n n = idL n := by
  unfold idT idL
  apply List.map_congr_left
  intro x hx
  rw [if_pos (List.mem_range.1 hx)]

set_option maxHeartbeats 16000000 in
theorem labels_c (n : Nat) (E : List (List Int)) (hn : n ≤ 40) (hl : E.length ≤ 40) (hE : ∀ e ∈ E, EIn n e) : AFn Try.prog 64 [.i n, .intss E] (IsInts 2 (labF n E)) := by
  have hri : ∀ k, k ≤ E.length → RI n (lbR (idL n) (E.take k)) := fun k hk => (rc_run (RI.id n) (M := idL n) (fun _ _ _ _ _ _ => Iff.rfl) (idL_len n) (E := E.take k) fun e he => hE e (List.mem_of_mem_take he)).1
  (refine AFn.start Try.func64 Try.ntmps64 rfl (by kernel_rfl) fun hk => ?_; simp only [Env.start, enumF, List.length_cons, List.length_nil, Nat.reduceAdd, Nat.reduceSub, List.cons_append, List.nil_append])
  repeat' (first | (apply AOps.nil; try simp only [List.nil_append, List.cons_append, List.set_cons_zero, List.set_cons_succ, List.length_cons, List.length_nil, Nat.reduceAdd, AV.sh, AV.sh1, AV.sh0, AO.sh, List.map_cons, List.map_nil, Nat.zero_add, Nat.add_zero, setAll]) | (apply w_move; exact rfl; exact rfl) | (apply w_assign; exact rfl; exact rfl) | apply AWp.seq | apply AWp.region | apply AWp.block | (apply w_len; exact rfl; exact rfl; first | exact .ints _ | exact .intss _ | exact .sli rfl | exact .sls rfl | exact .slr rfl | exact .orow rfl | exact .nil) | omega | (apply w_mki; exact rfl; exact rfl; rotate_left 3; exact rfl; rotate_left 1))
  rw [Int.toNat_natCast, ← idT_0, idT_len]
  refine AWp.loop (ι := Nat) (fun i => ⟨104, [(1, .intss E), (5, .own 0), (17, .i n), (18, .i i)]⟩) (fun i => [.sli 2 (idT n i)]) (fun i => i ≤ n) (fun i => n - i) 0 (by omega) ⟨lee rfl (by (repeat (first | exact le_nil | refine le_eq rfl rfl ?_))), by (repeat (first | exact lo_nil | refine lo_eq rfl ?_)), rfl, rfl⟩ ?_
  intro i i0
  have il := idT_len n i
  have is := idT_step n i
  by_cases hi : i < n
  · generalize idT n i = L at *
    repeat' (first | (apply AOps.nil; try simp only [List.nil_append, List.cons_append, List.set_cons_zero, List.set_cons_succ, List.length_cons, List.length_nil, Nat.reduceAdd, AV.sh, AV.sh1, AV.sh0, AO.sh, List.map_cons, List.map_nil, Nat.zero_add, Nat.add_zero, setAll]) | (apply w_move; exact rfl; exact rfl) | (apply w_assign; exact rfl; exact rfl) | apply AWp.seq | apply AWp.region | ((apply AWp.condP; exact rfl) <;> intro h) | apply AWp.block | apply AWp.exit | apply AWp.skip | (apply w_len; exact rfl; exact rfl; first | exact .ints _ | exact .intss _ | exact .sli rfl | exact .sls rfl | exact .slr rfl | exact .orow rfl | exact .nil) | omega | ((first | apply w_lss | apply w_add | apply w_idx); iterate 3 exact rfl) | (apply w_idxo; exact rfl; exact rfl; (exact .sli rfl); exact rfl) | (apply w_sti; exact rfl; exact rfl; rotate_left 1; exact rfl; rotate_left 2) | (apply inI_of <;> omega))
    exact ⟨i + 1, by omega, by omega, by rw [← is]; exact ⟨lee rfl (by (repeat (first | exact le_nil | refine le_eq rfl rfl ?_))), by (repeat (first | exact lo_nil | refine lo_eq rfl ?_)), rfl, rfl⟩⟩
  have ei : i = n := by omega
  subst ei
  rw [idT_n] at il ⊢
  repeat' (first | (apply AOps.nil; try simp only [List.nil_append, List.cons_append, List.set_cons_zero, List.set_cons_succ, List.length_cons, List.length_nil, Nat.reduceAdd, AV.sh, AV.sh1, AV.sh0, AO.sh, List.map_cons, List.map_nil, Nat.zero_add, Nat.add_zero, setAll]) | (apply w_move; exact rfl; exact rfl) | (apply w_assign; exact rfl; exact rfl) | apply AWp.seq | apply AWp.region | ((apply AWp.condP; exact rfl) <;> intro h) | apply AWp.block | apply AWp.exit | apply AWp.skip | (apply w_len; exact rfl; exact rfl; first | exact .ints _ | exact .intss _ | exact .sli rfl | exact .sls rfl | exact .slr rfl | exact .orow rfl | exact .nil) | omega | ((apply w_lss); iterate 3 exact rfl))
  refine AWp.loop (ι := Nat) (fun k => ⟨104, [(5, .own 0), (26, .intss E), (27, .i E.length), (28, .i k)]⟩) (fun k => [.sli 2 (lbR (idL i) (E.take k))]) (fun k => k ≤ E.length) (fun k => E.length - k) 0 (by omega) ⟨lee rfl (by (repeat (first | exact le_nil | refine le_eq rfl rfl ?_))), by (repeat (first | exact lo_nil | refine lo_eq rfl ?_)), rfl, rfl⟩ ?_
  intro k k0
  have hr := hri k k0
  have rl := hr.len
  by_cases hk : k < E.length
  · obtain ⟨a1, a2, a3, a4⟩ := hE (gets E (k : Nat)) (gets_mem (by omega) (by omega))
    have et : lbR (idL i) (E.take (k + 1)) = mmL (lbR (idL i) (E.take k)) (gets E (k : Nat)) := by
      rw [List.take_succ_eq_append_getElem hk, lbR_app]; simp [gets, hk, lbR]
    have hx1 : ∀ x : Int, 0 ≤ x → x < i → 0 ≤ geti (lbR (idL i) (E.take k)) x := hr.lo
    rw [show mmL (lbR (idL i) (E.take k)) (gets E (k : Nat)) = mgL (lbR (idL i) (E.take k)) (min (geti (lbR (idL i) (E.take k)) (geti (gets E (k : Nat)) 0)) (geti (lbR (idL i) (E.take k)) (geti (gets E (k : Nat)) 1))) (max (geti (lbR (idL i) (E.take k)) (geti (gets E (k : Nat)) 0)) (geti (lbR (idL i) (E.take k)) (geti (gets E (k : Nat)) 1))) from rfl] at et
    generalize lbR (idL i) (E.take k) = L at *
    repeat' (first | (apply AOps.nil; try simp only [List.nil_append, List.cons_append, List.set_cons_zero, List.set_cons_succ, List.length_cons, List.length_nil, Nat.reduceAdd, AV.sh, AV.sh1, AV.sh0, AO.sh, List.map_cons, List.map_nil, Nat.zero_add, Nat.add_zero, setAll]) | (apply w_move; exact rfl; exact rfl) | (apply w_assign; exact rfl; exact rfl) | apply AWp.seq | apply AWp.region | ((apply AWp.condP; exact rfl) <;> intro h) | apply AWp.block | apply AWp.exit | apply AWp.skip | (apply w_len; exact rfl; exact rfl; first | exact .ints _ | exact .intss _ | exact .sli rfl | exact .sls rfl | exact .slr rfl | exact .orow rfl | exact .nil) | omega | ((first | apply w_lss | apply w_idx | apply w_ld); iterate 3 exact rfl) | ((first | apply w_idxs | apply w_lds); iterate 3 exact rfl))
    generalize gets E (k : Nat) = e at *
    obtain ⟨a, ea⟩ : ∃ a, a = min (geti L (geti e 0)) (geti L (geti e 1)) := ⟨_, rfl⟩
    obtain ⟨b, eb⟩ : ∃ b, b = max (geti L (geti e 0)) (geti L (geti e 1)) := ⟨_, rfl⟩
    have y1 := hr.lo _ a2 (by omega)
    have y2 := hr.hi _ a2 (by omega)
    have y3 := hr.lo (geti e 1) (by omega) a4
    have y4 := hr.hi (geti e 1) (by omega) a4
    have am : 0 ≤ a ∧ a < i := by omega
    refine AWp.regionG [] (by kernel_rfl) (envC := ⟨104, [(5, .own 0), (9, .i a), (10, .i b), (26, .intss E), (27, .i E.length), (28, .i k)]⟩) (osC := [.sli 2 L]) rfl rfl ?_ ?_
    · rw [ea, eb]
      repeat' (first | (apply AOps.nil; try simp only [List.nil_append, List.cons_append, List.set_cons_zero, List.set_cons_succ, List.length_cons, List.length_nil, Nat.reduceAdd, AV.sh, AV.sh1, AV.sh0, AO.sh, List.map_cons, List.map_nil, Nat.zero_add, Nat.add_zero, setAll]) | (apply w_move; exact rfl; exact rfl) | (apply w_assign; exact rfl; exact rfl) | (apply AAnyG.takeW; exact rfl; exact rfl; kernel_rfl; kernel_rfl) | (apply AAnyG.takeL; exact rfl; exact rfl; kernel_rfl) | (apply AAnyG.done; exact rfl) | omega | ((first | apply w_idx | apply w_ld | apply w_min | apply w_max); iterate 3 exact rfl) | (apply w_idxo; exact rfl; exact rfl; (exact .sli rfl); exact rfl) | (apply w_ldo; iterate 4 exact rfl))
      all_goals (apply Or.inl; refine ⟨lee rfl ?_, ?_, rfl, rfl⟩; (focus ((repeat (first | exact le_nil | refine le_eq rfl rfl ?_)); done)); (focus ((repeat (first | exact lo_nil | refine lo_eq rfl ?_)); done)))
    rw [← ea, ← eb] at et
    clear ea eb
    repeat' (first | (apply AOps.nil; try simp only [List.nil_append, List.cons_append, List.set_cons_zero, List.set_cons_succ, List.length_cons, List.length_nil, Nat.reduceAdd, AV.sh, AV.sh1, AV.sh0, AO.sh, List.map_cons, List.map_nil, Nat.zero_add, Nat.add_zero, setAll]) | (apply w_move; exact rfl; exact rfl) | apply AWp.seq | apply AWp.region | apply AWp.block | (apply w_len; exact rfl; exact rfl; first | exact .ints _ | exact .intss _ | exact .sli rfl | exact .sls rfl | exact .slr rfl | exact .orow rfl | exact .nil))
    rw [rl]
    refine AWp.loop (ι := Nat) (fun j => ⟨104, [(5, .own 0), (9, .i a), (10, .i b), (26, .intss E), (27, .i E.length), (28, .i k), (59, .i i), (60, .i j)]⟩) (fun j => [.sli 2 (mgT L a b j)]) (fun j => j ≤ i) (fun j => i - j) 0 (by omega) ⟨lee rfl (by (repeat (first | exact le_nil | refine le_eq rfl rfl ?_))), by (repeat (first | exact lo_nil | refine lo_eq rfl ?_)), rfl, rfl⟩ ?_
    intro j j0
    have ml := mgT_len L a b j
    by_cases hj : j < i
    · have m1 := mgT_at (L := L) (a := a) (b := b) (i := j) (by omega)
      have m2 := mgT_eq (L := L) (a := a) (b := b) (i := j) (by omega)
      rw [← m1] at m2
      generalize mgT L a b j = M at *
      have ej : geti M ((((j : Nat) : Int)).toNat : Nat) = geti M (j : Nat) := by rw [Int.toNat_natCast]
      by_cases hc : geti M (j : Nat) = b
      · rw [if_pos hc] at m2
        repeat' (first | (apply AOps.nil; try simp only [List.nil_append, List.cons_append, List.set_cons_zero, List.set_cons_succ, List.length_cons, List.length_nil, Nat.reduceAdd, AV.sh, AV.sh1, AV.sh0, AO.sh, List.map_cons, List.map_nil, Nat.zero_add, Nat.add_zero, setAll]) | (apply w_move; exact rfl; exact rfl) | (apply w_assign; exact rfl; exact rfl) | apply AWp.seq | apply AWp.region | ((apply AWp.condP; exact rfl) <;> intro h) | apply AWp.block | apply AWp.exit | apply AWp.skip | omega | ((first | apply w_lss | apply w_eql | apply w_add | apply w_idx | apply w_ld); iterate 3 exact rfl) | (apply w_idxo; exact rfl; exact rfl; (exact .sli rfl); exact rfl) | (apply w_ldo; iterate 4 exact rfl) | (apply w_sti; exact rfl; exact rfl; rotate_left 1; exact rfl; rotate_left 2) | (apply inI_of <;> omega))
        exact ⟨j + 1, by omega, by omega, by rw [m2]; exact ⟨lee rfl (by (repeat (first | exact le_nil | refine le_eq rfl rfl ?_))), by (repeat (first | exact lo_nil | refine lo_eq rfl ?_)), rfl, rfl⟩⟩
      · rw [if_neg hc, set_same] at m2
        repeat' (first | (apply AOps.nil; try simp only [List.nil_append, List.cons_append, List.set_cons_zero, List.set_cons_succ, List.length_cons, List.length_nil, Nat.reduceAdd, AV.sh, AV.sh1, AV.sh0, AO.sh, List.map_cons, List.map_nil, Nat.zero_add, Nat.add_zero, setAll]) | (apply w_move; exact rfl; exact rfl) | (apply w_assign; exact rfl; exact rfl) | apply AWp.seq | apply AWp.region | ((apply AWp.condP; exact rfl) <;> intro h) | apply AWp.block | apply AWp.exit | apply AWp.skip | omega | ((first | apply w_lss | apply w_eql | apply w_add | apply w_idx | apply w_ld); iterate 3 exact rfl) | (apply w_idxo; exact rfl; exact rfl; (exact .sli rfl); exact rfl) | (apply w_ldo; iterate 4 exact rfl) | (apply inI_of <;> omega))
        exact ⟨j + 1, by omega, by omega, by rw [m2]; exact ⟨lee rfl (by (repeat (first | exact le_nil | refine le_eq rfl rfl ?_))), by (repeat (first | exact lo_nil | refine lo_eq rfl ?_)), rfl, rfl⟩⟩
    · have ej : j = L.length := by omega
      rw [ej, mgT_all, ← et]
      repeat' (first | (apply AOps.nil; try simp only [List.nil_append, List.cons_append, List.set_cons_zero, List.set_cons_succ, List.length_cons, List.length_nil, Nat.reduceAdd, AV.sh, AV.sh1, AV.sh0, AO.sh, List.map_cons, List.map_nil, Nat.zero_add, Nat.add_zero, setAll]) | (apply w_move; exact rfl; exact rfl) | (apply w_assign; exact rfl; exact rfl) | apply AWp.seq | apply AWp.region | ((apply AWp.condP; exact rfl) <;> intro h) | apply AWp.block | apply AWp.exit | apply AWp.skip | omega | ((first | apply w_lss | apply w_add); iterate 3 exact rfl) | (apply inI_of <;> omega))
      exact ⟨k + 1, by omega, by omega, ⟨lee rfl (by (repeat (first | exact le_nil | refine le_eq rfl rfl ?_))), by (repeat (first | exact lo_nil | refine lo_eq rfl ?_)), rfl, rfl⟩⟩
  · have ek : k = E.length := by omega
    subst ek
    rw [List.take_length]
    rw [List.take_length] at hr rl
    have hnm := nm_run hr
    have hlab : labF i E = (nmF (lbR (idL i) E) i).1 := rfl
    have hrc : ∀ m, rcL (lbR (idL i) E) m ≤ m := fun m => by
      unfold rcL
      exact Nat.le_trans (List.length_filter_le _ _) (by simp)
    repeat' (first | (apply AOps.nil; try simp only [List.nil_append, List.cons_append, List.set_cons_zero, List.set_cons_succ, List.length_cons, List.length_nil, Nat.reduceAdd, AV.sh, AV.sh1, AV.sh0, AO.sh, List.map_cons, List.map_nil, Nat.zero_add, Nat.add_zero, setAll]) | (apply w_move; exact rfl; exact rfl) | (apply w_assign; exact rfl; exact rfl) | apply AWp.seq | apply AWp.region | ((apply AWp.condP; exact rfl) <;> intro h) | apply AWp.block | apply AWp.exit | apply AWp.skip | (apply w_len; exact rfl; exact rfl; first | exact .ints _ | exact .intss _ | exact .sli rfl | exact .sls rfl | exact .slr rfl | exact .orow rfl | exact .nil) | omega | ((apply w_lss); iterate 3 exact rfl))
    rw [rl]
    generalize lbR (idL i) E = L at *
    refine AWp.loop (ι := Nat) (fun j => ⟨104, [(5, .own 0), (12, .i (nmF L j).2), (76, .i i), (77, .i j)]⟩) (fun j => [.sli 2 (nmF L j).1]) (fun j => j ≤ i) (fun j => i - j) 0 (by omega) ⟨lee rfl (by (repeat (first | exact le_nil | refine le_eq rfl rfl ?_))), by (repeat (first | exact lo_nil | refine lo_eq rfl ?_)), rfl, rfl⟩ ?_
    intro j j0
    have hm := hnm j j0
    have m1 := hm.len
    have m2 := hm.num
    have m3 := hrc j
    by_cases hj : j < i
    · have m4 := hm.old (j : Nat) (Int.le_refl _)
      have m5 := hr.lo (j : Nat) (by omega) (by omega)
      have m6 := hr.hi (j : Nat) (by omega) (by omega)
      have es : nmF L (j + 1) = if geti (nmF L j).1 (j : Nat) = (j : Nat) then ((nmF L j).1.set j (nmF L j).2, (nmF L j).2 + 1) else ((nmF L j).1.set j (geti (nmF L j).1 (geti (nmF L j).1 (j : Nat))), (nmF L j).2) := rfl
      rw [← m4] at m5 m6
      generalize nmF L j = s at *
      obtain ⟨M, q⟩ := s
      simp only at m1 m2 m5 m6 es
      have ej : geti M ((((j : Nat) : Int)).toNat : Nat) = geti M (j : Nat) := by rw [Int.toNat_natCast]
      by_cases hc : geti M (j : Nat) = (j : Nat)
      · rw [if_pos hc] at es
        repeat' (first | (apply AOps.nil; try simp only [List.nil_append, List.cons_append, List.set_cons_zero, List.set_cons_succ, List.length_cons, List.length_nil, Nat.reduceAdd, AV.sh, AV.sh1, AV.sh0, AO.sh, List.map_cons, List.map_nil, Nat.zero_add, Nat.add_zero, setAll]) | (apply w_move; exact rfl; exact rfl) | (apply w_assign; exact rfl; exact rfl) | apply AWp.seq | apply AWp.region | ((apply AWp.condP; exact rfl) <;> intro h) | apply AWp.block | apply AWp.ret | apply AWp.exit | apply AWp.skip | omega | ((first | apply w_lss | apply w_eql | apply w_add | apply w_idx | apply w_ld); iterate 3 exact rfl) | (apply w_idxo; exact rfl; exact rfl; (exact .sli rfl); exact rfl) | (apply w_ldo; iterate 4 exact rfl) | (apply w_sti; exact rfl; exact rfl; rotate_left 1; exact rfl; rotate_left 2) | (apply inI_of <;> omega))
        exact ⟨j + 1, by omega, by omega, by rw [es]; exact ⟨lee rfl (by (repeat (first | exact le_nil | refine le_eq rfl rfl ?_))), by (repeat (first | exact lo_nil | refine lo_eq rfl ?_)), rfl, rfl⟩⟩
      · have n1 : 0 ≤ geti M (geti M (j : Nat)) := hm.lo (geti M (j : Nat)) m5 (by omega)
        have n2 : geti M (geti M (j : Nat)) < q := hm.hi (geti M (j : Nat)) m5 (by omega)
        have e9 : geti M ((geti M (((j : Nat) : Int).toNat : Nat)).toNat : Nat) = geti M (geti M (j : Nat)) := by rw [Int.toNat_natCast, Int.toNat_of_nonneg m5]
        rw [← e9] at n1 n2
        rw [if_neg hc, ← e9] at es
        repeat' (first | (apply AOps.nil; try simp only [List.nil_append, List.cons_append, List.set_cons_zero, List.set_cons_succ, List.length_cons, List.length_nil, Nat.reduceAdd, AV.sh, AV.sh1, AV.sh0, AO.sh, List.map_cons, List.map_nil, Nat.zero_add, Nat.add_zero, setAll]) | (apply w_move; exact rfl; exact rfl) | (apply w_assign; exact rfl; exact rfl) | apply AWp.seq | apply AWp.region | ((apply AWp.condP; exact rfl) <;> intro h) | apply AWp.block | apply AWp.ret | apply AWp.exit | apply AWp.skip | omega | ((first | apply w_lss | apply w_eql | apply w_add | apply w_idx | apply w_ld); iterate 3 exact rfl) | (apply w_idxo; exact rfl; exact rfl; (exact .sli rfl); exact rfl) | (apply w_ldo; iterate 4 exact rfl) | (apply w_sti; exact rfl; exact rfl; rotate_left 1; exact rfl; rotate_left 2) | (apply inI_of <;> omega))
        exact ⟨j + 1, by omega, by omega, by rw [es]; exact ⟨lee rfl (by (repeat (first | exact le_nil | refine le_eq rfl rfl ?_))), by (repeat (first | exact lo_nil | refine lo_eq rfl ?_)), rfl, rfl⟩⟩
    · have ej : j = i := by omega
      subst ej
      rw [← hlab] at m1 ⊢
      generalize labF j E = M at *
      repeat' (first | (apply AOps.nil; try simp only [List.nil_append, List.cons_append, List.set_cons_zero, List.set_cons_succ, List.length_cons, List.length_nil, Nat.reduceAdd, AV.sh, AV.sh1, AV.sh0, AO.sh, List.map_cons, List.map_nil, Nat.zero_add, Nat.add_zero, setAll]) | (apply w_move; exact rfl; exact rfl) | (apply w_assign; exact rfl; exact rfl) | apply AWp.seq | apply AWp.region | ((apply AWp.condP; exact rfl) <;> intro h) | apply AWp.block | apply AWp.ret | apply AWp.exit | apply AWp.skip | omega | ((apply w_lss); iterate 3 exact rfl))
      exact ⟨_, _, _, .v1 Try.results64 rfl, .sli rfl, rfl, rfl⟩
end Go.Proofs.Ytbalbiliejjnoaa
/-
  Whether a graph is one, walked: the program. No condition on the graph.
-/
namespace Go.Proofs.Ytbalbiliejjnoaa
open Go Go.RowKit
attribute [local irreducible] AWp AOps ResIs Ret1 QOp LOp COp AFnV AFn Imms LeE LeO
set_option maxHeartbeats 1000000
set_option linter.unusedSimpArgs false
set_option linter.unusedVariables false

/-- A graph of the program. -/
structure GOk (W : List Int) (E : List (List Int)) : Prop where
  n : 1 ≤ W.length ∧ W.length ≤ 40
  w : withinL W (-1000) 1000 = true
  row : ∀ e ∈ E, EIn W.length e
  srt : E.Pairwise lx
  eff : effL (idL W.length) E
theorem within_geti {W : List Int} (h : withinL W (-1000) 1000 = true) (v : Int) : -1000 ≤ geti W v ∧ geti W v ≤ 1000 := by
  unfold withinL at h
  simp only [geti, List.getD_eq_getElem?_getD]
  cases hx : W[v.toNat]? with
  | none => simp
  | some x =>
    have := List.all_eq_true.1 h x (List.mem_of_getElem? hx)
    simpa using this
theorem GOk.len {W : List Int} {E : List (List Int)} (h : GOk W E) : E.length < W.length := by
  obtain ⟨_, m, _, _, m0, _, hm⟩ := lab_max (n := W.length) (E := E) (by have := h.n; omega) h.row
  have := hm.2 h.eff
  omega
theorem GOk.gr {W : List Int} {E : List (List Int)} (h : GOk W E) : GrF W E :=
  ⟨h.n, within_geti h.w, foE_of h.row h.srt h.eff, by have := h.len; have := h.n; omega⟩
noncomputable def gok (W : List Int) (E : List (List Int)) : Bool := @decide (GOk W E) (Classical.propDecidable _)
theorem gok_iff {W : List Int} {E : List (List Int)} : gok W E = true ↔ GOk W E := by
  unfold gok; exact @decide_eq_true_iff _ (Classical.propDecidable _)
theorem gok_f {W : List Int} {E : List (List Int)} (h : ¬ GOk W E) : gok W E = false := by
  cases e : gok W E with
  | false => rfl
  | true => exact absurd (gok_iff.1 e) h
theorem gets_eq {E : List (List Int)} {k : Nat} (h : k < E.length) : E[k] = gets E (k : Nat) := by simp [gets, h]
theorem pw_snoc {E : List (List Int)} {k : Nat} (hk : k < E.length) : (E.take (k + 1)).Pairwise lx ↔ (E.take k).Pairwise lx ∧ (k = 0 ∨ lx (gets E ((k - 1 : Nat))) (gets E (k : Nat))) := by
  rw [List.take_succ_eq_append_getElem hk, List.pairwise_append, gets_eq hk]
  constructor
  · rintro ⟨h1, _, h3⟩
    refine ⟨h1, ?_⟩
    by_cases hz : k = 0
    · exact .inl hz
    · right
      refine h3 _ ?_ _ (by simp)
      rw [← gets_eq (by omega)]
      exact List.mem_take_iff_getElem.2 ⟨k - 1, by omega, rfl⟩
  · rintro ⟨h1, h2⟩
    refine ⟨h1, by simp, fun a ha b hb => ?_⟩
    rw [List.mem_singleton.1 hb]
    obtain ⟨j, hj, rfl⟩ := List.mem_take_iff_getElem.1 ha
    rcases h2 with h2 | h2
    · omega
    · by_cases e : j = k - 1
      · subst e; rw [gets_eq (by omega)]; exact h2
      · refine lx_tr ?_ h2
        have := List.pairwise_iff_getElem.1 h1 j (k - 1) (by rw [List.length_take]; omega) (by rw [List.length_take]; omega) (by omega)
        rw [List.getElem_take, List.getElem_take, gets_eq (k := k - 1) (by omega)] at this
        exact this
theorem pw_take {E : List (List Int)} (h : E.Pairwise lx) (k : Nat) : (E.take k).Pairwise lx := h.sublist (List.take_sublist _ _)
theorem maxL_eq : ∀ {xs : List Int} {m0 m : Int}, (∀ x ∈ xs, x ≤ m) → m0 ≤ m → (m ∈ xs ∨ m0 = m) → maxL xs m0 = m
  | [], m0, m, _, _, h => by rcases h with h | h; cases h; exact h
  | x :: xs, m0, m, h1, h2, h3 => by
    rw [maxL]
    refine maxL_eq (fun y hy => h1 y (by simp [hy])) (by have := h1 x (by simp); omega) ?_
    have := h1 x (by simp)
    rcases h3 with h3 | h3
    · rcases List.mem_cons.1 h3 with h3 | h3
      · right; omega
      · exact .inl h3
    · right; omega

set_option maxHeartbeats 16000000 in
theorem isGraph_c (W : List Int) (E : List (List Int)) : AFnV Try.prog 37 [.agg [.ints W, .intss E]] (.bool (gok W E)) := by
  (refine AFnV.start Try.func37 Try.ntmps37 rfl (by kernel_rfl) fun hk => ?_; simp only [Env.start, enumF, List.length_cons, List.length_nil, Nat.reduceAdd, Nat.reduceSub, List.cons_append, List.nil_append])
  have hwi := within_c W (-1000) 1000
  by_cases c0 : 1 ≤ W.length ∧ W.length ≤ 40 ∧ withinL W (-1000) 1000 = true ∧ E.length < W.length
  · obtain ⟨c1, c2, c3, c4⟩ := c0
    rw [c3] at hwi
    repeat' (first | (apply AOps.nil; try simp only [List.nil_append, List.cons_append, List.set_cons_zero, List.set_cons_succ, List.length_cons, List.length_nil, Nat.reduceAdd, AV.sh, AV.sh1, AV.sh0, AO.sh, List.map_cons, List.map_nil, Nat.zero_add, Nat.add_zero, setAll]) | ((apply AOps.splitP; exact rfl; exact rfl) <;> intro h) | (apply w_move; exact rfl; exact rfl) | (apply w_assign; exact rfl; exact rfl) | apply AWp.seq | apply AWp.region | ((apply AWp.condP; exact rfl) <;> intro h) | (apply AWp.condT; exact rfl) | apply AWp.block | apply AWp.ret | apply AWp.skip | (apply w_skip; exact rfl) | (apply w_pickT; exact rfl; exact rfl; exact rfl) | (apply w_pickF; exact rfl; exact rfl; exact rfl) | (apply w_len; exact rfl; exact rfl; first | exact .ints _ | exact .intss _ | exact .sli rfl | exact .sls rfl | exact .slr rfl | exact .orow rfl | exact .nil) | (apply w_call (hwi); exact rfl; exact rfl; focus ((repeat (first | exact im_nil | refine im_cons rfl (.val _) ?_ | refine im_cons rfl (.ints _) ?_)); done)) | omega | ((first | apply w_lss | apply w_gtr | apply w_geq | apply w_ld | apply w_fa); iterate 3 exact rfl) | ((first | apply w_not | apply w_boxa); iterate 2 exact rfl) | (apply w_ldb; iterate 5 exact rfl))
    refine AWp.loop (ι := Nat) (fun k => ⟨89, [(1, .optr 0 0), (3, .i W.length), (30, .intss E), (31, .i E.length), (32, .i k)]⟩) (fun _ => [.bx 29 [.ints W, .intss E]]) (fun k => k ≤ E.length ∧ (∀ e ∈ E.take k, EIn W.length e) ∧ (E.take k).Pairwise lx) (fun k => E.length - k) 0 ⟨by omega, by simp, by simp⟩ ⟨lee rfl (by (repeat (first | exact le_nil | refine le_eq rfl rfl ?_))), by (repeat (first | exact lo_nil | refine lo_eq rfl ?_)), rfl, rfl⟩ ?_
    rintro k ⟨k0, k1, k2⟩
    by_cases hk : k < E.length
    · have hsn := pw_snoc hk
      have hrow : ∀ f ∈ E.take (k + 1), EIn W.length f ∨ f = gets E (k : Nat) := fun f hf => by
        rw [List.take_succ_eq_append_getElem hk, gets_eq hk] at hf
        rcases List.mem_append.1 hf with hf | hf
        · exact .inl (k1 f hf)
        · exact .inr (List.mem_singleton.1 hf)
      have hmem : gets E (k : Nat) ∈ E := gets_mem (by omega) (by omega)
      by_cases he : EIn W.length (gets E (k : Nat))
      · have he' := he
        obtain ⟨e1, e2, e3, e4⟩ := he'
        by_cases hz : k = 0
        · subst hz
          repeat' (first | (apply AOps.nil; try simp only [List.nil_append, List.cons_append, List.set_cons_zero, List.set_cons_succ, List.length_cons, List.length_nil, Nat.reduceAdd, AV.sh, AV.sh1, AV.sh0, AO.sh, List.map_cons, List.map_nil, Nat.zero_add, Nat.add_zero, setAll]) | (apply w_move; exact rfl; exact rfl) | (apply w_assign; exact rfl; exact rfl) | apply AWp.seq | apply AWp.region | ((apply AWp.condP; exact rfl) <;> intro h) | apply AWp.block | apply AWp.exit | apply AWp.skip | omega | ((first | apply w_lss | apply w_idx | apply w_ld); iterate 3 exact rfl) | ((first | apply w_idxs | apply w_lds); iterate 3 exact rfl))
          refine AWp.regionQ (by kernel_rfl) (by kernel_rfl) ?_
          repeat' (first | (apply AOps.nil; try simp only [List.nil_append, List.cons_append, List.set_cons_zero, List.set_cons_succ, List.length_cons, List.length_nil, Nat.reduceAdd, AV.sh, AV.sh1, AV.sh0, AO.sh, List.map_cons, List.map_nil, Nat.zero_add, Nat.add_zero, setAll]) | ((apply AOps.splitP; exact rfl; exact rfl) <;> intro h) | (apply w_move; exact rfl; exact rfl) | (apply w_assign; exact rfl; exact rfl) | apply AWp.seq | apply AWp.region | ((apply AWp.condP; exact rfl) <;> intro h) | (apply AWp.condT; exact rfl) | (apply AWp.condF; exact rfl) | apply AWp.ret | apply AWp.skip | (apply w_skip; exact rfl) | (apply w_pickT; exact rfl; exact rfl; exact rfl) | (apply w_pickF; exact rfl; exact rfl; exact rfl) | (apply w_len; exact rfl; exact rfl; first | exact .ints _ | exact .intss _ | exact .sli rfl | exact .sls rfl | exact .slr rfl | exact .orow rfl | exact .nil) | omega | ((first | apply w_lss | apply w_gtr | apply w_geq | apply w_neq | apply w_add | apply w_idx | apply w_ld); iterate 3 exact rfl) | (apply inI_of <;> omega))
          all_goals try (exfalso; omega)
          exact ⟨1, ⟨by omega, fun f hf => (hrow f hf).elim id fun h => h ▸ he, hsn.2 ⟨k2, .inl rfl⟩⟩, by omega, ⟨lee rfl (by (repeat (first | exact le_nil | refine le_eq rfl rfl ?_))), by (repeat (first | exact lo_nil | refine lo_eq rfl ?_)), rfl, rfl⟩⟩
        · have hp1 : gets E (((k : Nat) : Int) - 1) = gets E ((k - 1 : Nat) : Int) := by congr 1; omega
          have hm1 : gets E ((k - 1 : Nat) : Int) ∈ E.take k := by
            rw [← gets_eq (by omega)]
            exact List.mem_take_iff_getElem.2 ⟨k - 1, by omega, rfl⟩
          have hcm := compare_c (gets E ((k - 1 : Nat) : Int)) (gets E (k : Nat)) (k1 _ hm1).1 e1
          rw [← hp1] at hcm
          by_cases hlx : lx (gets E ((k - 1 : Nat) : Int)) (gets E (k : Nat))
          · have hcv : cmpR (gets E (((k : Nat) : Int) - 1)) (gets E (k : Nat)) = -1 := by rw [hp1]; unfold cmpR; rw [if_pos hlx]
            rw [hcv] at hcm
            repeat' (first | (apply AOps.nil; try simp only [List.nil_append, List.cons_append, List.set_cons_zero, List.set_cons_succ, List.length_cons, List.length_nil, Nat.reduceAdd, AV.sh, AV.sh1, AV.sh0, AO.sh, List.map_cons, List.map_nil, Nat.zero_add, Nat.add_zero, setAll]) | (apply w_move; exact rfl; exact rfl) | (apply w_assign; exact rfl; exact rfl) | apply AWp.seq | apply AWp.region | ((apply AWp.condP; exact rfl) <;> intro h) | apply AWp.block | apply AWp.exit | apply AWp.skip | omega | ((first | apply w_lss | apply w_idx | apply w_ld); iterate 3 exact rfl) | ((first | apply w_idxs | apply w_lds); iterate 3 exact rfl))
            refine AWp.regionQ (by kernel_rfl) (by kernel_rfl) ?_
            repeat' (first | (apply AOps.nil; try simp only [List.nil_append, List.cons_append, List.set_cons_zero, List.set_cons_succ, List.length_cons, List.length_nil, Nat.reduceAdd, AV.sh, AV.sh1, AV.sh0, AO.sh, List.map_cons, List.map_nil, Nat.zero_add, Nat.add_zero, setAll]) | ((apply AOps.splitP; exact rfl; exact rfl) <;> intro h) | (apply w_move; exact rfl; exact rfl) | (apply w_assign; exact rfl; exact rfl) | apply AWp.seq | apply AWp.region | ((apply AWp.condP; exact rfl) <;> intro h) | (apply AWp.condT; exact rfl) | (apply AWp.condF; exact rfl) | apply AWp.ret | apply AWp.skip | (apply w_skip; exact rfl) | (apply w_pickT; exact rfl; exact rfl; exact rfl) | (apply w_pickF; exact rfl; exact rfl; exact rfl) | (apply w_len; exact rfl; exact rfl; first | exact .ints _ | exact .intss _ | exact .sli rfl | exact .sls rfl | exact .slr rfl | exact .orow rfl | exact .nil) | (apply w_call (hcm); exact rfl; exact rfl; focus ((repeat (first | exact im_nil | refine im_cons rfl (.ints _) ?_)); done)) | omega | ((first | apply w_lss | apply w_gtr | apply w_geq | apply w_neq | apply w_add | apply w_sub | apply w_idx | apply w_ld | apply w_fa); iterate 3 exact rfl) | ((first | apply w_idxs | apply w_lds); iterate 3 exact rfl) | (apply w_ldb; iterate 5 exact rfl) | (apply inI_of <;> omega))
            all_goals try (exfalso; omega)
            exact ⟨k + 1, ⟨by omega, fun f hf => (hrow f hf).elim id fun h => h ▸ he, hsn.2 ⟨k2, .inr hlx⟩⟩, by omega, ⟨lee rfl (by (repeat (first | exact le_nil | refine le_eq rfl rfl ?_))), by (repeat (first | exact lo_nil | refine lo_eq rfl ?_)), rfl, rfl⟩⟩
          · have hno : gok W E = false := gok_f fun h => by
              have := (hsn.1 (pw_take h.srt (k + 1))).2
              rcases this with h5 | h5
              · exact hz h5
              · exact hlx h5
            have hcv : 0 ≤ cmpR (gets E (((k : Nat) : Int) - 1)) (gets E (k : Nat)) ∧ cmpR (gets E (((k : Nat) : Int) - 1)) (gets E (k : Nat)) ≤ 1 := by
              rw [hp1]; unfold cmpR; rw [if_neg hlx]; split <;> omega
            repeat' (first | (apply AOps.nil; try simp only [List.nil_append, List.cons_append, List.set_cons_zero, List.set_cons_succ, List.length_cons, List.length_nil, Nat.reduceAdd, AV.sh, AV.sh1, AV.sh0, AO.sh, List.map_cons, List.map_nil, Nat.zero_add, Nat.add_zero, setAll]) | (apply w_move; exact rfl; exact rfl) | (apply w_assign; exact rfl; exact rfl) | apply AWp.seq | apply AWp.region | ((apply AWp.condP; exact rfl) <;> intro h) | apply AWp.block | apply AWp.exit | apply AWp.skip | omega | ((first | apply w_lss | apply w_idx | apply w_ld); iterate 3 exact rfl) | ((first | apply w_idxs | apply w_lds); iterate 3 exact rfl))
            refine AWp.regionQ (by kernel_rfl) (by kernel_rfl) ?_
            repeat' (first | (apply AOps.nil; try simp only [List.nil_append, List.cons_append, List.set_cons_zero, List.set_cons_succ, List.length_cons, List.length_nil, Nat.reduceAdd, AV.sh, AV.sh1, AV.sh0, AO.sh, List.map_cons, List.map_nil, Nat.zero_add, Nat.add_zero, setAll]) | ((apply AOps.splitP; exact rfl; exact rfl) <;> intro h) | (apply w_move; exact rfl; exact rfl) | (apply w_assign; exact rfl; exact rfl) | apply AWp.seq | apply AWp.region | ((apply AWp.condP; exact rfl) <;> intro h) | (apply AWp.condT; exact rfl) | (apply AWp.condF; exact rfl) | apply AWp.ret | apply AWp.skip | (apply w_skip; exact rfl) | (apply w_pickT; exact rfl; exact rfl; exact rfl) | (apply w_pickF; exact rfl; exact rfl; exact rfl) | (apply w_len; exact rfl; exact rfl; first | exact .ints _ | exact .intss _ | exact .sli rfl | exact .sls rfl | exact .slr rfl | exact .orow rfl | exact .nil) | (apply w_call (hcm); exact rfl; exact rfl; focus ((repeat (first | exact im_nil | refine im_cons rfl (.ints _) ?_)); done)) | omega | ((first | apply w_lss | apply w_gtr | apply w_geq | apply w_neq | apply w_sub | apply w_idx | apply w_ld | apply w_fa); iterate 3 exact rfl) | ((first | apply w_idxs | apply w_lds); iterate 3 exact rfl) | (apply w_ldb; iterate 5 exact rfl) | (apply inI_of <;> omega))
            all_goals try (exfalso; omega)
            all_goals exact .bool Try.results37 rfl hno.symm
      · have hno : gok W E = false := gok_f fun h => he (h.row _ hmem)
        unfold EIn at he
        repeat' (first | (apply AOps.nil; try simp only [List.nil_append, List.cons_append, List.set_cons_zero, List.set_cons_succ, List.length_cons, List.length_nil, Nat.reduceAdd, AV.sh, AV.sh1, AV.sh0, AO.sh, List.map_cons, List.map_nil, Nat.zero_add, Nat.add_zero, setAll]) | (apply w_move; exact rfl; exact rfl) | (apply w_assign; exact rfl; exact rfl) | apply AWp.seq | apply AWp.region | ((apply AWp.condP; exact rfl) <;> intro h) | apply AWp.block | apply AWp.exit | apply AWp.skip | omega | ((first | apply w_lss | apply w_idx | apply w_ld); iterate 3 exact rfl) | ((first | apply w_idxs | apply w_lds); iterate 3 exact rfl))
        refine AWp.regionQ (by kernel_rfl) (by kernel_rfl) ?_
        repeat' (first | (apply AOps.nil; try simp only [List.nil_append, List.cons_append, List.set_cons_zero, List.set_cons_succ, List.length_cons, List.length_nil, Nat.reduceAdd, AV.sh, AV.sh1, AV.sh0, AO.sh, List.map_cons, List.map_nil, Nat.zero_add, Nat.add_zero, setAll]) | ((apply AOps.splitP; exact rfl; exact rfl) <;> intro h) | (apply w_move; exact rfl; exact rfl) | (apply w_assign; exact rfl; exact rfl) | apply AWp.seq | apply AWp.region | ((apply AWp.condP; exact rfl) <;> intro h) | (apply AWp.condT; exact rfl) | apply AWp.ret | apply AWp.skip | (apply w_skip; exact rfl) | (apply w_pickT; exact rfl; exact rfl; exact rfl) | (apply w_pickF; exact rfl; exact rfl; exact rfl) | (apply w_len; exact rfl; exact rfl; first | exact .ints _ | exact .intss _ | exact .sli rfl | exact .sls rfl | exact .slr rfl | exact .orow rfl | exact .nil) | omega | ((first | apply w_lss | apply w_geq | apply w_neq | apply w_idx | apply w_ld); iterate 3 exact rfl))
        all_goals try (exfalso; omega)
        all_goals exact .bool Try.results37 rfl hno.symm
    · have ek : k = E.length := by omega
      subst ek
      rw [List.take_length] at k1 k2
      obtain ⟨ll, m, hm1, hm2, hm3, hm4, hm5⟩ := lab_max (by omega) k1
      have hlab := labels_c W.length E c2 (by omega) k1
      have hmx : maxL (labF W.length E) (geti (labF W.length E) 0) = m := maxL_eq (fun x hx => (hm1 x hx).2) (hm1 _ (geti_mem (by omega) (by omega))).2 (.inl hm2)
      have hmax := slicesMax_c (labF W.length E) (by omega) (by omega)
      rw [hmx] at hmax
      have hres : gok W E = decide (m + 1 + (E.length : Int) = W.length) := by
        rw [Bool.eq_iff_iff, gok_iff, decide_eq_true_iff, hm5]
        exact ⟨fun h => h.eff, fun h => ⟨⟨c1, c2⟩, c3, k1, k2, h⟩⟩
      generalize labF W.length E = L at *
      repeat' (first | (apply AOps.nil; try simp only [List.nil_append, List.cons_append, List.set_cons_zero, List.set_cons_succ, List.length_cons, List.length_nil, Nat.reduceAdd, AV.sh, AV.sh1, AV.sh0, AO.sh, List.map_cons, List.map_nil, Nat.zero_add, Nat.add_zero, setAll]) | (apply w_move; exact rfl; exact rfl) | (apply w_assign; exact rfl; exact rfl) | apply AWp.seq | apply AWp.region | ((apply AWp.condP; exact rfl) <;> intro h) | apply AWp.block | apply AWp.ret | apply AWp.exit | apply AWp.skip | (apply w_len; exact rfl; exact rfl; first | exact .ints _ | exact .intss _ | exact .sli rfl | exact .sls rfl | exact .slr rfl | exact .orow rfl | exact .nil) | (apply w_callm (hlab); (focus ((repeat (first | exact im_nil | refine im_cons rfl (.val _) ?_ | refine im_cons rfl (.intss _) ?_)); done)); rintro r os0 ⟨rfl, rfl⟩; try simp only [List.nil_append, List.cons_append, List.set_cons_zero, List.set_cons_succ, List.length_cons, List.length_nil, Nat.reduceAdd, AV.sh, AV.sh1, AV.sh0, AO.sh, List.map_cons, List.map_nil, Nat.zero_add, Nat.add_zero, setAll]) | (apply w_call (hmax); exact rfl; exact rfl; focus ((repeat (first | exact im_nil | refine im_cons rfl (.sli rfl) ?_)); done)) | omega | ((first | apply w_lss | apply w_eql | apply w_add | apply w_ld | apply w_fa); iterate 3 exact rfl) | (apply w_ldb; iterate 5 exact rfl) | (apply inI_of <;> omega))
      all_goals exact .bool Try.results37 rfl hres.symm
  · have hno : gok W E = false := gok_f fun h => c0 ⟨h.n.1, h.n.2, h.w, h.len⟩
    repeat' (first | (apply AOps.nil; try simp only [List.nil_append, List.cons_append, List.set_cons_zero, List.set_cons_succ, List.length_cons, List.length_nil, Nat.reduceAdd, AV.sh, AV.sh1, AV.sh0, AO.sh, List.map_cons, List.map_nil, Nat.zero_add, Nat.add_zero, setAll]) | ((apply AOps.splitP; exact rfl; exact rfl) <;> intro h) | (apply w_move; exact rfl; exact rfl) | (apply w_assign; exact rfl; exact rfl) | apply AWp.seq | apply AWp.region | ((apply AWp.condP; exact rfl) <;> intro h) | (apply AWp.condT; exact rfl) | apply AWp.block | apply AWp.ret | apply AWp.skip | (apply w_skip; exact rfl) | (apply w_pickT; exact rfl; exact rfl; exact rfl) | (apply w_pickF; exact rfl; exact rfl; exact rfl) | (apply w_len; exact rfl; exact rfl; first | exact .ints _ | exact .intss _ | exact .sli rfl | exact .sls rfl | exact .slr rfl | exact .orow rfl | exact .nil) | (apply w_call (hwi); exact rfl; exact rfl; focus ((repeat (first | exact im_nil | refine im_cons rfl (.val _) ?_ | refine im_cons rfl (.ints _) ?_)); done)) | ((first | apply w_lss | apply w_gtr | apply w_geq | apply w_ld | apply w_fa); iterate 3 exact rfl) | ((first | apply w_not | apply w_boxa); iterate 2 exact rfl) | (apply w_ldb; iterate 5 exact rfl) | ((apply AOps.splitB; exact rfl; exact rfl) <;> intro h))
    all_goals first | exact .bool Try.results37 rfl hno.symm | (exfalso; refine c0 ⟨by omega, by omega, ?_, by omega⟩; simp_all; done)
end Go.Proofs.Ytbalbiliejjnoaa
/-
  Whether a graph is one, walked: the reference. No condition on the graph.
-/
namespace Go.Proofs.Ytbalbiliejjnoaa
open Go Go.RowKit
attribute [local irreducible] AWp AOps ResIs Ret1 QOp LOp COp AFnV AFn Imms LeE LeO
set_option maxHeartbeats 1000000
set_option linter.unusedSimpArgs false
set_option linter.unusedVariables false

def less2 (a b : List Int) : Bool := decide (geti a 0 < geti b 0 ∨ (geti a 0 = geti b 0 ∧ geti a 1 < geti b 1))
theorem l01Less_c (a b : List Int) (ha : a.length = 2) (hb : b.length = 2) : AFnV Try.prog 58 [.ints a, .ints b] (.bool (less2 a b)) := by
  (refine AFnV.start Try.func58 Try.ntmps58 rfl (by kernel_rfl) fun hk => ?_; simp only [Env.start, enumF, List.length_cons, List.length_nil, Nat.reduceAdd, Nat.reduceSub, List.cons_append, List.nil_append])
  repeat' (first | (apply AOps.nil; try simp only [List.nil_append, List.cons_append, List.set_cons_zero, List.set_cons_succ, List.length_cons, List.length_nil, Nat.reduceAdd, AV.sh, AV.sh1, AV.sh0, AO.sh, List.map_cons, List.map_nil, Nat.zero_add, Nat.add_zero, setAll]) | (apply w_assign; exact rfl; exact rfl) | apply AWp.seq | apply AWp.region | apply AWp.block)
  refine AWp.loop (ι := Nat) (fun i => ⟨41, [(0, .ints a), (1, .ints b), (5, .i i)]⟩) (fun _ => []) (fun i => i ≤ 2 ∧ (1 ≤ i → geti a 0 = geti b 0) ∧ (2 ≤ i → geti a 1 = geti b 1)) (fun i => 2 - i) 0 ⟨by omega, fun h => by omega, fun h => by omega⟩ ⟨lee rfl (by (repeat (first | exact le_nil | refine le_eq rfl rfl ?_))), by (repeat (exact lo_nil)), rfl, rfl⟩ ?_
  rintro i ⟨h0, h1, h2⟩
  rcases (show i = 0 ∨ i = 1 ∨ i = 2 by omega) with rfl | rfl | rfl
  all_goals repeat' (first | (apply AOps.nil; try simp only [List.nil_append, List.cons_append, List.set_cons_zero, List.set_cons_succ, List.length_cons, List.length_nil, Nat.reduceAdd, AV.sh, AV.sh1, AV.sh0, AO.sh, List.map_cons, List.map_nil, Nat.zero_add, Nat.add_zero, setAll]) | ((apply AOps.splitP; exact rfl; exact rfl) <;> intro h) | (apply w_move; exact rfl; exact rfl) | (apply w_assign; exact rfl; exact rfl) | apply AWp.seq | apply AWp.region | ((apply AWp.condP; exact rfl) <;> intro h) | (apply AWp.condF; exact rfl) | apply AWp.block | apply AWp.ret | apply AWp.exit | apply AWp.skip | (apply AWp.regionQ; kernel_rfl; kernel_rfl) | (apply w_skip; exact rfl) | (apply w_pickT; exact rfl; exact rfl; exact rfl) | (apply w_pickF; exact rfl; exact rfl; exact rfl) | (apply w_len; exact rfl; exact rfl; first | exact .ints _ | exact .intss _ | exact .sli rfl | exact .sls rfl | exact .slr rfl | exact .orow rfl | exact .nil) | ((first | apply w_lss | apply w_neq | apply w_add | apply w_idx | apply w_ld); iterate 3 exact rfl) | (apply inI_of <;> omega) | omega)
  all_goals try simp only [Int.natCast_zero, Int.natCast_one] at *
  all_goals first
    | exact ⟨1, ⟨by omega, fun _ => by omega, fun h => by omega⟩, by omega, ⟨lee rfl (by (repeat (first | exact le_nil | refine le_eq rfl rfl ?_))), by (repeat (exact lo_nil)), rfl, rfl⟩⟩
    | exact ⟨2, ⟨by omega, fun _ => by omega, fun _ => by omega⟩, by omega, ⟨lee rfl (by (repeat (first | exact le_nil | refine le_eq rfl rfl ?_))), by (repeat (exact lo_nil)), rfl, rfl⟩⟩
    | (refine .bool Try.results58 rfl ?_
       unfold less2
       rw [Bool.eq_iff_iff, decide_eq_true_iff, decide_eq_true_iff]
       omega)

def mgR : List Int → List (List Int) → List Int
  | L, [] => L
  | L, e :: E => mgR (mgL L (geti L (geti e 0)) (geti L (geti e 1))) E
theorem mgR_app : ∀ (A B : List (List Int)) (L : List Int), mgR L (A ++ B) = mgR (mgR L A) B
  | [], _, _ => rfl
  | _ :: A, B, L => mgR_app A B _
theorem mgR_len : ∀ (A : List (List Int)) (L : List Int), (mgR L A).length = L.length
  | [], _ => rfl
  | _ :: A, L => by rw [mgR, mgR_len A, mgL_len]
theorem effL_app : ∀ (A B : List (List Int)) (L : List Int), effL L (A ++ B) ↔ effL L A ∧ effL (mgR L A) B
  | [], _, _ => by simp [effL, mgR]
  | e :: A, B, L => by
    rw [List.cons_append, effL, effL, mgR, effL_app A B, and_assoc]
theorem mgR_rng {n : Nat} : ∀ {A : List (List Int)} {L : List Int}, L.length = n → (∀ x ∈ L, 0 ≤ x ∧ x < n) → (∀ e ∈ A, EIn n e) → ∀ x ∈ mgR L A, 0 ≤ x ∧ x < n
  | [], L, _, h, _ => h
  | e :: A, L, hl, h, hA => by
    obtain ⟨_, e2, e3, e4⟩ := hA e (by simp)
    rw [mgR]
    refine mgR_rng (by rw [mgL_len]; exact hl) (fun x hx => ?_) fun f hf => hA f (by simp [hf])
    unfold mgL at hx
    obtain ⟨y, hy, rfl⟩ := List.mem_map.1 hx
    split
    · exact h _ (geti_mem e2 (by omega))
    · exact h y hy
theorem idL_rng (n : Nat) : ∀ x ∈ idL n, 0 ≤ x ∧ x < n := fun x hx => by
  unfold idL at hx
  obtain ⟨k, hk, rfl⟩ := List.mem_map.1 hx
  have := List.mem_range.1 hk
  omega
theorem idL_succ (n : Nat) : idL (n + 1) = idL n ++ [(n : Int)] := by unfold idL; rw [List.range_succ, List.map_append]; rfl
theorem lessLx (a b : List Int) : less2 a b = true ↔ lx a b := by unfold less2 lx; exact decide_eq_true_iff

set_option maxHeartbeats 32000000 in
theorem l11Is_c (W : List Int) (E : List (List Int)) : AFnV Try.prog 35 [.agg [.ints W, .intss E]] (.bool (gok W E)) := by
  (refine AFnV.start Try.func35 Try.ntmps35 rfl (by kernel_rfl) fun hk => ?_; simp only [Env.start, enumF, List.length_cons, List.length_nil, Nat.reduceAdd, Nat.reduceSub, List.cons_append, List.nil_append])
  by_cases c0 : 1 ≤ W.length ∧ W.length ≤ 40
  case neg =>
    have hno : gok W E = false := gok_f fun h => c0 h.n
    repeat' (first | (apply AOps.nil; try simp only [List.nil_append, List.cons_append, List.set_cons_zero, List.set_cons_succ, List.length_cons, List.length_nil, Nat.reduceAdd, AV.sh, AV.sh1, AV.sh0, AO.sh, List.map_cons, List.map_nil, Nat.zero_add, Nat.add_zero, setAll]) | ((apply AOps.splitP; exact rfl; exact rfl) <;> intro h) | (apply w_move; exact rfl; exact rfl) | (apply w_assign; exact rfl; exact rfl) | apply AWp.seq | apply AWp.region | ((apply AWp.condP; exact rfl) <;> intro h) | (apply AWp.condT; exact rfl) | apply AWp.block | apply AWp.ret | apply AWp.skip | (apply w_skip; exact rfl) | (apply w_pickT; exact rfl; exact rfl; exact rfl) | (apply w_pickF; exact rfl; exact rfl; exact rfl) | (apply w_len; exact rfl; exact rfl; first | exact .ints _ | exact .intss _ | exact .sli rfl | exact .sls rfl | exact .slr rfl | exact .orow rfl | exact .nil) | omega | ((first | apply w_lss | apply w_gtr | apply w_ld | apply w_fa); iterate 3 exact rfl) | ((apply w_boxa); iterate 2 exact rfl) | (apply w_ldb; iterate 5 exact rfl))
    all_goals try (exfalso; omega)
    all_goals try exact .bool Try.results35 rfl hno.symm
  obtain ⟨c1, c2⟩ := c0
  repeat' (first | (apply AOps.nil; try simp only [List.nil_append, List.cons_append, List.set_cons_zero, List.set_cons_succ, List.length_cons, List.length_nil, Nat.reduceAdd, AV.sh, AV.sh1, AV.sh0, AO.sh, List.map_cons, List.map_nil, Nat.zero_add, Nat.add_zero, setAll]) | ((apply AOps.splitP; exact rfl; exact rfl) <;> intro h) | (apply w_move; exact rfl; exact rfl) | (apply w_assign; exact rfl; exact rfl) | apply AWp.seq | apply AWp.region | ((apply AWp.condP; exact rfl) <;> intro h) | (apply AWp.condT; exact rfl) | apply AWp.block | apply AWp.ret | apply AWp.skip | (apply w_skip; exact rfl) | (apply w_pickT; exact rfl; exact rfl; exact rfl) | (apply w_pickF; exact rfl; exact rfl; exact rfl) | (apply w_len; exact rfl; exact rfl; first | exact .ints _ | exact .intss _ | exact .sli rfl | exact .sls rfl | exact .slr rfl | exact .orow rfl | exact .nil) | omega | ((first | apply w_lss | apply w_gtr | apply w_ld | apply w_fa); iterate 3 exact rfl) | ((apply w_boxa); iterate 2 exact rfl) | (apply w_ldb; iterate 5 exact rfl))
  refine AWp.loop (ι := Nat) (fun i => ⟨133, [(1, .optr 0 0), (3, .i W.length), (4, .i i)]⟩) (fun _ => [.bx 29 [.ints W, .intss E]]) (fun i => i ≤ W.length ∧ withinL (W.take i) (-1000) 1000 = true) (fun i => W.length - i) 0 ⟨by omega, rfl⟩ ⟨lee rfl (by (repeat (first | exact le_nil | refine le_eq rfl rfl ?_))), by (repeat (first | exact lo_nil | refine lo_eq rfl ?_)), rfl, rfl⟩ ?_
  rintro i ⟨i0, i1⟩
  by_cases hi : i < W.length
  · have hin := l01In_c (geti W (i : Nat)) (-1000) 1000
    have hst := withinL_snoc W (-1000) 1000 (i : Nat) (by omega) (by omega)
    rw [show ((i : Nat) : Int).toNat = i from rfl, show (((i : Nat) : Int) + 1).toNat = i + 1 from rfl, i1, Bool.true_and] at hst
    cases hc : decide (-1000 ≤ geti W (i : Nat) ∧ geti W (i : Nat) ≤ 1000) with
    | true =>
      rw [hc] at hin hst
      repeat' (first | (apply AOps.nil; try simp only [List.nil_append, List.cons_append, List.set_cons_zero, List.set_cons_succ, List.length_cons, List.length_nil, Nat.reduceAdd, AV.sh, AV.sh1, AV.sh0, AO.sh, List.map_cons, List.map_nil, Nat.zero_add, Nat.add_zero, setAll]) | (apply w_move; exact rfl; exact rfl) | (apply w_assign; exact rfl; exact rfl) | apply AWp.seq | apply AWp.region | ((apply AWp.condP; exact rfl) <;> intro h) | (apply AWp.condF; exact rfl) | apply AWp.block | apply AWp.exit | apply AWp.skip | (apply w_len; exact rfl; exact rfl; first | exact .ints _ | exact .intss _ | exact .sli rfl | exact .sls rfl | exact .slr rfl | exact .orow rfl | exact .nil) | (apply w_call (hin); exact rfl; exact rfl; focus ((repeat (first | exact im_nil | refine im_cons rfl (.val _) ?_)); done)) | omega | ((first | apply w_lss | apply w_add | apply w_idx | apply w_ld | apply w_fa); iterate 3 exact rfl) | ((apply w_not); iterate 2 exact rfl) | (apply w_ldb; iterate 5 exact rfl) | (apply inI_of <;> omega))
      exact ⟨i + 1, ⟨by omega, hst⟩, by omega, ⟨lee rfl (by (repeat (first | exact le_nil | refine le_eq rfl rfl ?_))), by (repeat (first | exact lo_nil | refine lo_eq rfl ?_)), rfl, rfl⟩⟩
    | false =>
      rw [hc] at hin
      have hno : gok W E = false := gok_f fun h => by
        have := within_geti h.w (i : Nat)
        exact (of_decide_eq_false hc) this
      repeat' (first | (apply AOps.nil; try simp only [List.nil_append, List.cons_append, List.set_cons_zero, List.set_cons_succ, List.length_cons, List.length_nil, Nat.reduceAdd, AV.sh, AV.sh1, AV.sh0, AO.sh, List.map_cons, List.map_nil, Nat.zero_add, Nat.add_zero, setAll]) | (apply w_move; exact rfl; exact rfl) | (apply w_assign; exact rfl; exact rfl) | apply AWp.seq | apply AWp.region | ((apply AWp.condP; exact rfl) <;> intro h) | (apply AWp.condT; exact rfl) | apply AWp.block | apply AWp.ret | apply AWp.exit | apply AWp.skip | (apply w_len; exact rfl; exact rfl; first | exact .ints _ | exact .intss _ | exact .sli rfl | exact .sls rfl | exact .slr rfl | exact .orow rfl | exact .nil) | (apply w_call (hin); exact rfl; exact rfl; focus ((repeat (first | exact im_nil | refine im_cons rfl (.val _) ?_)); done)) | omega | ((first | apply w_lss | apply w_idx | apply w_ld | apply w_fa); iterate 3 exact rfl) | ((apply w_not); iterate 2 exact rfl) | (apply w_ldb; iterate 5 exact rfl))
      all_goals exact .bool Try.results35 rfl hno.symm
  have ei : i = W.length := by omega
  subst ei
  rw [List.take_length] at i1
  repeat' (first | (apply AOps.nil; try simp only [List.nil_append, List.cons_append, List.set_cons_zero, List.set_cons_succ, List.length_cons, List.length_nil, Nat.reduceAdd, AV.sh, AV.sh1, AV.sh0, AO.sh, List.map_cons, List.map_nil, Nat.zero_add, Nat.add_zero, setAll]) | (apply w_move; exact rfl; exact rfl) | (apply w_assign; exact rfl; exact rfl) | apply AWp.seq | apply AWp.region | ((apply AWp.condP; exact rfl) <;> intro h) | apply AWp.block | apply AWp.exit | apply AWp.skip | (apply w_len; exact rfl; exact rfl; first | exact .ints _ | exact .intss _ | exact .sli rfl | exact .sls rfl | exact .slr rfl | exact .orow rfl | exact .nil) | omega | ((first | apply w_lss | apply w_ld | apply w_fa); iterate 3 exact rfl) | (apply w_ldb; iterate 5 exact rfl) | (apply w_bs0; iterate 1 exact rfl))
  refine AWp.loop (ι := Nat) (fun i => ⟨133, [(1, .optr 0 0), (3, .i W.length), (5, .own 1), (6, .i i)]⟩) (fun i => [.bx 29 [.ints W, .intss E], .sli 2 (idL i)]) (fun i => i ≤ W.length) (fun i => W.length - i) 0 (by omega) ⟨lee rfl (by (repeat (first | exact le_nil | refine le_eq rfl rfl ?_))), by (repeat (first | exact lo_nil | refine lo_eq rfl ?_)), rfl, rfl⟩ ?_
  intro i i0
  have il := idL_len i
  have is := idL_succ i
  by_cases hi : i < W.length
  · have hbl : ((idL i).length + [(i : Int)].length) * 8 ≤ 140737488355328 := by
      simp only [List.length_cons, List.length_nil]; omega
    generalize idL i = L at *
    repeat' (first | (apply AOps.nil; try simp only [List.nil_append, List.cons_append, List.set_cons_zero, List.set_cons_succ, List.length_cons, List.length_nil, Nat.reduceAdd, AV.sh, AV.sh1, AV.sh0, AO.sh, List.map_cons, List.map_nil, Nat.zero_add, Nat.add_zero, setAll]) | (apply w_move; exact rfl; exact rfl) | (apply w_assign; exact rfl; exact rfl) | apply AWp.seq | apply AWp.region | ((apply AWp.condP; exact rfl) <;> intro h) | apply AWp.block | apply AWp.exit | apply AWp.skip | omega | ((first | apply w_lss | apply w_add); iterate 3 exact rfl) | ((apply w_bs1); iterate 2 exact rfl) | (apply w_app; exact rfl; exact rfl; exact rfl; exact rfl; (exact .sli rfl); rotate_left 1; simp only [Env.mp, List.map_cons, List.map_nil, List.set_cons_zero, List.set_cons_succ, AV.kill, AV.kill1, AO.kill, AV.noRow, AV.noRow1, AO.via, reduceIte, Nat.reduceEqDiff, Nat.reduceLT, Env.up, Nat.zero_ne_one, Nat.one_ne_zero, Nat.reduceAdd, List.cons_append, List.nil_append]; rotate_left 1) | (apply inI_of <;> omega))
    exact ⟨i + 1, by omega, by omega, ⟨lee rfl (by (repeat (first | exact le_nil | refine le_eq rfl rfl ?_))), by (repeat (first | exact lo_nil | refine lo_eq rfl ?_ | refine lo_eq (congrArg (AO.sli _) (is.symm)) ?_)), rfl, rfl⟩⟩
  have ei : i = W.length := by omega
  subst ei
  repeat' (first | (apply AOps.nil; try simp only [List.nil_append, List.cons_append, List.set_cons_zero, List.set_cons_succ, List.length_cons, List.length_nil, Nat.reduceAdd, AV.sh, AV.sh1, AV.sh0, AO.sh, List.map_cons, List.map_nil, Nat.zero_add, Nat.add_zero, setAll]) | (apply w_move; exact rfl; exact rfl) | (apply w_assign; exact rfl; exact rfl) | apply AWp.seq | apply AWp.region | ((apply AWp.condP; exact rfl) <;> intro h) | apply AWp.block | apply AWp.exit | apply AWp.skip | omega | ((apply w_lss); iterate 3 exact rfl))
  refine AWp.loop (ι := Nat) (fun k => ⟨133, [(1, .optr 0 0), (3, .i W.length), (5, .own 1), (7, .i k)]⟩) (fun k => [.bx 29 [.ints W, .intss E], .sli 2 (mgR (idL W.length) (E.take k))]) (fun k => k ≤ E.length ∧ (∀ e ∈ E.take k, EIn W.length e) ∧ (E.take k).Pairwise lx ∧ effL (idL W.length) (E.take k)) (fun k => E.length - k) 0 ⟨by omega, by simp, by simp, trivial⟩ ⟨lee rfl (by (repeat (first | exact le_nil | refine le_eq rfl rfl ?_))), by (repeat (first | exact lo_nil | refine lo_eq rfl ?_)), rfl, rfl⟩ ?_
  rintro k ⟨k0, k1, k2, k3⟩
  by_cases hk : k < E.length
  · have hkn : k + 1 ≤ W.length := by
      obtain ⟨_, m, _, _, m0, _, hm⟩ := lab_max (n := W.length) (E := E.take k) (by omega) k1
      have := hm.2 k3
      rw [List.length_take] at this; omega
    have hsn := pw_snoc hk
    have hrow : ∀ f ∈ E.take (k + 1), EIn W.length f ∨ f = gets E (k : Nat) := fun f hf => by
      rw [List.take_succ_eq_append_getElem hk, gets_eq hk] at hf
      rcases List.mem_append.1 hf with hf | hf
      · exact .inl (k1 f hf)
      · exact .inr (List.mem_singleton.1 hf)
    have hmem : gets E (k : Nat) ∈ E := gets_mem (by omega) (by omega)
    have hml : (mgR (idL W.length) (E.take k)).length = W.length := by rw [mgR_len, idL_len]
    have hmr := mgR_rng (idL_len W.length) (idL_rng W.length) k1
    have het := effL_app (E.take k) [gets E (k : Nat)] (idL W.length)
    have hmt := mgR_app (E.take k) [gets E (k : Nat)] (idL W.length)
    have ets : E.take k ++ [gets E (k : Nat)] = E.take (k + 1) := by rw [List.take_succ_eq_append_getElem hk, gets_eq hk]
    rw [ets] at het hmt
    rw [mgR, mgR] at hmt
    have hi0 := l01In_c (geti (gets E (k : Nat)) 0) 0 ((W.length : Int) - 1)
    have hi1 := l01In_c (geti (gets E (k : Nat)) 1) 0 ((W.length : Int) - 1)
    by_cases he : EIn W.length (gets E (k : Nat))
    · obtain ⟨e1, e2, e3, e4⟩ := id he
      rw [decide_eq_true (by omega)] at hi0 hi1
      have hdp : ∀ h : GOk W E, effL (idL W.length) (E.take (k + 1)) := fun h => by
        have := h.eff
        rw [← List.take_append_drop (k + 1) E, effL_app] at this
        exact this.1
      have hrw : ∀ f ∈ E.take (k + 1), EIn W.length f := fun f hf => (hrow f hf).elim id fun h => h ▸ he
      -- the order
      by_cases hord : k = 0 ∨ lx (gets E ((k - 1 : Nat) : Int)) (gets E (k : Nat))
      case neg =>
        have hz : ¬ k = 0 := fun h => hord (.inl h)
        have hp1 : gets E (((k : Nat) : Int) - 1) = gets E ((k - 1 : Nat) : Int) := by congr 1; omega
        have hm1 : gets E ((k - 1 : Nat) : Int) ∈ E.take k := by
          rw [← gets_eq (by omega)]
          exact List.mem_take_iff_getElem.2 ⟨k - 1, by omega, rfl⟩
        have hcm := l01Less_c (gets E ((k - 1 : Nat) : Int)) (gets E (k : Nat)) (k1 _ hm1).1 e1
        have hlf : less2 (gets E ((k - 1 : Nat) : Int)) (gets E (k : Nat)) = false := by
          rw [Bool.eq_false_iff]; exact fun h => hord (.inr ((lessLx _ _).1 h))
        rw [hlf, ← hp1] at hcm
        have hno : gok W E = false := gok_f fun h => hord (hsn.1 (pw_take h.srt (k + 1))).2
        generalize mgR (idL W.length) (E.take k) = L at *
        repeat' (first | (apply AOps.nil; try simp only [List.nil_append, List.cons_append, List.set_cons_zero, List.set_cons_succ, List.length_cons, List.length_nil, Nat.reduceAdd, AV.sh, AV.sh1, AV.sh0, AO.sh, List.map_cons, List.map_nil, Nat.zero_add, Nat.add_zero, setAll]) | (apply w_move; exact rfl; exact rfl) | (apply w_assign; exact rfl; exact rfl) | apply AWp.seq | apply AWp.region | ((apply AWp.condP; exact rfl) <;> intro h) | apply AWp.block | apply AWp.ret | apply AWp.exit | apply AWp.skip | (apply w_len; exact rfl; exact rfl; first | exact .ints _ | exact .intss _ | exact .sli rfl | exact .sls rfl | exact .slr rfl | exact .orow rfl | exact .nil) | omega | ((first | apply w_lss | apply w_idx | apply w_ld | apply w_fa); iterate 3 exact rfl) | ((first | apply w_idxs | apply w_lds); iterate 3 exact rfl) | (apply w_ldb; iterate 5 exact rfl))
        refine AWp.regionQ (by kernel_rfl) (by kernel_rfl) ?_
        repeat' (first | (apply AOps.nil; try simp only [List.nil_append, List.cons_append, List.set_cons_zero, List.set_cons_succ, List.length_cons, List.length_nil, Nat.reduceAdd, AV.sh, AV.sh1, AV.sh0, AO.sh, List.map_cons, List.map_nil, Nat.zero_add, Nat.add_zero, setAll]) | ((apply AOps.splitP; exact rfl; exact rfl) <;> intro h) | (apply w_move; exact rfl; exact rfl) | (apply w_assign; exact rfl; exact rfl) | apply AWp.seq | apply AWp.region | (apply AWp.condT; exact rfl) | (apply AWp.condF; exact rfl) | apply AWp.ret | apply AWp.skip | (apply w_skip; exact rfl) | (apply w_pickT; exact rfl; exact rfl; exact rfl) | (apply w_pickF; exact rfl; exact rfl; exact rfl) | (apply w_len; exact rfl; exact rfl; first | exact .ints _ | exact .intss _ | exact .sli rfl | exact .sls rfl | exact .slr rfl | exact .orow rfl | exact .nil) | (apply w_call (hi0); exact rfl; exact rfl; focus ((repeat (first | exact im_nil | refine im_cons rfl (.val _) ?_)); done)) | (apply w_call (hi1); exact rfl; exact rfl; focus ((repeat (first | exact im_nil | refine im_cons rfl (.val _) ?_)); done)) | (apply w_call (hcm); exact rfl; exact rfl; focus ((repeat (first | exact im_nil | refine im_cons rfl (.ints _) ?_)); done)) | omega | ((first | apply w_gtr | apply w_geq | apply w_neq | apply w_sub | apply w_idx | apply w_ld | apply w_fa); iterate 3 exact rfl) | ((first | apply w_idxs | apply w_lds); iterate 3 exact rfl) | ((apply w_not); iterate 2 exact rfl) | (apply w_ldb; iterate 5 exact rfl) | (apply inI_of <;> omega))
        all_goals try (exfalso; omega)
        all_goals try exact .bool Try.results35 rfl hno.symm
      have hpw := hsn.2 ⟨k2, hord⟩
      have hb0 := hmr _ (geti_mem (xs := mgR (idL W.length) (E.take k)) (i := geti (gets E (k : Nat)) 0) e2 (by omega))
      have hb1 := hmr _ (geti_mem (xs := mgR (idL W.length) (E.take k)) (i := geti (gets E (k : Nat)) 1) (by omega) (by omega))
      have hcm : k = 0 ∨ AFnV Try.prog 58 [.ints (gets E (((k : Nat) : Int) - 1)), .ints (gets E (k : Nat))] (.bool true) := by
        by_cases hz : k = 0
        · exact .inl hz
        · right
          have hp1 : gets E (((k : Nat) : Int) - 1) = gets E ((k - 1 : Nat) : Int) := by congr 1; omega
          have hm1 : gets E ((k - 1 : Nat) : Int) ∈ E.take k := by
            rw [← gets_eq (by omega)]
            exact List.mem_take_iff_getElem.2 ⟨k - 1, by omega, rfl⟩
          have hcm := l01Less_c (gets E ((k - 1 : Nat) : Int)) (gets E (k : Nat)) (k1 _ hm1).1 e1
          rw [(lessLx _ _).2 (hord.resolve_left hz), ← hp1] at hcm
          exact hcm
      by_cases hab : geti (mgR (idL W.length) (E.take k)) (geti (gets E (k : Nat)) 0) = geti (mgR (idL W.length) (E.take k)) (geti (gets E (k : Nat)) 1)
      · have hno : gok W E = false := gok_f fun h => by
          have := ((het).1 (hdp h)).2
          rw [effL] at this
          exact this.1 hab
        generalize mgR (idL W.length) (E.take k) = L at *
        repeat' (first | (apply AOps.nil; try simp only [List.nil_append, List.cons_append, List.set_cons_zero, List.set_cons_succ, List.length_cons, List.length_nil, Nat.reduceAdd, AV.sh, AV.sh1, AV.sh0, AO.sh, List.map_cons, List.map_nil, Nat.zero_add, Nat.add_zero, setAll]) | (apply w_move; exact rfl; exact rfl) | (apply w_assign; exact rfl; exact rfl) | apply AWp.seq | apply AWp.region | ((apply AWp.condP; exact rfl) <;> intro h) | apply AWp.block | apply AWp.ret | apply AWp.exit | apply AWp.skip | (apply w_len; exact rfl; exact rfl; first | exact .ints _ | exact .intss _ | exact .sli rfl | exact .sls rfl | exact .slr rfl | exact .orow rfl | exact .nil) | omega | ((first | apply w_lss | apply w_idx | apply w_ld | apply w_fa); iterate 3 exact rfl) | ((first | apply w_idxs | apply w_lds); iterate 3 exact rfl) | (apply w_ldb; iterate 5 exact rfl))
        refine AWp.regionG [] (by kernel_rfl) (envC := ⟨133, [(1, .optr 0 0), (3, .i W.length), (5, .own 1), (7, .i k), (8, .ints (gets E (k : Nat))), (101, .b false)]⟩) (osC := [.bx 29 [.ints W, .intss E], .sli 2 L]) rfl rfl ?_ ?_
        · rcases hcm with hz | hcm
          · subst hz
            repeat' (first | (apply AOps.nil; try simp only [List.nil_append, List.cons_append, List.set_cons_zero, List.set_cons_succ, List.length_cons, List.length_nil, Nat.reduceAdd, AV.sh, AV.sh1, AV.sh0, AO.sh, List.map_cons, List.map_nil, Nat.zero_add, Nat.add_zero, setAll]) | ((apply AOps.splitP; exact rfl; exact rfl) <;> intro h) | (apply w_move; exact rfl; exact rfl) | (apply w_skip; exact rfl) | (apply w_pickT; exact rfl; exact rfl; exact rfl) | (apply w_pickF; exact rfl; exact rfl; exact rfl) | (apply w_len; exact rfl; exact rfl; first | exact .ints _ | exact .intss _ | exact .sli rfl | exact .sls rfl | exact .slr rfl | exact .orow rfl | exact .nil) | apply AllOfG.nil | (apply AllOfG.consS; exact rfl; exact rfl) | (apply AAnyG.takeW; exact rfl; exact rfl; kernel_rfl; kernel_rfl) | (apply AAnyG.takeL; exact rfl; exact rfl; kernel_rfl) | (apply AAnyG.all; exact rfl) | (apply AAnyG.done; exact rfl) | (apply w_call (hi0); exact rfl; exact rfl; focus ((repeat (first | exact im_nil | refine im_cons rfl (.val _) ?_)); done)) | (apply w_call (hi1); exact rfl; exact rfl; focus ((repeat (first | exact im_nil | refine im_cons rfl (.val _) ?_)); done)) | omega | ((first | apply w_gtr | apply w_geq | apply w_neq | apply w_sub | apply w_idx | apply w_ld); iterate 3 exact rfl) | ((apply w_not); iterate 2 exact rfl) | (apply inI_of <;> omega))
            all_goals try (exfalso; omega)
            all_goals (apply Or.inl; refine ⟨lee rfl ?_, ?_, rfl, rfl⟩; (focus ((repeat (first | exact le_nil | refine le_eq rfl rfl ?_)); done)); (focus ((repeat (first | exact lo_nil | refine lo_eq rfl ?_)); done)))
          · repeat' (first | (apply AOps.nil; try simp only [List.nil_append, List.cons_append, List.set_cons_zero, List.set_cons_succ, List.length_cons, List.length_nil, Nat.reduceAdd, AV.sh, AV.sh1, AV.sh0, AO.sh, List.map_cons, List.map_nil, Nat.zero_add, Nat.add_zero, setAll]) | ((apply AOps.splitP; exact rfl; exact rfl) <;> intro h) | (apply w_move; exact rfl; exact rfl) | (apply w_skip; exact rfl) | (apply w_pickT; exact rfl; exact rfl; exact rfl) | (apply w_pickF; exact rfl; exact rfl; exact rfl) | (apply w_len; exact rfl; exact rfl; first | exact .ints _ | exact .intss _ | exact .sli rfl | exact .sls rfl | exact .slr rfl | exact .orow rfl | exact .nil) | apply AllOfG.nil | (apply AllOfG.consS; exact rfl; exact rfl) | (apply AAnyG.takeW; exact rfl; exact rfl; kernel_rfl; kernel_rfl) | (apply AAnyG.takeL; exact rfl; exact rfl; kernel_rfl) | (apply AAnyG.all; exact rfl) | (apply AAnyG.done; exact rfl) | (apply w_call (hi0); exact rfl; exact rfl; focus ((repeat (first | exact im_nil | refine im_cons rfl (.val _) ?_)); done)) | (apply w_call (hi1); exact rfl; exact rfl; focus ((repeat (first | exact im_nil | refine im_cons rfl (.val _) ?_)); done)) | (apply w_call (hcm); exact rfl; exact rfl; focus ((repeat (first | exact im_nil | refine im_cons rfl (.ints _) ?_)); done)) | omega | ((first | apply w_gtr | apply w_geq | apply w_neq | apply w_sub | apply w_idx | apply w_ld | apply w_fa); iterate 3 exact rfl) | ((first | apply w_idxs | apply w_lds); iterate 3 exact rfl) | ((apply w_not); iterate 2 exact rfl) | (apply w_ldb; iterate 5 exact rfl) | (apply inI_of <;> omega))
            all_goals try (exfalso; omega)
            all_goals (apply Or.inl; refine ⟨lee rfl ?_, ?_, rfl, rfl⟩; (focus ((repeat (first | exact le_nil | refine le_eq rfl rfl ?_)); done)); (focus ((repeat (first | exact lo_nil | refine lo_eq rfl ?_)); done)))
        clear hcm
        generalize hev : gets E (k : Nat) = e at *
        obtain ⟨a, ea⟩ : ∃ a, a = geti L (geti e 0) := ⟨_, rfl⟩
        obtain ⟨b, eb⟩ : ∃ b, b = geti L (geti e 1) := ⟨_, rfl⟩
        repeat' (first | apply AWp.seq | (apply AWp.condF; exact rfl) | apply AWp.skip)
        refine AWp.regionG [] (by kernel_rfl) (envC := ⟨133, [(1, .optr 0 0), (3, .i W.length), (5, .own 1), (7, .i k), (9, .i a), (10, .i b)]⟩) (osC := [.bx 29 [.ints W, .intss E], .sli 2 L]) rfl rfl ?_ ?_
        · rw [ea, eb]
          repeat' (first | (apply AOps.nil; try simp only [List.nil_append, List.cons_append, List.set_cons_zero, List.set_cons_succ, List.length_cons, List.length_nil, Nat.reduceAdd, AV.sh, AV.sh1, AV.sh0, AO.sh, List.map_cons, List.map_nil, Nat.zero_add, Nat.add_zero, setAll]) | (apply w_move; exact rfl; exact rfl) | (apply w_assign; exact rfl; exact rfl) | (apply AAnyG.takeW; exact rfl; exact rfl; kernel_rfl; kernel_rfl) | (apply AAnyG.takeL; exact rfl; exact rfl; kernel_rfl) | (apply AAnyG.done; exact rfl) | omega | ((first | apply w_idx | apply w_ld); iterate 3 exact rfl) | (apply w_idxo; exact rfl; exact rfl; (exact .sli rfl); exact rfl) | (apply w_ldo; iterate 4 exact rfl))
          all_goals (apply Or.inl; refine ⟨lee rfl ?_, ?_, rfl, rfl⟩; (focus ((repeat (first | exact le_nil | refine le_eq rfl rfl ?_)); done)); (focus ((repeat (first | exact lo_nil | refine lo_eq rfl ?_)); done)))
        rw [← ea, ← eb] at hab hmt
        rw [← ea] at hb0
        rw [← eb] at hb1
        clear ea eb
        repeat' (first | (apply AOps.nil; try simp only [List.nil_append, List.cons_append, List.set_cons_zero, List.set_cons_succ, List.length_cons, List.length_nil, Nat.reduceAdd, AV.sh, AV.sh1, AV.sh0, AO.sh, List.map_cons, List.map_nil, Nat.zero_add, Nat.add_zero, setAll]) | (apply w_move; exact rfl; exact rfl) | (apply w_assign; exact rfl; exact rfl) | apply AWp.seq | apply AWp.region | ((apply AWp.condP; exact rfl) <;> intro h) | apply AWp.block | apply AWp.ret | apply AWp.skip | omega | ((apply w_eql); iterate 3 exact rfl))
        all_goals try (exfalso; omega)
        all_goals try exact .bool Try.results35 rfl hno.symm
      · have hef : effL (idL W.length) (E.take (k + 1)) := het.2 ⟨k3, by rw [effL]; exact ⟨hab, trivial⟩⟩
        generalize mgR (idL W.length) (E.take k) = L at *
        repeat' (first | (apply AOps.nil; try simp only [List.nil_append, List.cons_append, List.set_cons_zero, List.set_cons_succ, List.length_cons, List.length_nil, Nat.reduceAdd, AV.sh, AV.sh1, AV.sh0, AO.sh, List.map_cons, List.map_nil, Nat.zero_add, Nat.add_zero, setAll]) | (apply w_move; exact rfl; exact rfl) | (apply w_assign; exact rfl; exact rfl) | apply AWp.seq | apply AWp.region | ((apply AWp.condP; exact rfl) <;> intro h) | apply AWp.block | apply AWp.ret | apply AWp.exit | apply AWp.skip | (apply w_len; exact rfl; exact rfl; first | exact .ints _ | exact .intss _ | exact .sli rfl | exact .sls rfl | exact .slr rfl | exact .orow rfl | exact .nil) | omega | ((first | apply w_lss | apply w_idx | apply w_ld | apply w_fa); iterate 3 exact rfl) | ((first | apply w_idxs | apply w_lds); iterate 3 exact rfl) | (apply w_ldb; iterate 5 exact rfl))
        refine AWp.regionG [] (by kernel_rfl) (envC := ⟨133, [(1, .optr 0 0), (3, .i W.length), (5, .own 1), (7, .i k), (8, .ints (gets E (k : Nat))), (101, .b false)]⟩) (osC := [.bx 29 [.ints W, .intss E], .sli 2 L]) rfl rfl ?_ ?_
        · rcases hcm with hz | hcm
          · subst hz
            repeat' (first | (apply AOps.nil; try simp only [List.nil_append, List.cons_append, List.set_cons_zero, List.set_cons_succ, List.length_cons, List.length_nil, Nat.reduceAdd, AV.sh, AV.sh1, AV.sh0, AO.sh, List.map_cons, List.map_nil, Nat.zero_add, Nat.add_zero, setAll]) | ((apply AOps.splitP; exact rfl; exact rfl) <;> intro h) | (apply w_move; exact rfl; exact rfl) | (apply w_skip; exact rfl) | (apply w_pickT; exact rfl; exact rfl; exact rfl) | (apply w_pickF; exact rfl; exact rfl; exact rfl) | (apply w_len; exact rfl; exact rfl; first | exact .ints _ | exact .intss _ | exact .sli rfl | exact .sls rfl | exact .slr rfl | exact .orow rfl | exact .nil) | apply AllOfG.nil | (apply AllOfG.consS; exact rfl; exact rfl) | (apply AAnyG.takeW; exact rfl; exact rfl; kernel_rfl; kernel_rfl) | (apply AAnyG.takeL; exact rfl; exact rfl; kernel_rfl) | (apply AAnyG.all; exact rfl) | (apply AAnyG.done; exact rfl) | (apply w_call (hi0); exact rfl; exact rfl; focus ((repeat (first | exact im_nil | refine im_cons rfl (.val _) ?_)); done)) | (apply w_call (hi1); exact rfl; exact rfl; focus ((repeat (first | exact im_nil | refine im_cons rfl (.val _) ?_)); done)) | omega | ((first | apply w_gtr | apply w_geq | apply w_neq | apply w_sub | apply w_idx | apply w_ld); iterate 3 exact rfl) | ((apply w_not); iterate 2 exact rfl) | (apply inI_of <;> omega))
            all_goals try (exfalso; omega)
            all_goals (apply Or.inl; refine ⟨lee rfl ?_, ?_, rfl, rfl⟩; (focus ((repeat (first | exact le_nil | refine le_eq rfl rfl ?_)); done)); (focus ((repeat (first | exact lo_nil | refine lo_eq rfl ?_)); done)))
          · repeat' (first | (apply AOps.nil; try simp only [List.nil_append, List.cons_append, List.set_cons_zero, List.set_cons_succ, List.length_cons, List.length_nil, Nat.reduceAdd, AV.sh, AV.sh1, AV.sh0, AO.sh, List.map_cons, List.map_nil, Nat.zero_add, Nat.add_zero, setAll]) | ((apply AOps.splitP; exact rfl; exact rfl) <;> intro h) | (apply w_move; exact rfl; exact rfl) | (apply w_skip; exact rfl) | (apply w_pickT; exact rfl; exact rfl; exact rfl) | (apply w_pickF; exact rfl; exact rfl; exact rfl) | (apply w_len; exact rfl; exact rfl; first | exact .ints _ | exact .intss _ | exact .sli rfl | exact .sls rfl | exact .slr rfl | exact .orow rfl | exact .nil) | apply AllOfG.nil | (apply AllOfG.consS; exact rfl; exact rfl) | (apply AAnyG.takeW; exact rfl; exact rfl; kernel_rfl; kernel_rfl) | (apply AAnyG.takeL; exact rfl; exact rfl; kernel_rfl) | (apply AAnyG.all; exact rfl) | (apply AAnyG.done; exact rfl) | (apply w_call (hi0); exact rfl; exact rfl; focus ((repeat (first | exact im_nil | refine im_cons rfl (.val _) ?_)); done)) | (apply w_call (hi1); exact rfl; exact rfl; focus ((repeat (first | exact im_nil | refine im_cons rfl (.val _) ?_)); done)) | (apply w_call (hcm); exact rfl; exact rfl; focus ((repeat (first | exact im_nil | refine im_cons rfl (.ints _) ?_)); done)) | omega | ((first | apply w_gtr | apply w_geq | apply w_neq | apply w_sub | apply w_idx | apply w_ld | apply w_fa); iterate 3 exact rfl) | ((first | apply w_idxs | apply w_lds); iterate 3 exact rfl) | ((apply w_not); iterate 2 exact rfl) | (apply w_ldb; iterate 5 exact rfl) | (apply inI_of <;> omega))
            all_goals try (exfalso; omega)
            all_goals (apply Or.inl; refine ⟨lee rfl ?_, ?_, rfl, rfl⟩; (focus ((repeat (first | exact le_nil | refine le_eq rfl rfl ?_)); done)); (focus ((repeat (first | exact lo_nil | refine lo_eq rfl ?_)); done)))
        clear hcm
        generalize hev : gets E (k : Nat) = e at *
        obtain ⟨a, ea⟩ : ∃ a, a = geti L (geti e 0) := ⟨_, rfl⟩
        obtain ⟨b, eb⟩ : ∃ b, b = geti L (geti e 1) := ⟨_, rfl⟩
        repeat' (first | apply AWp.seq | (apply AWp.condF; exact rfl) | apply AWp.skip)
        refine AWp.regionG [] (by kernel_rfl) (envC := ⟨133, [(1, .optr 0 0), (3, .i W.length), (5, .own 1), (7, .i k), (9, .i a), (10, .i b)]⟩) (osC := [.bx 29 [.ints W, .intss E], .sli 2 L]) rfl rfl ?_ ?_
        · rw [ea, eb]
          repeat' (first | (apply AOps.nil; try simp only [List.nil_append, List.cons_append, List.set_cons_zero, List.set_cons_succ, List.length_cons, List.length_nil, Nat.reduceAdd, AV.sh, AV.sh1, AV.sh0, AO.sh, List.map_cons, List.map_nil, Nat.zero_add, Nat.add_zero, setAll]) | (apply w_move; exact rfl; exact rfl) | (apply w_assign; exact rfl; exact rfl) | (apply AAnyG.takeW; exact rfl; exact rfl; kernel_rfl; kernel_rfl) | (apply AAnyG.takeL; exact rfl; exact rfl; kernel_rfl) | (apply AAnyG.done; exact rfl) | omega | ((first | apply w_idx | apply w_ld); iterate 3 exact rfl) | (apply w_idxo; exact rfl; exact rfl; (exact .sli rfl); exact rfl) | (apply w_ldo; iterate 4 exact rfl))
          all_goals (apply Or.inl; refine ⟨lee rfl ?_, ?_, rfl, rfl⟩; (focus ((repeat (first | exact le_nil | refine le_eq rfl rfl ?_)); done)); (focus ((repeat (first | exact lo_nil | refine lo_eq rfl ?_)); done)))
        rw [← ea, ← eb] at hab hmt
        rw [← ea] at hb0
        rw [← eb] at hb1
        clear ea eb
        repeat' (first | (apply AOps.nil; try simp only [List.nil_append, List.cons_append, List.set_cons_zero, List.set_cons_succ, List.length_cons, List.length_nil, Nat.reduceAdd, AV.sh, AV.sh1, AV.sh0, AO.sh, List.map_cons, List.map_nil, Nat.zero_add, Nat.add_zero, setAll]) | (apply w_move; exact rfl; exact rfl) | (apply w_assign; exact rfl; exact rfl) | apply AWp.seq | apply AWp.region | ((apply AWp.condP; exact rfl) <;> intro h) | apply AWp.block | apply AWp.ret | apply AWp.skip | omega | ((apply w_eql); iterate 3 exact rfl))
        all_goals try (exfalso; omega)
        refine AWp.loop (ι := Nat) (fun j => ⟨133, [(1, .optr 0 0), (3, .i W.length), (5, .own 1), (7, .i k), (9, .i a), (10, .i b), (11, .i j)]⟩) (fun j => [.bx 29 [.ints W, .intss E], .sli 2 (mgT L a b j)]) (fun j => j ≤ W.length) (fun j => W.length - j) 0 (by omega) ⟨lee rfl (by (repeat (first | exact le_nil | refine le_eq rfl rfl ?_))), by (repeat (first | exact lo_nil | refine lo_eq rfl ?_)), rfl, rfl⟩ ?_
        intro j j0
        have ml := mgT_len L a b j
        by_cases hj : j < W.length
        · have m1 := mgT_at (L := L) (a := a) (b := b) (i := j) (by omega)
          have m2 := mgT_eq (L := L) (a := a) (b := b) (i := j) (by omega)
          rw [← m1] at m2
          generalize mgT L a b j = M at *
          have ej : geti M ((((j : Nat) : Int)).toNat : Nat) = geti M (j : Nat) := by rw [Int.toNat_natCast]
          by_cases hc : geti M (j : Nat) = b
          · rw [if_pos hc] at m2
            have hc' := hc
            rw [← ej] at hc'
            repeat' (first | (apply AOps.nil; try simp only [List.nil_append, List.cons_append, List.set_cons_zero, List.set_cons_succ, List.length_cons, List.length_nil, Nat.reduceAdd, AV.sh, AV.sh1, AV.sh0, AO.sh, List.map_cons, List.map_nil, Nat.zero_add, Nat.add_zero, setAll]) | (apply w_move; exact rfl; exact rfl) | (apply w_assign; exact rfl; exact rfl) | apply AWp.seq | apply AWp.region | ((apply AWp.condP; exact rfl) <;> intro h) | apply AWp.block | apply AWp.exit | apply AWp.skip | (apply w_len; exact rfl; exact rfl; first | exact .ints _ | exact .intss _ | exact .sli rfl | exact .sls rfl | exact .slr rfl | exact .orow rfl | exact .nil) | omega | ((first | apply w_lss | apply w_eql | apply w_add | apply w_idx | apply w_ld); iterate 3 exact rfl) | (apply w_idxo; exact rfl; exact rfl; (exact .sli rfl); exact rfl) | (apply w_ldo; iterate 4 exact rfl) | (apply w_sti; exact rfl; exact rfl; rotate_left 1; exact rfl; rotate_left 2) | (apply inI_of <;> omega))
            all_goals try (exfalso; first | exact absurd hc' (by assumption) | exact absurd (by assumption) hc')
            exact ⟨j + 1, by omega, by omega, by rw [m2]; exact ⟨lee rfl (by (repeat (first | exact le_nil | refine le_eq rfl rfl ?_))), by (repeat (first | exact lo_nil | refine lo_eq rfl ?_)), rfl, rfl⟩⟩
          · rw [if_neg hc, set_same] at m2
            have hc' := hc
            rw [← ej] at hc'
            repeat' (first | (apply AOps.nil; try simp only [List.nil_append, List.cons_append, List.set_cons_zero, List.set_cons_succ, List.length_cons, List.length_nil, Nat.reduceAdd, AV.sh, AV.sh1, AV.sh0, AO.sh, List.map_cons, List.map_nil, Nat.zero_add, Nat.add_zero, setAll]) | (apply w_move; exact rfl; exact rfl) | (apply w_assign; exact rfl; exact rfl) | apply AWp.seq | apply AWp.region | ((apply AWp.condP; exact rfl) <;> intro h) | apply AWp.block | apply AWp.exit | apply AWp.skip | (apply w_len; exact rfl; exact rfl; first | exact .ints _ | exact .intss _ | exact .sli rfl | exact .sls rfl | exact .slr rfl | exact .orow rfl | exact .nil) | omega | ((first | apply w_lss | apply w_eql | apply w_add | apply w_idx | apply w_ld); iterate 3 exact rfl) | (apply w_idxo; exact rfl; exact rfl; (exact .sli rfl); exact rfl) | (apply w_ldo; iterate 4 exact rfl) | (apply inI_of <;> omega))
            all_goals try (exfalso; first | exact absurd hc' (by assumption) | exact absurd (by assumption) hc')
            exact ⟨j + 1, by omega, by omega, by rw [m2]; exact ⟨lee rfl (by (repeat (first | exact le_nil | refine le_eq rfl rfl ?_))), by (repeat (first | exact lo_nil | refine lo_eq rfl ?_)), rfl, rfl⟩⟩
        · have ej : j = L.length := by omega
          have hml2 : (mgR (idL W.length) (E.take (k + 1))).length = W.length := by rw [mgR_len, idL_len]
          rw [ej, mgT_all, ← hmt]
          repeat' (first | (apply AOps.nil; try simp only [List.nil_append, List.cons_append, List.set_cons_zero, List.set_cons_succ, List.length_cons, List.length_nil, Nat.reduceAdd, AV.sh, AV.sh1, AV.sh0, AO.sh, List.map_cons, List.map_nil, Nat.zero_add, Nat.add_zero, setAll]) | (apply w_move; exact rfl; exact rfl) | (apply w_assign; exact rfl; exact rfl) | apply AWp.seq | apply AWp.region | ((apply AWp.condP; exact rfl) <;> intro h) | apply AWp.block | apply AWp.exit | apply AWp.skip | (apply w_len; exact rfl; exact rfl; first | exact .ints _ | exact .intss _ | exact .sli rfl | exact .sls rfl | exact .slr rfl | exact .orow rfl | exact .nil) | omega | ((first | apply w_lss | apply w_add); iterate 3 exact rfl) | (apply inI_of <;> omega))
          exact ⟨k + 1, ⟨by omega, hrw, hpw, hef⟩, by omega, ⟨lee rfl (by (repeat (first | exact le_nil | refine le_eq rfl rfl ?_))), by (repeat (first | exact lo_nil | refine lo_eq rfl ?_)), rfl, rfl⟩⟩
    · have hno : gok W E = false := gok_f fun h => he (h.row _ hmem)
      unfold EIn at he
      generalize mgR (idL W.length) (E.take k) = L at *
      repeat' (first | (apply AOps.nil; try simp only [List.nil_append, List.cons_append, List.set_cons_zero, List.set_cons_succ, List.length_cons, List.length_nil, Nat.reduceAdd, AV.sh, AV.sh1, AV.sh0, AO.sh, List.map_cons, List.map_nil, Nat.zero_add, Nat.add_zero, setAll]) | (apply w_move; exact rfl; exact rfl) | (apply w_assign; exact rfl; exact rfl) | apply AWp.seq | apply AWp.region | ((apply AWp.condP; exact rfl) <;> intro h) | apply AWp.block | apply AWp.ret | apply AWp.exit | apply AWp.skip | (apply w_len; exact rfl; exact rfl; first | exact .ints _ | exact .intss _ | exact .sli rfl | exact .sls rfl | exact .slr rfl | exact .orow rfl | exact .nil) | omega | ((first | apply w_lss | apply w_idx | apply w_ld | apply w_fa); iterate 3 exact rfl) | ((first | apply w_idxs | apply w_lds); iterate 3 exact rfl) | (apply w_ldb; iterate 5 exact rfl))
      refine AWp.regionQ (by kernel_rfl) (by kernel_rfl) ?_
      repeat' (first | (apply AOps.nil; try simp only [List.nil_append, List.cons_append, List.set_cons_zero, List.set_cons_succ, List.length_cons, List.length_nil, Nat.reduceAdd, AV.sh, AV.sh1, AV.sh0, AO.sh, List.map_cons, List.map_nil, Nat.zero_add, Nat.add_zero, setAll]) | ((apply AOps.splitP; exact rfl; exact rfl) <;> intro h) | ((apply AOps.splitN; exact rfl; exact rfl) <;> intro h) | (apply w_move; exact rfl; exact rfl) | (apply w_assign; exact rfl; exact rfl) | apply AWp.seq | apply AWp.region | (apply AWp.condT; exact rfl) | apply AWp.ret | (apply w_skip; exact rfl) | (apply w_pickT; exact rfl; exact rfl; exact rfl) | (apply w_pickF; exact rfl; exact rfl; exact rfl) | (apply w_len; exact rfl; exact rfl; first | exact .ints _ | exact .intss _ | exact .sli rfl | exact .sls rfl | exact .slr rfl | exact .orow rfl | exact .nil) | (apply w_call (hi0); exact rfl; exact rfl; focus ((repeat (first | exact im_nil | refine im_cons rfl (.val _) ?_)); done)) | (apply w_call (hi1); exact rfl; exact rfl; focus ((repeat (first | exact im_nil | refine im_cons rfl (.val _) ?_)); done)) | omega | ((first | apply w_geq | apply w_neq | apply w_sub | apply w_idx | apply w_ld); iterate 3 exact rfl) | ((apply w_not); iterate 2 exact rfl) | (apply inI_of <;> omega))
      all_goals try (exfalso; omega)
      all_goals try exact .bool Try.results35 rfl hno.symm
  · have ek : k = E.length := by omega
    subst ek
    rw [List.take_length] at k1 k2 k3 ⊢
    have hyes : gok W E = true := gok_iff.2 ⟨⟨c1, c2⟩, i1, k1, k2, k3⟩
    repeat' (first | (apply AOps.nil; try simp only [List.nil_append, List.cons_append, List.set_cons_zero, List.set_cons_succ, List.length_cons, List.length_nil, Nat.reduceAdd, AV.sh, AV.sh1, AV.sh0, AO.sh, List.map_cons, List.map_nil, Nat.zero_add, Nat.add_zero, setAll]) | (apply w_move; exact rfl; exact rfl) | (apply w_assign; exact rfl; exact rfl) | apply AWp.seq | apply AWp.region | ((apply AWp.condP; exact rfl) <;> intro h) | apply AWp.block | apply AWp.ret | apply AWp.exit | apply AWp.skip | (apply w_len; exact rfl; exact rfl; first | exact .ints _ | exact .intss _ | exact .sli rfl | exact .sls rfl | exact .slr rfl | exact .orow rfl | exact .nil) | omega | ((first | apply w_lss | apply w_ld | apply w_fa); iterate 3 exact rfl) | (apply w_ldb; iterate 5 exact rfl))
    all_goals exact .bool Try.results35 rfl hyes.symm
end Go.Proofs.Ytbalbiliejjnoaa
